/-
  Texts of this proof, joined: TkQ, BmB, TkW, TkX, TkY, TkZ, TlA, TlB, TlC, CoK, CoL, CoM, CoN, CoO, CoP, CoQ, CoR, TlD.
  Conditions: none.
-/
import Derived.Test.YtmadddihphkmoaaGreatDoorEd
import Derived.Test.YtmadddihphkmoaaGreatDoorEb
import Derived.Test.YtmadddihphkmoaaGreatDoorEc
set_option linter.unusedSimpArgs false
set_option linter.unnecessarySimpa false
set_option linter.unusedVariables false
/-
  Contracts: show, lives of the laws.
  Conditions: none.
-/
namespace Go.Proofs.YtmadddihphkmoaaGreatDoor
open Go.AM
open Go.Proofs
open Go.Col
open Go.Tok
open Go.RowKit (Below)
set_option maxRecDepth 100000

def lettE : Str := [63, 87, 78, 81, 80, 83, 46, 61]
def showGo : List TokC → Str → Str
  | [], out => out
  | t :: r, out => if 7 < t.kind.toNat then [63] else showGo r (out ++ [lettE.getD t.kind.toNat 0] ++ t.text ++ [124])
def showE (s : Str) : Str × FaultC := (showGo (sourceE (sp 11 ++ s) false).1 [], (sourceE (sp 11 ++ s) false).2)
theorem showGo_next {l : List TokC} {i : Nat} (hi : i < l.length) (out : Str) : showGo (l.drop i) out = if 7 < (l.getD i badT).kind.toNat then [63] else showGo (l.drop (i + 1)) (out ++ [lettE.getD (l.getD i badT).kind.toNat 0] ++ (l.getD i badT).text ++ [124]) := by
  rw [List.drop_eq_getElem_cons hi, showGo]
  simp [List.getD, hi]
theorem lett_cut (k : Nat) (h : k ≤ 7) : (lettE.drop k).take (k + 1 - k) = [lettE.getD k 0] := by
  have : k = 0 ∨ k = 1 ∨ k = 2 ∨ k = 3 ∨ k = 4 ∨ k = 5 ∨ k = 6 ∨ k = 7 := by omega
  rcases this with q | q | q | q | q | q | q | q <;> subst q <;> rfl
theorem tok_at {w₀ : World} {h : AHeap} {lc : AM.Loc} {o : Nat} {c : Cap} {l : List TokC} (ht : IsL w₀ h 5 (.slice lc o l.length c) (l.map tokC)) {i : Nat} (hi : i < l.length) :
    rd w₀ h lc (o + i * 5) = .int .u8 (l.getD i badT).kind.toNat ∧ rd w₀ h lc (o + i * 5 + 1) = .str (l.getD i badT).text ∧ rd w₀ h lc (o + i * 5 + 2) = .int .i64 (l.getD i badT).line ∧ rd w₀ h lc (o + i * 5 + 3) = .int .i64 (l.getD i badT).col ∧ rd w₀ h lc (o + i * 5 + 4) = .bool (l.getD i badT).left := by
  have he := ht.elem (i := i) (by rw [List.length_map]; exact hi)
  rw [getD_map badT hi] at he
  simp only [cellsAt, tokC, List.cons.injEq, and_true] at he
  exact he
theorem tok_open {w₀ : World} {h : AHeap} {v : AVal} {l : List TokC} (ht : IsL w₀ h 5 v (l.map tokC)) (hn : 0 < l.length) : ∃ lc o c, v = .slice lc o l.length c := by
  obtain ⟨lc, o, c, e⟩ := ht.open (fun e => by rw [List.map_eq_nil_iff] at e; subst e; simp at hn)
  rw [List.length_map] at e
  exact ⟨lc, o, c, e⟩
theorem tok_len {w₀ : World} {h : AHeap} {v : AVal} {l : List TokC} (ht : IsL w₀ h 5 v (l.map tokC)) : pLen Tryz.prog 25 v = ⟨True, .int .i64 l.length⟩ := by
  have := ht.len Tryz.underlying25
  rwa [List.length_map] at this
structure ShG where
  i : Nat
  out : Str
theorem c_show (w₀ : World) (hm : MaxL w₀) (h : AHeap) (s : Str) (hl : s.length ≤ 1000000) : ACall Tryz.prog w₀ 18 [.str s] h (fun v h' => v = .tuple [.str (showE s).1, faultA (showE s).2] ∧ h' = h) := by
  have hsp : (sp 11 ++ s).length ≤ 9223372036854775807 := by simp [sp]; omega
  obtain ⟨z1, z2⟩ := source_small (sp 11 ++ s) false
  refine acall_intro (n := 50) (rs := [.tmp 2, .cell 3 31]) Tryz.func18 rfl rfl rfl rfl (Nat.le_of_ble_eq_true rfl) ?_
  simp only [initSlots]
  refine awp_rseq [0, 3] (by rfl) fun K hK => ?_
  simp +decide only [ev, absV, absS, putD, Slots.put, if_false, true_and, ↓ap_assign, pop_assign]
  refine aOps_alloc ze31 (cs := [.int .i64 0, .int .i64 0, .int .i64 0]) (by rfl) fun k0q1 hk0q1 => ?_
  try have hf_0q1 : h k0q1 = none := by first | assumption | (simp only [AHeap.set_none] at hk0q1; simp only [hk0q1])
  simp +decide only [aOps_nil, putD, Slots.put, Slots.keep, if_true, if_false]
  apply hK; clear hK K
  refine awp_rseq [3, 4, 5] (by rfl) fun K hK => ?_
  simp +decide only [ev, absV, absS, putD, Slots.put, Slots.get, if_true, if_false, true_and, ↓ap_move, pop_move, ↓ap_binOp, pop_binOp, isNilC_tmp, cond_false, pBinX_str, pS_add]
  repeat (with_reducible refine And.intro ?_ ?_; · first | trivial | omega | (intro hg; simp only [Bool.and_eq_true, Bool.or_eq_true, Bool.not_eq_true', Bool.and_eq_false_iff, Bool.or_eq_false_iff, Bool.not_eq_false', decide_eq_true_eq, decide_eq_false_iff_not, eqNil] at hg; omega) | (simp only [List.length_cons, List.length_nil]; omega))
  refine aOps_call (by rfl) (by rfl) (c_Source w₀ hm _ (sp 11 ++ s) false hsp) fun x1q2 h1q2 hx1q2 => ?_
  obtain ⟨tv, hv1, htv, hs1⟩ := hx1q2.toks (w₀ := w₀)
  obtain ⟨R, hR⟩ : ∃ R, R = sourceE (sp 11 ++ s) false := ⟨_, rfl⟩
  have hsE : showE s = (showGo R.1 [], R.2) := by rw [hR]; rfl
  rw [← hR] at htv hv1 z1 z2
  obtain ⟨l, hl'⟩ : ∃ l, l = R.1 := ⟨_, rfl⟩
  obtain ⟨v, hv⟩ : ∃ v, v = capL tv := ⟨_, rfl⟩
  rw [← hl'] at htv hsE z1 z2
  rw [← hv] at htv hv1
  rw [hv1]
  have hs_h1q2 : Sub h h1q2 := Sub.trans (by repeat (first | exact Sub.refl _ | assumption | refine Sub.trans_set ?_ (by assumption))) hs1
  have hr_h1q2 := hs_h1q2
  have eb_0q1 := hs1 k0q1 _ (by repeat (first | exact AHeap.set_same _ _ _ | assumption | refine (AHeap.set_ne _ _ (by first | assumption | exact Ne.symm (by assumption))).trans ?_))
  simp +decide only [ev, putD, Slots.put, Slots.get, if_true, if_false, true_and, ↓ap_move, pop_move, ↓ap_extract, pop_extract, pExt_tuple, List.length_cons, List.length_nil, List.getD_cons_zero, List.getD_cons_succ, List.getD_cons_zero, List.getD_cons_succ, Nat.zero_add, Nat.reduceAdd, faultA]
  refine aOps_alloc ze31 (cs := [.int .i64 0, .int .i64 0, .int .i64 0]) (by rfl) fun k1q6 hk1q6 => ?_
  have hn_1q6 : h1q2 k1q6 = none := by first | assumption | (simp only [AHeap.set_none] at hk1q6; simp only [hk1q6])
  have hf_1q6 : h k1q6 = none := Sub.none hs_h1q2 hn_1q6
  have ne_1q6_0q1 : k1q6 ≠ k0q1 := AHeap.ne_some hn_1q6 eb_0q1
  simp +decide only [ev, putD, Slots.put, Slots.get, if_true, if_false, true_and, ↓ap_assign, pop_assign]
  refine aOps_store (by rfl) (by rfl) (by repeat (first | exact AHeap.set_same _ _ _ | assumption | refine (AHeap.set_ne _ _ (by first | assumption | exact Ne.symm (by assumption))).trans ?_)) sz31 (by rfl) (by rfl) (by first | exact Nat.le_refl _ | decide | (simp; done) | (simp; omega)) (Nat.zero_le _) (by rfl) ?_
  simp only [AHeap.set_set, AVal.cells]
  simp +decide only [aOps_nil, ev, putD, Slots.get, Slots.keep, if_true, if_false, setAt, List.set_cons_zero, List.set_cons_succ, Nat.zero_add, Nat.reduceAdd]
  apply hK; clear hK K
  refine awp_rseq [3, 4, 5, 6] (by rfl) fun K hK => ?_
  simp +decide only [aOps_nil, ev, absV, absS, putD, Slots.put, Slots.keep, if_true, if_false, true_and, ↓ap_assign, pop_assign]
  apply hK; clear hK K
  refine awp_seq ?_
  refine awp_rseq [3, 4, 5, 6, 7] (by rfl) fun K hK => ?_
  simp +decide only [aOps_nil, ev, absV, absS, putD, Slots.put, Slots.keep, if_true, if_false, true_and, ↓ap_assign, pop_assign]
  apply hK; clear hK K
  refine awp_block ?_
  refine awp_loopG [3, 4, 5, 6, 7] (fun g : ShG => [(3, .ptr (.own k0q1) 0), (4, v), (5, .ptr (.own k1q6) 0), (6, .str g.out), (7, .int .i64 g.i)]) (fun g : ShG => h1q2.set k1q6 ⟨[.int .i64 R.2.e, .int .i64 R.2.line, .int .i64 R.2.col], 0⟩) (fun g : ShG => g.i ≤ l.length ∧ showGo (l.drop g.i) g.out = showGo l [] ∧ g.out.length ≤ g.i * 83886170) (fun g : ShG => l.length - g.i) ⟨0, []⟩ (by rfl) (Sub.refl _) ⟨Nat.zero_le _, rfl, Nat.zero_le _⟩ ?_
  rintro ⟨i, out⟩ ⟨i1, i2, i3⟩
  simp only at i1 i2 i3 ⊢
  have hlv := htv.live
  have hlen := tok_len htv
  refine awp_seq ?_
  refine awp_rseq [3, 4, 5, 6, 7, 17] (by rfl) fun K hK => ?_
  simp +decide only [aOps_nil, ev, putD, Slots.put, Slots.get, Slots.keep, if_true, if_false, true_and, ↓ap_move, pop_move, ↓ap_len, pop_len, ↓ap_binOp, pop_binOp, isNilC_tmp, cond_false, pBinX_int, pI_lss, hlen]
  apply hK; clear hK K
  refine awp_cond (b := _) rfl (fun hb1 => ?_) (fun hb1 => ?_)
  · try simp only [decide_eq_true_eq] at hb1
    have hi : i < l.length := by omega
    obtain ⟨lc, o, c, rfl⟩ := tok_open htv (by omega)
    have hS : Sub h1q2 (h1q2.set k1q6 ⟨[.int .i64 R.2.e, .int .i64 R.2.line, .int .i64 R.2.col], 0⟩) := Sub.set hn_1q6
    obtain ⟨e0, e1, _, _, _⟩ := tok_at (htv.mono hS) hi
    obtain ⟨t, ht⟩ : ∃ t, t = l.getD i badT := ⟨_, rfl⟩
    have hnx := showGo_next hi out
    have htb := z2 t (by rw [ht, List.getD, List.getElem?_eq_getElem hi]; exact List.getElem_mem hi)
    have hob : out.length ≤ 65536 * 83886170 := Nat.le_trans i3 (Nat.mul_le_mul_right _ (by omega))
    rw [← ht] at e0 e1 hnx
    rw [i2] at hnx
    refine awp_skip ?_
    change Awp _ _ _ _ _ _ _
    refine awp_seq ?_
    refine awp_block ?_
    refine awp_seq ?_
    refine awp_rseq [3, 4, 5, 6, 7, 25] (by rfl) fun K hK => ?_
    simp +decide only [aOps_nil, ev, absV, absS, putD, Slots.put, Slots.get, Slots.keep, if_true, if_false, true_and, ↓ap_move, pop_move, ↓ap_indexAddrL, apL_mk, pIndexAddr_slice Tryz.underlying25 sz38, ↓ap_fieldAddr, pop_fieldAddr, fa38_0, ↓ap_loadL, pLoad_one ag36, ↓ap_binOp, pop_binOp, isNilC_int, cond_false, pBinX_int, pI_gtr, lv_int, Int.toNat_natCast, Nat.add_zero, e0]
    repeat (with_reducible refine And.intro ?_ ?_; · first | trivial | omega | (intro hg; simp only [Bool.and_eq_true, Bool.or_eq_true, Bool.not_eq_true', Bool.and_eq_false_iff, Bool.or_eq_false_iff, Bool.not_eq_false', decide_eq_true_eq, decide_eq_false_iff_not, eqNil] at hg; omega) | (simp only [List.length_append, List.length_map, List.length_range, List.length_replicate, List.length_take, List.length_drop, List.length_cons, List.length_nil, List.length_set, List.length_reverse]; omega))
    apply hK; clear hK K
    refine awp_cond (b := _) rfl (fun hb2 => ?_) (fun hb2 => ?_)
    · try simp only [decide_eq_true_eq] at hb2
      rw [if_pos (by omega)] at hnx
      refine awp_dseq_tail 2 [2, 3] mixed (by kernel_rfl) (by rfl) (by rfl) fun K hK => ?_
      simp +decide only [ev, absV, absS, putD, Slots.put, Slots.get, if_true, if_false, true_and, ↓ap_loadL, apL_mk, pLoad_agg ag31 sz31, ↓ap_assign, pop_assign, rd_any, cellsAt, List.getD_cons_zero, List.getD_cons_succ, Nat.zero_add, Nat.reduceAdd, lv_int, allLive, Bool.and_true]
      refine aOps_store (by rfl) (by rfl) (by repeat (first | exact AHeap.set_same _ _ _ | assumption | refine (AHeap.set_ne _ _ (by first | assumption | exact Ne.symm (by assumption))).trans ?_)) sz31 (by rfl) (by rfl) (by first | exact Nat.le_refl _ | decide | (simp; done) | (simp; omega)) (Nat.zero_le _) (by rfl) ?_
      simp only [AVal.cells]
      simp +decide only [aOps_nil, ev, putD, Slots.get, Slots.keep, if_true, if_false, setAt, List.set_cons_zero, List.set_cons_succ, Nat.zero_add, Nat.reduceAdd]
      apply hK; clear hK K
      refine awp_ret ?_
      try simp only [thenA_ret, inBlockA_ret]
      refine retA_ret h (by repeat (first | exact Sub.refl _ | assumption | refine Sub.trans_set ?_ (by assumption))) (?_) ?_
      · simp +decide only [resPre, resV_tmp, resV_cell, Slots.get, if_true, if_false, and_true, resV_tmp, resV_cell, pLoad_agg ag31 sz31, rd_set, cellsAt, List.getD_cons_zero, List.getD_cons_succ, Nat.zero_add, Nat.reduceAdd, lv_int, allLive, Bool.and_true, cellsAt, List.getD_cons_zero, List.getD_cons_succ, Nat.zero_add, Nat.reduceAdd, lv_int, allLive, Bool.and_true]
      
      simp +decide only [Slots.get, if_true, if_false, and_true, resOfG_two, resV_tmp, resV_cell, pLoad_agg ag31 sz31, rd_set, cellsAt, List.getD_cons_zero, List.getD_cons_succ, Nat.zero_add, Nat.reduceAdd, lv_int, allLive, Bool.and_true, cellsAt, List.getD_cons_zero, List.getD_cons_succ, Nat.zero_add, Nat.reduceAdd, lv_int, allLive, Bool.and_true, faultA]
      rw [hsE, hnx]
    · try simp only [decide_eq_false_iff_not] at hb2
      have hk7 : t.kind.toNat ≤ 7 := by omega
      rw [if_neg (by omega)] at hnx
      have hcut : (List.drop t.kind.toNat ([63, 87, 78, 81, 80, 83, 46, 61] : Str)).take (((t.kind.toNat : Int) + 1).toNat - t.kind.toNat) = [lettE.getD t.kind.toNat 0] := by
        rw [show ((t.kind.toNat : Int) + 1).toNat = t.kind.toNat + 1 by omega]
        exact lett_cut _ hk7
      refine awp_skip ?_
      change Awp _ _ _ _ _ _ _
      refine awp_draw_all mixed (by kernel_rfl) (by rfl) (by rfl) ?_
      simp +decide only [ev, absV, absS, putD, Slots.put, Slots.get, if_true, if_false, true_and, ↓ap_move, pop_move, ↓ap_indexAddrL, apL_mk, pIndexAddr_slice Tryz.underlying25 sz38, ↓ap_fieldAddr, pop_fieldAddr, fa38_0, ↓ap_loadL, pLoad_one ag36, ↓ap_binOp, pop_binOp, isNilC_int, cond_false, pBinX_int, pI_add, lv_int, faultA, Int.toNat_natCast, Nat.add_zero, e0]
      try simp (disch := omega) only [wrap_u8]
      try simp +decide only [aOps_nil, ev, absV, absS, putD, Slots.put, Slots.get, if_true, if_false, true_and, ↓ap_slice, pop_slice, evO, pSliceS_ii Tryz.underlying9, pSliceS, bndA_int, ↓ap_binOp, pop_binOp, isNilC_tmp, cond_false, pBinX_str, pS_add, ↓ap_move, pop_move, ↓ap_indexAddrL, apL_mk, pIndexAddr_slice Tryz.underlying25 sz38, ↓ap_fieldAddr, pop_fieldAddr, fa38_1, ↓ap_loadL, pLoad_one ag9, isNilC_str, ↓ap_assign, pop_assign, lv_str, Int.toNat_natCast, e1]
      rw [hcut]
      repeat (with_reducible refine And.intro ?_ ?_; · first | trivial | omega | (simp only [List.length_append, List.length_cons, List.length_nil]; omega))
      change Awp _ _ _ _ _ _ _
      refine awp_r [3, 4, 5, 6, 7] (by rfl) ?_
      simp +decide only [aOps_nil, ev, absV, absS, putD, Slots.put, Slots.get, Slots.keep, if_true, if_false, true_and, ↓ap_move, pop_move, ↓ap_binOp, pop_binOp, isNilC_int, cond_false, pBinX_int, pI_add, ↓ap_assign, pop_assign]
      try simp (disch := omega) only [wrap_i64]
      try simp only [thenA_normal]
      exact ⟨⟨i + 1, out ++ [lettE.getD t.kind.toNat 0] ++ t.text ++ [124]⟩, rfl, Sub.refl _, ⟨hi, hnx.symm, by simp only [List.length_append, List.length_cons, List.length_nil]; omega⟩, by simp only; omega⟩
  · try simp only [decide_eq_false_iff_not] at hb1
    refine awp_exit ?_
    change Awp _ _ _ _ _ _ _
    refine awp_dseq_tail 3 [2, 3] mixed (by kernel_rfl) (by rfl) (by rfl) fun K hK => ?_
    simp +decide only [ev, putD, Slots.put, Slots.get, if_true, if_false, true_and, ↓ap_move, pop_move, ↓ap_loadL, apL_mk, pLoad_agg ag31 sz31, ↓ap_assign, pop_assign, rd_any, cellsAt, List.getD_cons_zero, List.getD_cons_succ, Nat.zero_add, Nat.reduceAdd, lv_int, allLive, Bool.and_true]
    refine aOps_store (by rfl) (by rfl) (by repeat (first | exact AHeap.set_same _ _ _ | assumption | refine (AHeap.set_ne _ _ (by first | assumption | exact Ne.symm (by assumption))).trans ?_)) sz31 (by rfl) (by rfl) (by first | exact Nat.le_refl _ | decide | (simp; done) | (simp; omega)) (Nat.zero_le _) (by rfl) ?_
    simp only [AVal.cells]
    simp +decide only [aOps_nil, ev, putD, Slots.get, Slots.keep, if_true, if_false, setAt, List.set_cons_zero, List.set_cons_succ, Nat.zero_add, Nat.reduceAdd]
    apply hK; clear hK K
    refine awp_ret ?_
    refine retA_ret h (by repeat (first | exact Sub.refl _ | assumption | refine Sub.trans_set ?_ (by assumption))) (?_) ?_
    · simp +decide only [resPre, resV_tmp, resV_cell, Slots.get, if_true, if_false, and_true, resV_tmp, resV_cell, pLoad_agg ag31 sz31, rd_set, cellsAt, List.getD_cons_zero, List.getD_cons_succ, Nat.zero_add, Nat.reduceAdd, lv_int, allLive, Bool.and_true, cellsAt, List.getD_cons_zero, List.getD_cons_succ, Nat.zero_add, Nat.reduceAdd, lv_int, allLive, Bool.and_true]
    
    simp +decide only [Slots.get, if_true, if_false, and_true, resOfG_two, resV_tmp, resV_cell, pLoad_agg ag31 sz31, rd_set, cellsAt, List.getD_cons_zero, List.getD_cons_succ, Nat.zero_add, Nat.reduceAdd, lv_int, allLive, Bool.and_true, cellsAt, List.getD_cons_zero, List.getD_cons_succ, Nat.zero_add, Nat.reduceAdd, lv_int, allLive, Bool.and_true, faultA]
    rw [hsE, ← i2, List.drop_eq_nil_of_le (by omega)]
    rfl
theorem sh1 : showE [109, 111, 118, 101, 32, 45, 49, 46, 53, 48, 32, 116, 111, 32, 65, 45, 49, 44, 32, 98, 40, 50, 41, 46] = ([87, 77, 79, 86, 69, 124, 78, 45, 49, 46, 53, 48, 124, 87, 84, 79, 124, 87, 65, 45, 49, 124, 87, 66, 124, 83, 40, 124, 78, 50, 124, 83, 41, 124, 46, 46, 124], ⟨0, 0, 0⟩) := by kernel_rfl
theorem sh2 : showE [48, 53, 32, 88, 32, 80, 73, 67, 32, 57, 40, 51, 41, 118, 57, 57, 46] = ([78, 48, 53, 124, 87, 88, 124, 87, 80, 73, 67, 124, 80, 57, 40, 51, 41, 86, 57, 57, 124, 46, 46, 124], ⟨0, 0, 0⟩) := by kernel_rfl
theorem sh3 : showE [65, 32, 45, 32, 49, 32, 42, 42, 32, 46, 53, 32, 60, 61, 32, 34, 66, 34, 34, 67, 34] = ([87, 65, 124, 83, 45, 124, 78, 49, 124, 83, 42, 42, 124, 78, 46, 53, 124, 83, 60, 61, 124, 81, 66, 34, 67, 124], ⟨0, 0, 0⟩) := by kernel_rfl
theorem sh4 : showE [61, 61, 49, 65, 61, 61, 32, 66, 89, 32, 55, 46] = ([61, 61, 61, 124, 87, 49, 65, 124, 61, 61, 61, 124, 87, 66, 89, 124, 78, 55, 124, 46, 46, 124], ⟨0, 0, 0⟩) := by kernel_rfl
theorem sh5 : (showE [88, 32, 65, 45, 44, 32, 89]).2 = ⟨4, 1, 14⟩ := by kernel_rfl
theorem sh6 : (showE [34, 34]).2 = ⟨4, 1, 12⟩ := by kernel_rfl
theorem sh7 : (showE [49, 45, 50]).2 = ⟨4, 1, 12⟩ := by kernel_rfl
theorem sh8 : (showE [80, 73, 67, 32, 46]).2 = ⟨4, 1, 16⟩ := by kernel_rfl
theorem sh9 : (showE [80, 73, 67, 32, 65, 34, 66, 34]).2 = ⟨4, 1, 16⟩ := by kernel_rfl
theorem c_showV (w₀ : World) (hm : MaxL w₀) (h : AHeap) (s : Str) (hl : s.length ≤ 1000000) {a : Str} {f : FaultC} (hs : showE s = (a, f)) : ACall Tryz.prog w₀ 18 [.str s] h (fun v h' => v = .tuple [.str a, faultA f] ∧ h' = h) := by
  have := c_show w₀ hm h s hl
  rw [hs] at this
  exact this
theorem c_showF (w₀ : World) (hm : MaxL w₀) (h : AHeap) (s : Str) (hl : s.length ≤ 1000000) {f : FaultC} (hs : (showE s).2 = f) : ACall Tryz.prog w₀ 18 [.str s] h (fun v h' => v = .tuple [.str (showE s).1, faultA f] ∧ h' = h) := by
  have := c_show w₀ hm h s hl
  rw [hs] at this
  exact this
set_option maxHeartbeats 2000000 in
theorem c_lives03 (w₀ : World) (hm : MaxL w₀) (h : AHeap) : ACall Tryz.prog w₀ 7 [] h (fun v h' => v = .bool true ∧ h' = h) := by
  refine acall_intro (n := 117) (rs := [.tmp 0]) Tryz.func7 rfl rfl rfl rfl (Nat.le_of_ble_eq_true rfl) ?_
  simp only [initSlots]
  refine awp_rseq [] (by rfl) fun K hK => ?_
  simp +decide only [aOps_nil, ev, absV, absS, putD, Slots.put, Slots.keep, if_false, true_and, ↓ap_assign, pop_assign]
  apply hK; clear hK K
  refine awp_rseq [1, 2] (by rfl) fun K hK => ?_
  refine aOps_callV (V := .tuple [.str [87, 77, 79, 86, 69, 124, 78, 45, 49, 46, 53, 48, 124, 87, 84, 79, 124, 87, 65, 45, 49, 124, 87, 66, 124, 83, 40, 124, 78, 50, 124, 83, 41, 124, 46, 46, 124], faultA ⟨0, 0, 0⟩]) (by rfl) (by rfl) (c_showV w₀ hm _ _ (by decide) sh1) ?_
  simp +decide only [ev, putD, Slots.put, Slots.get, if_true, if_false, true_and, ↓ap_move, pop_move, ↓ap_extract, pop_extract, pExt_tuple, List.getD_cons_zero, List.getD_cons_succ, List.getD_cons_zero, List.getD_cons_succ, faultA]
  refine aOps_alloc ze31 (cs := [.int .i64 0, .int .i64 0, .int .i64 0]) (by rfl) fun k1q4 hk1q4 => ?_
  try have hf_1q4 : h k1q4 = none := by first | assumption | (simp only [AHeap.set_none] at hk1q4; simp only [hk1q4])
  simp +decide only [ev, putD, Slots.put, Slots.get, if_true, if_false, true_and, ↓ap_assign, pop_assign]
  refine aOps_store (by rfl) (by rfl) (by repeat (first | exact AHeap.set_same _ _ _ | assumption | refine (AHeap.set_ne _ _ (by first | assumption | exact Ne.symm (by assumption))).trans ?_)) sz31 (by rfl) (by rfl) (by first | exact Nat.le_refl _ | decide | (simp; done) | (simp; omega)) (Nat.zero_le _) (by rfl) ?_
  simp only [AHeap.set_set, AVal.cells]
  simp +decide only [aOps_nil, ev, putD, Slots.get, Slots.keep, if_true, if_false, setAt, List.set_cons_zero, List.set_cons_succ, Nat.zero_add, Nat.reduceAdd]
  apply hK; clear hK K
  refine awp_rseq [1, 2, 3, 4] (by rfl) fun K hK => ?_
  refine aOps_callV (V := .tuple [.str [78, 48, 53, 124, 87, 88, 124, 87, 80, 73, 67, 124, 80, 57, 40, 51, 41, 86, 57, 57, 124, 46, 46, 124], faultA ⟨0, 0, 0⟩]) (by rfl) (by rfl) (c_showV w₀ hm _ _ (by decide) sh2) ?_
  simp +decide only [ev, putD, Slots.put, Slots.get, if_true, if_false, true_and, ↓ap_move, pop_move, ↓ap_extract, pop_extract, pExt_tuple, List.getD_cons_zero, List.getD_cons_succ, List.getD_cons_zero, List.getD_cons_succ, faultA]
  refine aOps_alloc ze31 (cs := [.int .i64 0, .int .i64 0, .int .i64 0]) (by rfl) fun k2q4 hk2q4 => ?_
  have ne_2q4_1q4 : k2q4 ≠ k1q4 := by simp only [AHeap.set_none] at hk2q4; simp only [hk2q4, ne_eq, not_false_eq_true]
  try have hf_2q4 : h k2q4 = none := by first | assumption | (simp only [AHeap.set_none] at hk2q4; simp only [hk2q4])
  simp +decide only [ev, putD, Slots.put, Slots.get, if_true, if_false, true_and, ↓ap_assign, pop_assign]
  refine aOps_store (by rfl) (by rfl) (by repeat (first | exact AHeap.set_same _ _ _ | assumption | refine (AHeap.set_ne _ _ (by first | assumption | exact Ne.symm (by assumption))).trans ?_)) sz31 (by rfl) (by rfl) (by first | exact Nat.le_refl _ | decide | (simp; done) | (simp; omega)) (Nat.zero_le _) (by rfl) ?_
  simp only [AHeap.set_set, AVal.cells]
  simp +decide only [aOps_nil, ev, putD, Slots.get, Slots.keep, if_true, if_false, setAt, List.set_cons_zero, List.set_cons_succ, Nat.zero_add, Nat.reduceAdd]
  apply hK; clear hK K
  refine awp_rseq [1, 2, 3, 4, 5, 6] (by rfl) fun K hK => ?_
  refine aOps_callV (V := .tuple [.str [87, 65, 124, 83, 45, 124, 78, 49, 124, 83, 42, 42, 124, 78, 46, 53, 124, 83, 60, 61, 124, 81, 66, 34, 67, 124], faultA ⟨0, 0, 0⟩]) (by rfl) (by rfl) (c_showV w₀ hm _ _ (by decide) sh3) ?_
  simp +decide only [ev, putD, Slots.put, Slots.get, if_true, if_false, true_and, ↓ap_move, pop_move, ↓ap_extract, pop_extract, pExt_tuple, List.getD_cons_zero, List.getD_cons_succ, List.getD_cons_zero, List.getD_cons_succ, faultA]
  refine aOps_alloc ze31 (cs := [.int .i64 0, .int .i64 0, .int .i64 0]) (by rfl) fun k3q4 hk3q4 => ?_
  have ne_3q4_1q4 : k3q4 ≠ k1q4 := by simp only [AHeap.set_none] at hk3q4; simp only [hk3q4, ne_eq, not_false_eq_true]
  have ne_3q4_2q4 : k3q4 ≠ k2q4 := by simp only [AHeap.set_none] at hk3q4; simp only [hk3q4, ne_eq, not_false_eq_true]
  try have hf_3q4 : h k3q4 = none := by first | assumption | (simp only [AHeap.set_none] at hk3q4; simp only [hk3q4])
  simp +decide only [ev, putD, Slots.put, Slots.get, if_true, if_false, true_and, ↓ap_assign, pop_assign]
  refine aOps_store (by rfl) (by rfl) (by repeat (first | exact AHeap.set_same _ _ _ | assumption | refine (AHeap.set_ne _ _ (by first | assumption | exact Ne.symm (by assumption))).trans ?_)) sz31 (by rfl) (by rfl) (by first | exact Nat.le_refl _ | decide | (simp; done) | (simp; omega)) (Nat.zero_le _) (by rfl) ?_
  simp only [AHeap.set_set, AVal.cells]
  simp +decide only [aOps_nil, ev, putD, Slots.get, Slots.keep, if_true, if_false, setAt, List.set_cons_zero, List.set_cons_succ, Nat.zero_add, Nat.reduceAdd]
  apply hK; clear hK K
  refine awp_rseq [1, 2, 3, 4, 5, 6, 7, 8] (by rfl) fun K hK => ?_
  refine aOps_callV (V := .tuple [.str [61, 61, 61, 124, 87, 49, 65, 124, 61, 61, 61, 124, 87, 66, 89, 124, 78, 55, 124, 46, 46, 124], faultA ⟨0, 0, 0⟩]) (by rfl) (by rfl) (c_showV w₀ hm _ _ (by decide) sh4) ?_
  simp +decide only [ev, putD, Slots.put, Slots.get, if_true, if_false, true_and, ↓ap_move, pop_move, ↓ap_extract, pop_extract, pExt_tuple, List.getD_cons_zero, List.getD_cons_succ, List.getD_cons_zero, List.getD_cons_succ, faultA]
  refine aOps_alloc ze31 (cs := [.int .i64 0, .int .i64 0, .int .i64 0]) (by rfl) fun k4q4 hk4q4 => ?_
  have ne_4q4_1q4 : k4q4 ≠ k1q4 := by simp only [AHeap.set_none] at hk4q4; simp only [hk4q4, ne_eq, not_false_eq_true]
  have ne_4q4_2q4 : k4q4 ≠ k2q4 := by simp only [AHeap.set_none] at hk4q4; simp only [hk4q4, ne_eq, not_false_eq_true]
  have ne_4q4_3q4 : k4q4 ≠ k3q4 := by simp only [AHeap.set_none] at hk4q4; simp only [hk4q4, ne_eq, not_false_eq_true]
  try have hf_4q4 : h k4q4 = none := by first | assumption | (simp only [AHeap.set_none] at hk4q4; simp only [hk4q4])
  simp +decide only [ev, putD, Slots.put, Slots.get, if_true, if_false, true_and, ↓ap_assign, pop_assign]
  refine aOps_store (by rfl) (by rfl) (by repeat (first | exact AHeap.set_same _ _ _ | assumption | refine (AHeap.set_ne _ _ (by first | assumption | exact Ne.symm (by assumption))).trans ?_)) sz31 (by rfl) (by rfl) (by first | exact Nat.le_refl _ | decide | (simp; done) | (simp; omega)) (Nat.zero_le _) (by rfl) ?_
  simp only [AHeap.set_set, AVal.cells]
  simp +decide only [aOps_nil, ev, putD, Slots.get, Slots.keep, if_true, if_false, setAt, List.set_cons_zero, List.set_cons_succ, Nat.zero_add, Nat.reduceAdd]
  apply hK; clear hK K
  refine awp_rseq [1, 2, 3, 4, 5, 6, 7, 8, 10] (by rfl) fun K hK => ?_
  refine aOps_callV (V := .tuple [.str (showE [88, 32, 65, 45, 44, 32, 89]).1, faultA ⟨4, 1, 14⟩]) (by rfl) (by rfl) (c_showF w₀ hm _ _ (by decide) sh5) ?_
  simp +decide only [ev, putD, Slots.put, Slots.get, if_true, if_false, true_and, ↓ap_move, pop_move, ↓ap_extract, pop_extract, pExt_tuple, List.getD_cons_zero, List.getD_cons_succ, List.getD_cons_zero, List.getD_cons_succ, faultA]
  refine aOps_alloc ze31 (cs := [.int .i64 0, .int .i64 0, .int .i64 0]) (by rfl) fun k5q4 hk5q4 => ?_
  have ne_5q4_1q4 : k5q4 ≠ k1q4 := by simp only [AHeap.set_none] at hk5q4; simp only [hk5q4, ne_eq, not_false_eq_true]
  have ne_5q4_2q4 : k5q4 ≠ k2q4 := by simp only [AHeap.set_none] at hk5q4; simp only [hk5q4, ne_eq, not_false_eq_true]
  have ne_5q4_3q4 : k5q4 ≠ k3q4 := by simp only [AHeap.set_none] at hk5q4; simp only [hk5q4, ne_eq, not_false_eq_true]
  have ne_5q4_4q4 : k5q4 ≠ k4q4 := by simp only [AHeap.set_none] at hk5q4; simp only [hk5q4, ne_eq, not_false_eq_true]
  try have hf_5q4 : h k5q4 = none := by first | assumption | (simp only [AHeap.set_none] at hk5q4; simp only [hk5q4])
  simp +decide only [ev, putD, Slots.put, Slots.get, if_true, if_false, true_and, ↓ap_assign, pop_assign]
  refine aOps_store (by rfl) (by rfl) (by repeat (first | exact AHeap.set_same _ _ _ | assumption | refine (AHeap.set_ne _ _ (by first | assumption | exact Ne.symm (by assumption))).trans ?_)) sz31 (by rfl) (by rfl) (by first | exact Nat.le_refl _ | decide | (simp; done) | (simp; omega)) (Nat.zero_le _) (by rfl) ?_
  simp only [AHeap.set_set, AVal.cells]
  simp +decide only [aOps_nil, ev, putD, Slots.get, Slots.keep, if_true, if_false, setAt, List.set_cons_zero, List.set_cons_succ, Nat.zero_add, Nat.reduceAdd]
  apply hK; clear hK K
  refine awp_rseq [1, 2, 3, 4, 5, 6, 7, 8, 10, 12] (by rfl) fun K hK => ?_
  refine aOps_callV (V := .tuple [.str (showE [34, 34]).1, faultA ⟨4, 1, 12⟩]) (by rfl) (by rfl) (c_showF w₀ hm _ _ (by decide) sh6) ?_
  simp +decide only [ev, putD, Slots.put, Slots.get, if_true, if_false, true_and, ↓ap_move, pop_move, ↓ap_extract, pop_extract, pExt_tuple, List.getD_cons_zero, List.getD_cons_succ, List.getD_cons_zero, List.getD_cons_succ, faultA]
  refine aOps_alloc ze31 (cs := [.int .i64 0, .int .i64 0, .int .i64 0]) (by rfl) fun k6q4 hk6q4 => ?_
  have ne_6q4_1q4 : k6q4 ≠ k1q4 := by simp only [AHeap.set_none] at hk6q4; simp only [hk6q4, ne_eq, not_false_eq_true]
  have ne_6q4_2q4 : k6q4 ≠ k2q4 := by simp only [AHeap.set_none] at hk6q4; simp only [hk6q4, ne_eq, not_false_eq_true]
  have ne_6q4_3q4 : k6q4 ≠ k3q4 := by simp only [AHeap.set_none] at hk6q4; simp only [hk6q4, ne_eq, not_false_eq_true]
  have ne_6q4_4q4 : k6q4 ≠ k4q4 := by simp only [AHeap.set_none] at hk6q4; simp only [hk6q4, ne_eq, not_false_eq_true]
  have ne_6q4_5q4 : k6q4 ≠ k5q4 := by simp only [AHeap.set_none] at hk6q4; simp only [hk6q4, ne_eq, not_false_eq_true]
  try have hf_6q4 : h k6q4 = none := by first | assumption | (simp only [AHeap.set_none] at hk6q4; simp only [hk6q4])
  simp +decide only [ev, putD, Slots.put, Slots.get, if_true, if_false, true_and, ↓ap_assign, pop_assign]
  refine aOps_store (by rfl) (by rfl) (by repeat (first | exact AHeap.set_same _ _ _ | assumption | refine (AHeap.set_ne _ _ (by first | assumption | exact Ne.symm (by assumption))).trans ?_)) sz31 (by rfl) (by rfl) (by first | exact Nat.le_refl _ | decide | (simp; done) | (simp; omega)) (Nat.zero_le _) (by rfl) ?_
  simp only [AHeap.set_set, AVal.cells]
  simp +decide only [aOps_nil, ev, putD, Slots.get, Slots.keep, if_true, if_false, setAt, List.set_cons_zero, List.set_cons_succ, Nat.zero_add, Nat.reduceAdd]
  apply hK; clear hK K
  refine awp_rseq [1, 2, 3, 4, 5, 6, 7, 8, 10, 12, 14] (by rfl) fun K hK => ?_
  refine aOps_callV (V := .tuple [.str (showE [49, 45, 50]).1, faultA ⟨4, 1, 12⟩]) (by rfl) (by rfl) (c_showF w₀ hm _ _ (by decide) sh7) ?_
  simp +decide only [ev, putD, Slots.put, Slots.get, if_true, if_false, true_and, ↓ap_move, pop_move, ↓ap_extract, pop_extract, pExt_tuple, List.getD_cons_zero, List.getD_cons_succ, List.getD_cons_zero, List.getD_cons_succ, faultA]
  refine aOps_alloc ze31 (cs := [.int .i64 0, .int .i64 0, .int .i64 0]) (by rfl) fun k7q4 hk7q4 => ?_
  have ne_7q4_1q4 : k7q4 ≠ k1q4 := by simp only [AHeap.set_none] at hk7q4; simp only [hk7q4, ne_eq, not_false_eq_true]
  have ne_7q4_2q4 : k7q4 ≠ k2q4 := by simp only [AHeap.set_none] at hk7q4; simp only [hk7q4, ne_eq, not_false_eq_true]
  have ne_7q4_3q4 : k7q4 ≠ k3q4 := by simp only [AHeap.set_none] at hk7q4; simp only [hk7q4, ne_eq, not_false_eq_true]
  have ne_7q4_4q4 : k7q4 ≠ k4q4 := by simp only [AHeap.set_none] at hk7q4; simp only [hk7q4, ne_eq, not_false_eq_true]
  have ne_7q4_5q4 : k7q4 ≠ k5q4 := by simp only [AHeap.set_none] at hk7q4; simp only [hk7q4, ne_eq, not_false_eq_true]
  have ne_7q4_6q4 : k7q4 ≠ k6q4 := by simp only [AHeap.set_none] at hk7q4; simp only [hk7q4, ne_eq, not_false_eq_true]
  try have hf_7q4 : h k7q4 = none := by first | assumption | (simp only [AHeap.set_none] at hk7q4; simp only [hk7q4])
  simp +decide only [ev, putD, Slots.put, Slots.get, if_true, if_false, true_and, ↓ap_assign, pop_assign]
  refine aOps_store (by rfl) (by rfl) (by repeat (first | exact AHeap.set_same _ _ _ | assumption | refine (AHeap.set_ne _ _ (by first | assumption | exact Ne.symm (by assumption))).trans ?_)) sz31 (by rfl) (by rfl) (by first | exact Nat.le_refl _ | decide | (simp; done) | (simp; omega)) (Nat.zero_le _) (by rfl) ?_
  simp only [AHeap.set_set, AVal.cells]
  simp +decide only [aOps_nil, ev, putD, Slots.get, Slots.keep, if_true, if_false, setAt, List.set_cons_zero, List.set_cons_succ, Nat.zero_add, Nat.reduceAdd]
  apply hK; clear hK K
  refine awp_rseq [1, 2, 3, 4, 5, 6, 7, 8, 10, 12, 14, 16] (by rfl) fun K hK => ?_
  refine aOps_callV (V := .tuple [.str (showE [80, 73, 67, 32, 46]).1, faultA ⟨4, 1, 16⟩]) (by rfl) (by rfl) (c_showF w₀ hm _ _ (by decide) sh8) ?_
  simp +decide only [ev, putD, Slots.put, Slots.get, if_true, if_false, true_and, ↓ap_move, pop_move, ↓ap_extract, pop_extract, pExt_tuple, List.getD_cons_zero, List.getD_cons_succ, List.getD_cons_zero, List.getD_cons_succ, faultA]
  refine aOps_alloc ze31 (cs := [.int .i64 0, .int .i64 0, .int .i64 0]) (by rfl) fun k8q4 hk8q4 => ?_
  have ne_8q4_1q4 : k8q4 ≠ k1q4 := by simp only [AHeap.set_none] at hk8q4; simp only [hk8q4, ne_eq, not_false_eq_true]
  have ne_8q4_2q4 : k8q4 ≠ k2q4 := by simp only [AHeap.set_none] at hk8q4; simp only [hk8q4, ne_eq, not_false_eq_true]
  have ne_8q4_3q4 : k8q4 ≠ k3q4 := by simp only [AHeap.set_none] at hk8q4; simp only [hk8q4, ne_eq, not_false_eq_true]
  have ne_8q4_4q4 : k8q4 ≠ k4q4 := by simp only [AHeap.set_none] at hk8q4; simp only [hk8q4, ne_eq, not_false_eq_true]
  have ne_8q4_5q4 : k8q4 ≠ k5q4 := by simp only [AHeap.set_none] at hk8q4; simp only [hk8q4, ne_eq, not_false_eq_true]
  have ne_8q4_6q4 : k8q4 ≠ k6q4 := by simp only [AHeap.set_none] at hk8q4; simp only [hk8q4, ne_eq, not_false_eq_true]
  have ne_8q4_7q4 : k8q4 ≠ k7q4 := by simp only [AHeap.set_none] at hk8q4; simp only [hk8q4, ne_eq, not_false_eq_true]
  try have hf_8q4 : h k8q4 = none := by first | assumption | (simp only [AHeap.set_none] at hk8q4; simp only [hk8q4])
  simp +decide only [ev, putD, Slots.put, Slots.get, if_true, if_false, true_and, ↓ap_assign, pop_assign]
  refine aOps_store (by rfl) (by rfl) (by repeat (first | exact AHeap.set_same _ _ _ | assumption | refine (AHeap.set_ne _ _ (by first | assumption | exact Ne.symm (by assumption))).trans ?_)) sz31 (by rfl) (by rfl) (by first | exact Nat.le_refl _ | decide | (simp; done) | (simp; omega)) (Nat.zero_le _) (by rfl) ?_
  simp only [AHeap.set_set, AVal.cells]
  simp +decide only [aOps_nil, ev, putD, Slots.get, Slots.keep, if_true, if_false, setAt, List.set_cons_zero, List.set_cons_succ, Nat.zero_add, Nat.reduceAdd]
  apply hK; clear hK K
  refine awp_rseq [1, 2, 3, 4, 5, 6, 7, 8, 10, 12, 14, 16, 18] (by rfl) fun K hK => ?_
  refine aOps_callV (V := .tuple [.str (showE [80, 73, 67, 32, 65, 34, 66, 34]).1, faultA ⟨4, 1, 16⟩]) (by rfl) (by rfl) (c_showF w₀ hm _ _ (by decide) sh9) ?_
  simp +decide only [ev, putD, Slots.put, Slots.get, if_true, if_false, true_and, ↓ap_move, pop_move, ↓ap_extract, pop_extract, pExt_tuple, List.getD_cons_zero, List.getD_cons_succ, List.getD_cons_zero, List.getD_cons_succ, faultA]
  refine aOps_alloc ze31 (cs := [.int .i64 0, .int .i64 0, .int .i64 0]) (by rfl) fun k9q4 hk9q4 => ?_
  have ne_9q4_1q4 : k9q4 ≠ k1q4 := by simp only [AHeap.set_none] at hk9q4; simp only [hk9q4, ne_eq, not_false_eq_true]
  have ne_9q4_2q4 : k9q4 ≠ k2q4 := by simp only [AHeap.set_none] at hk9q4; simp only [hk9q4, ne_eq, not_false_eq_true]
  have ne_9q4_3q4 : k9q4 ≠ k3q4 := by simp only [AHeap.set_none] at hk9q4; simp only [hk9q4, ne_eq, not_false_eq_true]
  have ne_9q4_4q4 : k9q4 ≠ k4q4 := by simp only [AHeap.set_none] at hk9q4; simp only [hk9q4, ne_eq, not_false_eq_true]
  have ne_9q4_5q4 : k9q4 ≠ k5q4 := by simp only [AHeap.set_none] at hk9q4; simp only [hk9q4, ne_eq, not_false_eq_true]
  have ne_9q4_6q4 : k9q4 ≠ k6q4 := by simp only [AHeap.set_none] at hk9q4; simp only [hk9q4, ne_eq, not_false_eq_true]
  have ne_9q4_7q4 : k9q4 ≠ k7q4 := by simp only [AHeap.set_none] at hk9q4; simp only [hk9q4, ne_eq, not_false_eq_true]
  have ne_9q4_8q4 : k9q4 ≠ k8q4 := by simp only [AHeap.set_none] at hk9q4; simp only [hk9q4, ne_eq, not_false_eq_true]
  try have hf_9q4 : h k9q4 = none := by first | assumption | (simp only [AHeap.set_none] at hk9q4; simp only [hk9q4])
  simp +decide only [ev, putD, Slots.put, Slots.get, if_true, if_false, true_and, ↓ap_assign, pop_assign]
  refine aOps_store (by rfl) (by rfl) (by repeat (first | exact AHeap.set_same _ _ _ | assumption | refine (AHeap.set_ne _ _ (by first | assumption | exact Ne.symm (by assumption))).trans ?_)) sz31 (by rfl) (by rfl) (by first | exact Nat.le_refl _ | decide | (simp; done) | (simp; omega)) (Nat.zero_le _) (by rfl) ?_
  simp only [AHeap.set_set, AVal.cells]
  simp +decide only [aOps_nil, ev, putD, Slots.get, Slots.keep, if_true, if_false, setAt, List.set_cons_zero, List.set_cons_succ, Nat.zero_add, Nat.reduceAdd]
  apply hK; clear hK K
  refine awp_rseq [1, 2, 3, 4, 5, 6, 7, 8, 10, 12, 14, 16, 18, 19] (by rfl) fun K hK => ?_
  simp +decide only [ev, absV, absS, putD, Slots.put, Slots.get, if_false, true_and, ↓ap_build, ↓pop_buildL, bld31_, evP, List.map_nil]
  refine aOps_alloc ze31 (cs := [.int .i64 0, .int .i64 0, .int .i64 0]) (by rfl) fun k10q1 hk10q1 => ?_
  have ne_10q1_1q4 : k10q1 ≠ k1q4 := by simp only [AHeap.set_none] at hk10q1; simp only [hk10q1, ne_eq, not_false_eq_true]
  have ne_10q1_2q4 : k10q1 ≠ k2q4 := by simp only [AHeap.set_none] at hk10q1; simp only [hk10q1, ne_eq, not_false_eq_true]
  have ne_10q1_3q4 : k10q1 ≠ k3q4 := by simp only [AHeap.set_none] at hk10q1; simp only [hk10q1, ne_eq, not_false_eq_true]
  have ne_10q1_4q4 : k10q1 ≠ k4q4 := by simp only [AHeap.set_none] at hk10q1; simp only [hk10q1, ne_eq, not_false_eq_true]
  have ne_10q1_5q4 : k10q1 ≠ k5q4 := by simp only [AHeap.set_none] at hk10q1; simp only [hk10q1, ne_eq, not_false_eq_true]
  have ne_10q1_6q4 : k10q1 ≠ k6q4 := by simp only [AHeap.set_none] at hk10q1; simp only [hk10q1, ne_eq, not_false_eq_true]
  have ne_10q1_7q4 : k10q1 ≠ k7q4 := by simp only [AHeap.set_none] at hk10q1; simp only [hk10q1, ne_eq, not_false_eq_true]
  have ne_10q1_8q4 : k10q1 ≠ k8q4 := by simp only [AHeap.set_none] at hk10q1; simp only [hk10q1, ne_eq, not_false_eq_true]
  have ne_10q1_9q4 : k10q1 ≠ k9q4 := by simp only [AHeap.set_none] at hk10q1; simp only [hk10q1, ne_eq, not_false_eq_true]
  try have hf_10q1 : h k10q1 = none := by first | assumption | (simp only [AHeap.set_none] at hk10q1; simp only [hk10q1])
  refine aOps_store (by rfl) (by rfl) (by repeat (first | exact AHeap.set_same _ _ _ | assumption | refine (AHeap.set_ne _ _ (by first | assumption | exact Ne.symm (by assumption))).trans ?_)) sz31 (by rfl) (by rfl) (by first | exact Nat.le_refl _ | decide | (simp; done) | (simp; omega)) (Nat.zero_le _) (by rfl) ?_
  simp only [AHeap.set_set, AVal.cells]
  simp +decide only [aOps_nil, ev, putD, Slots.put, Slots.get, Slots.keep, if_true, if_false, setAt, List.set_cons_zero, List.set_cons_succ, Nat.zero_add, Nat.reduceAdd]
  apply hK; clear hK K
  refine awp_seq ?_
  refine awp_rseq [10, 12, 14, 16, 18, 90] (by kernel_rfl) fun K hK => ?_
  simp +decide only [aOps_nil, ev, absV, absS, putD, Slots.put, Slots.get, Slots.keep, if_true, if_false, true_and, ↓ap_loadL, apL_mk, pLoad_agg ag31 sz31, ↓ap_binOp, pop_binOp, isNilC_tmp, cond_false, pBinX_agg, ne31, ↓ap_move, pop_move, ↓ag_loadL, agQL_some, agL_mk, agP, agQ_some, nthDst, gKnown_bool, guardB_bool_false, implies_true, decide_true, Bool.not_false, Bool.not_true, condV_true, Bool.and_true, ↓ag_binOp, ↓ap_pick, pop_pick, pPick_bool, pickV_and, ↓ag_move, isNilC_str, pBinX_str, pS_neq, rd_ne', ne_eq, not_false_eq_true, ne_2q4_1q4.symm, ne_3q4_1q4.symm, ne_3q4_2q4.symm, ne_4q4_1q4.symm, ne_4q4_2q4.symm, ne_4q4_3q4.symm, ne_5q4_1q4.symm, ne_5q4_2q4.symm, ne_5q4_3q4.symm, ne_5q4_4q4.symm, ne_6q4_1q4.symm, ne_6q4_2q4.symm, ne_6q4_3q4.symm, ne_6q4_4q4.symm, ne_7q4_1q4.symm, ne_7q4_2q4.symm, ne_7q4_3q4.symm, ne_7q4_4q4.symm, ne_8q4_1q4.symm, ne_8q4_2q4.symm, ne_8q4_3q4.symm, ne_8q4_4q4.symm, ne_9q4_1q4.symm, ne_9q4_2q4.symm, ne_9q4_3q4.symm, ne_9q4_4q4.symm, ne_10q1_1q4.symm, ne_10q1_2q4.symm, ne_10q1_3q4.symm, ne_10q1_4q4.symm, rd_any, cellsAt, List.getD_cons_zero, List.getD_cons_succ, Nat.zero_add, Nat.reduceAdd, lv_int, allLive, Bool.and_true]
  apply hK; clear hK K
  refine awp_cond (b := _) rfl (fun hb1 => ?_) (fun hb1 => ?_)
  · exact absurd hb1 (by decide)
  · try simp only at hb1
    refine awp_skip ?_
    change Awp _ _ _ _ _ _ _
    refine awp_rseq [0] (by kernel_rfl) fun K hK => ?_
    simp +decide only [aOps_nil, ev, absV, absS, putD, Slots.put, Slots.get, Slots.keep, if_true, if_false, true_and, ↓ap_loadL, apL_mk, pLoad_agg ag31 sz31, ↓ap_build, ↓pop_buildL, bld29_0_1, evP, List.map_cons, List.map_nil, bld31_0_1, ↓ap_binOp, pop_binOp, isNilC_tmp, cond_false, pBinX_agg, eq31, ↓ap_move, pop_move, ↓ag_loadL, agQL_some, agL_mk, agP, agQ_some, nthDst, gKnown_bool, guardB_bool_true, implies_true, decide_true, condV_true, Bool.and_true, ↓ag_build, ↓ag_binOp, ↓ap_pick, pop_pick, pPick_bool, pickV_and, ↓ap_assign, pop_assign, rd_ne', ne_eq, not_false_eq_true, ne_6q4_5q4.symm, ne_7q4_5q4.symm, ne_7q4_6q4.symm, ne_8q4_5q4.symm, ne_8q4_6q4.symm, ne_8q4_7q4.symm, ne_9q4_5q4.symm, ne_9q4_6q4.symm, ne_9q4_7q4.symm, ne_9q4_8q4.symm, ne_10q1_5q4.symm, ne_10q1_6q4.symm, ne_10q1_7q4.symm, ne_10q1_8q4.symm, ne_10q1_9q4.symm, rd_any, cellsAt, List.getD_cons_zero, List.getD_cons_succ, Nat.zero_add, Nat.reduceAdd, lv_int, allLive, Bool.and_true]
    apply hK; clear hK K
    refine awp_ret ?_
    refine retA_ret h (by repeat (first | exact Sub.refl _ | assumption | refine Sub.trans_set ?_ (by assumption))) (resPre_tmp (resPre_nil)) ?_
    simp +decide only [Slots.get, if_true, and_true, resOf_one]
    all_goals first | rfl | exact ⟨rfl, rfl⟩ | (simp +decide only [if_true, if_false, *]; done) | (trace_state; fail)
end Go.Proofs.YtmadddihphkmoaaGreatDoor

/-
  An assertion layer over the model's wp, part BB: a long statement, walked piece by piece.
  Conditions: none. Nothing here is about a particular program.
-/
namespace Go.AM
section
variable {P : Program} {w₀ : World} {ops : List Oper} {K : Slots → AHeap → Prop}
theorem aOps_app : ∀ (a b : List Oper) (s : Slots) (h : AHeap), aOps P w₀ ops a s h (fun s' h' => aOps P w₀ ops b s' h' K) → aOps P w₀ ops (a ++ b) s h K
  | [], _, _, _, hk => hk
  | o :: a, b, s, h, hk => by
    rw [List.cons_append]
    unfold aOps at hk ⊢
    cases hg : o.guard with
    | none =>
      rw [hg] at hk
      simp only at hk ⊢
      exact eop_mono hk fun x h' hx => aOps_app a b _ _ hx
    | some q =>
      rw [hg] at hk
      obtain ⟨j, want⟩ := q
      simp only at hk ⊢
      cases hd : nthDst ops j with
      | none =>
        rw [hd] at hk
        simp only at hk ⊢
        exact aOps_app a b _ _ hk
      | some d =>
        rw [hd] at hk
        simp only at hk ⊢
        refine ⟨hk.1, ?_⟩
        have h2 := hk.2
        split at h2
        · rename_i hp
          rw [if_pos hp]
          exact ⟨h2.1, aOps_app a b _ _ h2.2⟩
        · rename_i hp
          rw [if_neg hp]
          exact ⟨fun hb => eop_mono (h2.1 hb) fun x h' hx => aOps_app a b _ _ hx, fun hb => aOps_app a b _ _ (h2.2 hb)⟩
theorem aOps_chunk (k : Nat) {l : List Oper} {s : Slots} {h : AHeap} (hc : ∀ K' : Slots → AHeap → Prop, (∀ s h, aOps P w₀ ops (l.drop k) s h K → K' s h) → aOps P w₀ ops (l.take k) s h K') : aOps P w₀ ops l s h K := by
  rw [← List.take_append_drop k l]
  exact aOps_app _ _ _ _ (hc _ fun _ _ hx => hx)
theorem aOps_hide {l : List Oper} {s : Slots} {h : AHeap} (hc : ∀ O, O = ops → aOps P w₀ O l s h K) : aOps P w₀ ops l s h K := hc _ rfl
end
end Go.AM

/-
  Contracts: the reference's small functions.
  Conditions: none.
-/
namespace Go.Proofs.YtmadddihphkmoaaGreatDoor
open Go.AM
open Go.Proofs
open Go.Col
open Go.Tok
open Go.RowKit (Below)
set_option maxRecDepth 100000

theorem c_in (w₀ : World) (h : AHeap) (b : UInt8) (s : Str) (hl : s.length ≤ 4611686018427387904) : ACall Tryz.prog w₀ 30 [.int .u8 b.toNat, .str s] h (fun v h' => v = .bool (s.contains b) ∧ h' = h) := by
  refine acall_intro (n := 17) (rs := [.tmp 4]) Tryz.func30 rfl rfl rfl rfl (Nat.le_of_ble_eq_true rfl) ?_
  simp only [initSlots]
  refine awp_rseq [0, 1] (by rfl) fun K hK => ?_
  simp +decide only [aOps_nil, ev, absV, absS, putD, Slots.put, Slots.keep, if_true, if_false, true_and, ↓ap_assign, pop_assign]
  apply hK; clear hK K
  refine awp_seq ?_
  refine awp_rseq [0, 1, 5] (by rfl) fun K hK => ?_
  simp +decide only [aOps_nil, ev, absV, absS, putD, Slots.put, Slots.keep, if_true, if_false, true_and, ↓ap_assign, pop_assign]
  apply hK; clear hK K
  refine awp_block ?_
  refine awp_loopG [0, 1, 5] (fun i : Nat => [(0, .int .u8 b.toNat), (1, .str s), (5, .int .i64 i)]) (fun i : Nat => h) (fun i : Nat => i ≤ s.length ∧ (s.drop i).contains b = s.contains b) (fun i : Nat => s.length - i) 0 rfl (Sub.refl _) ⟨Nat.zero_le _, rfl⟩ ?_
  rintro i ⟨i1, i2⟩
  refine awp_seq ?_
  refine awp_rseq [0, 1, 5, 9] (by rfl) fun K hK => ?_
  simp +decide only [aOps_nil, ev, putD, Slots.put, Slots.get, Slots.keep, if_true, if_false, true_and, ↓ap_move, pop_move, ↓ap_len, pop_len, pLen_str Tryz.underlying9, ↓ap_binOp, pop_binOp, isNilC_tmp, cond_false, pBinX_int, pI_lss]
  apply hK; clear hK K
  refine awp_cond (b := _) rfl (fun hb1 => ?_) (fun hb1 => ?_)
  · try simp only [decide_eq_true_eq] at hb1
    have hi : i < s.length := by omega
    rw [drop_eq hi, List.contains_cons] at i2
    refine awp_skip ?_
    change Awp _ _ _ _ _ _ _
    refine awp_seq ?_
    refine awp_block ?_
    refine awp_rseq [0, 1, 5, 16] (by rfl) fun K hK => ?_
    simp +decide only [aOps_nil, ev, putD, Slots.put, Slots.get, Slots.keep, if_true, if_false, true_and, ↓ap_move, pop_move, ↓ap_index, pop_index, pIndex_str Tryz.underlying9, ↓ap_binOp, pop_binOp, isNilC_tmp, cond_false, pBinX_int, pI_eql, Int.toNat_natCast]
    repeat (with_reducible refine And.intro ?_ ?_; · first | trivial | omega | (intro hg; simp only [Bool.and_eq_true, Bool.or_eq_true, Bool.not_eq_true', Bool.and_eq_false_iff, Bool.or_eq_false_iff, Bool.not_eq_false', decide_eq_true_eq, decide_eq_false_iff_not, eqNil] at hg; omega) )
    apply hK; clear hK K
    refine awp_cond (b := _) rfl (fun hb2 => ?_) (fun hb2 => ?_)
    · try simp only [decide_eq_true_eq] at hb2
      refine awp_rseq [4] (by rfl) fun K hK => ?_
      simp +decide only [aOps_nil, ev, absV, absS, putD, Slots.put, Slots.keep, if_true, if_false, true_and, ↓ap_assign, pop_assign]
      apply hK; clear hK K
      refine awp_ret ?_
      try simp only [thenA_ret, inBlockA_ret]
      refine retA_ret _ (Sub.refl _) (resPre_tmp (resPre_nil)) ?_
      simp +decide only [Slots.get, if_true, and_true, resOf_one]
      rw [← i2, show (b == s.getD i 0) = true by rw [beq_iff_eq]; exact (UInt8.toNat_inj.1 (by omega)).symm]
      rfl
    · try simp only [decide_eq_false_iff_not] at hb2
      refine awp_skip ?_
      change Awp _ _ _ _ _ _ _
      refine awp_r [0, 1, 5] (by rfl) ?_
      simp +decide only [aOps_nil, ev, absV, absS, putD, Slots.put, Slots.get, Slots.keep, if_true, if_false, true_and, ↓ap_move, pop_move, ↓ap_binOp, pop_binOp, isNilC_int, cond_false, pBinX_int, pI_add, ↓ap_assign, pop_assign]
      try simp (disch := omega) only [wrap_i64]
      try simp only [thenA_normal]
      refine ⟨i + 1, rfl, Sub.refl _, ⟨hi, ?_⟩, by omega⟩
      rw [← i2, show (b == s.getD i 0) = false by rw [beq_eq_false_iff_ne]; intro e; exact hb2 (by rw [e])]
      rfl
  · try simp only [decide_eq_false_iff_not] at hb1
    refine awp_exit ?_
    change Awp _ _ _ _ _ _ _
    refine awp_rseq [4] (by rfl) fun K hK => ?_
    simp +decide only [aOps_nil, ev, absV, absS, putD, Slots.put, Slots.keep, if_true, if_false, true_and, ↓ap_assign, pop_assign]
    apply hK; clear hK K
    refine awp_ret ?_
    refine retA_ret _ (Sub.refl _) (resPre_tmp (resPre_nil)) ?_
    simp +decide only [Slots.get, if_true, and_true, resOf_one]
    rw [← i2, List.drop_eq_nil_of_le (by omega)]
    rfl
theorem c_rdigit (w₀ : World) (h : AHeap) (s : Str) (i : Nat) (hl : s.length ≤ 4611686018427387904) (hi : i ≤ 4611686018427387904) : ACall Tryz.prog w₀ 58 [.str s, .int .i64 i] h (fun v h' => v = .bool (digitB (peekE s i)) ∧ h' = h) := by
  have h0 : (0 : Int) ≤ (i : Int) := by omega
  refine acall_intro (n := 25) (rs := [.tmp 4]) Tryz.func58 rfl rfl rfl rfl (Nat.le_of_ble_eq_true rfl) ?_
  simp only [initSlots]
  refine awp_rseq [0, 1] (by rfl) fun K hK => ?_
  simp +decide only [aOps_nil, ev, absV, absS, putD, Slots.put, Slots.keep, if_true, if_false, true_and, ↓ap_assign, pop_assign]
  apply hK; clear hK K
  refine awp_rseq [4] (by rfl) fun K hK => ?_
  simp +decide only [aOps_nil, ev, absV, absS, putD, Slots.put, Slots.get, Slots.keep, if_true, if_false, true_and, ↓ap_move, pop_move, ↓ap_binOp, pop_binOp, isNilC_int, cond_false, pBinX_int, pI_geq, ↓ag_move, agP, agQ_some, nthDst, gKnown_bool, guardB_bool_true, implies_true, decide_true, condV_true, Bool.true_and, ↓ag_len, pop_len, pLen_str Tryz.underlying9, ↓ag_binOp, isNilC_tmp, cv_binl, cp_binl, pI_lss, ↓ap_pick, pop_pick, pPick_bool, pickV_cond_l, pickV_and, ↓ag_index, pop_index, pIndex_str Tryz.underlying9, cv_indexl, cv_indexr, cp_indexl, cp_indexr, pI_leq, ↓ap_assign, pop_assign, h0, Int.toNat_natCast]
  repeat (with_reducible refine And.intro ?_ ?_; · first | trivial | omega | (intro hg; simp only [Bool.and_eq_true, decide_eq_true_eq] at hg; omega) )
  apply hK; clear hK K
  refine awp_ret ?_
  refine retA_ret _ (Sub.refl _) (resPre_tmp (resPre_nil)) ?_
  simp +decide only [Slots.get, if_true, and_true, resOf_one]
  by_cases hi : i < s.length
  · rw [peekE_lt hi]
    have : (i : Int) < s.length := by omega
    unfold digitB
    simp only [this, decide_true, Bool.true_and]
    congr 1
    rw [Bool.eq_iff_iff]
    simp only [Bool.and_eq_true, decide_eq_true_eq]
    omega
  · rw [peekE_ge (.inr (by omega))]
    have : ¬ (i : Int) < s.length := by omega
    simp only [this, decide_false, Bool.false_and]
    rfl
theorem c_rletter (w₀ : World) (h : AHeap) (s : Str) (i : Nat) (hl : s.length ≤ 4611686018427387904) (hi : i ≤ 4611686018427387904) : ACall Tryz.prog w₀ 59 [.str s, .int .i64 i] h (fun v h' => v = .bool (letterB (peekE s i)) ∧ h' = h) := by
  have h0 : (0 : Int) ≤ (i : Int) := by omega
  refine acall_intro (n := 37) (rs := [.tmp 4]) Tryz.func59 rfl rfl rfl rfl (Nat.le_of_ble_eq_true rfl) ?_
  simp only [initSlots]
  refine awp_rseq [0, 1] (by rfl) fun K hK => ?_
  simp +decide only [aOps_nil, ev, absV, absS, putD, Slots.put, Slots.keep, if_true, if_false, true_and, ↓ap_assign, pop_assign]
  apply hK; clear hK K
  refine awp_rseq [4] (by kernel_rfl) fun K hK => ?_
  simp +decide only [aOps_nil, ev, absV, absS, putD, Slots.put, Slots.get, Slots.keep, if_true, if_false, true_and, ↓ap_move, pop_move, ↓ap_binOp, pop_binOp, isNilC_int, cond_false, pBinX_int, pI_geq, ↓ag_move, agP, agQ_some, nthDst, gKnown_bool, gKnown_cond, guardB_cond, guardB_bool_true, guardB_bool_false, cv_cv, implies_true, decide_true, condV_true, Bool.true_and, ↓ag_len, pop_len, pLen_str Tryz.underlying9, ↓ag_binOp, isNilC_tmp, cv_binl, cp_binl, pI_lss, ↓ap_pick, pop_pick, pPick_bool, pickV_cond_l, cp_nest1, cp_nest2, pickV_and, pickV_or, ↓ag_index, pop_index, pIndex_str Tryz.underlying9, cv_indexl, cv_indexr, cp_indexl, cp_indexr, pI_leq, ↓ag_pick, cv_pick, cp_pick, ↓ap_assign, pop_assign, h0, Int.toNat_natCast]
  repeat (with_reducible refine And.intro ?_ ?_; · first | trivial | omega | (intro hg; simp only [Bool.and_eq_true, Bool.not_eq_true', Bool.and_eq_false_iff, decide_eq_true_eq, decide_eq_false_iff_not] at hg; omega) )
  apply hK; clear hK K
  refine awp_ret ?_
  refine retA_ret _ (Sub.refl _) (resPre_tmp (resPre_nil)) ?_
  simp +decide only [Slots.get, if_true, and_true, resOf_one]
  by_cases hi : i < s.length
  · rw [peekE_lt hi]
    have : (i : Int) < s.length := by omega
    unfold letterB
    simp only [this, decide_true, Bool.true_and]
    congr 1
    rw [Bool.eq_iff_iff]
    simp only [Bool.or_eq_true, Bool.and_eq_true, decide_eq_true_eq]
    omega
  · rw [peekE_ge (.inr (by omega))]
    have : ¬ (i : Int) < s.length := by omega
    simp only [this, decide_false, Bool.false_and]
    rfl
theorem c_blank (w₀ : World) (h : AHeap) (s : Str) (i : Nat) (hl : s.length ≤ 4611686018427387904) (hi : i ≤ 4611686018427387904) : ACall Tryz.prog w₀ 31 [.str s, .int .i64 i] h (fun v h' => v = .bool (decide (peekE s i = 32)) ∧ h' = h) := by
  refine acall_intro (n := 15) (rs := [.tmp 4]) Tryz.func31 rfl rfl rfl rfl (Nat.le_of_ble_eq_true rfl) ?_
  simp only [initSlots]
  refine awp_rseq [0, 1] (by rfl) fun K hK => ?_
  simp +decide only [aOps_nil, ev, absV, absS, putD, Slots.put, Slots.keep, if_true, if_false, true_and, ↓ap_assign, pop_assign]
  apply hK; clear hK K
  refine awp_rseq [4] (by rfl) fun K hK => ?_
  simp +decide only [aOps_nil, ev, absV, absS, putD, Slots.put, Slots.get, Slots.keep, if_true, if_false, true_and, ↓ap_move, pop_move, ↓ap_len, pop_len, pLen_str Tryz.underlying9, ↓ap_binOp, pop_binOp, isNilC_tmp, cond_false, pBinX_int, pI_geq, ↓ag_move, agP, agQ_some, nthDst, gKnown_bool, guardB_bool_false, implies_true, ↓ag_index, pop_index, pIndex_str Tryz.underlying9, cv_indexl, cv_indexr, cp_indexl, cp_indexr, ↓ag_binOp, isNilC_int, cv_binl, cp_binl, pI_eql, ↓ap_pick, pop_pick, pPick_bool, pickV_cond_r, pickV_or, ↓ap_assign, pop_assign, Int.toNat_natCast]
  repeat (with_reducible refine And.intro ?_ ?_; · first | trivial | omega | (intro hg; simp only [Bool.not_eq_true', decide_eq_false_iff_not] at hg; omega) )
  apply hK; clear hK K
  refine awp_ret ?_
  refine retA_ret _ (Sub.refl _) (resPre_tmp (resPre_nil)) ?_
  simp +decide only [Slots.get, if_true, and_true, resOf_one]
  by_cases hi : i < s.length
  · rw [peekE_lt hi]
    have : ¬ (s.length : Int) ≤ i := by omega
    simp only [this, decide_false, Bool.false_or]
    congr 1
    exact decide_eq_decide.2 (iff_of_eq (u8_eq _ 32))
  · rw [peekE_ge (.inr (by omega))]
    have : (s.length : Int) ≤ i := by omega
    simp only [this, decide_true, Bool.true_or]
theorem c_rwordy (w₀ : World) (h : AHeap) (s : Str) (i : Nat) (hl : s.length ≤ 4611686018427387904) (hi : i ≤ 4611686018427387904) : ACall Tryz.prog w₀ 55 [.str s, .int .i64 i] h (fun v h' => v = .bool (wordyB (peekE s i)) ∧ h' = h) := by
  have h0 : (0 : Int) ≤ (i : Int) := by omega
  refine acall_intro (n := 29) (rs := [.tmp 4]) Tryz.func55 rfl rfl rfl rfl (Nat.le_of_ble_eq_true rfl) ?_
  simp only [initSlots]
  refine awp_rseq [0, 1] (by rfl) fun K hK => ?_
  simp +decide only [aOps_nil, ev, absV, absS, putD, Slots.put, Slots.keep, if_true, if_false, true_and, ↓ap_assign, pop_assign]
  apply hK; clear hK K
  refine awp_rseq [4] (by kernel_rfl) fun K hK => ?_
  simp +decide only [ev, putD, Slots.put, Slots.get, if_true, if_false, true_and, ↓ap_move, pop_move]
  refine aOps_callV (V := .bool (digitB (peekE s i))) (by rfl) (by rfl) (c_rdigit w₀ _ s i hl hi) ?_
  simp +decide only [ev, putD, Slots.put, Slots.get, if_true, if_false, true_and, ↓ap_move, pop_move, ↓ag_move, agP, agQ_some, nthDst, gKnown_bool, guardB_bool_false, implies_true]
  (refine aOps_gcall (V := .bool (letterB (peekE s i))) (f := _) (cap := _) (xs := _) (by first | rfl | (simp +decide only [gv, nthDst, Slots.get, if_true, if_false, gKnown_cond, gKnown_bool])) (fun hg => ⟨rfl, ?_⟩) (fun hg => c_rletter w₀ _ s i hl hi) ?_; · (simp +decide only [gv, nthDst, Slots.get, if_true, if_false, guardB_bool_false] at hg; simp +decide only [evs, ev, Slots.get, if_true, if_false, hg, condV_true, List.append_nil, List.map_cons, List.map_nil] <;> try rfl))
  simp +decide only [aOps_nil, ev, absV, absS, putD, Slots.put, Slots.get, Slots.keep, if_true, if_false, true_and, gv, nthDst, guardB_bool_true, guardB_bool_false, guardB_cond, ↓ap_pick, pop_pick, pPick_bool, pickV_cond_r, cp_nest1, pickV_and, pickV_or, ↓ap_move, pop_move, ↓ag_move, agP, agQ_some, gKnown_bool, gKnown_cond, cv_cv, implies_true, decide_true, pickV_true, Bool.and_true, ↓ag_binOp, pop_binOp, isNilC_int, cond_false, cv_binl, cv_binr, cp_binl, cp_binr, pBinX_int, pI_geq, ↓ag_len, pop_len, pLen_str Tryz.underlying9, cv_len, cp_len, isNilC_tmp, pI_lss, ↓ag_pick, cv_pick, cp_pick, ↓ag_index, pop_index, pIndex_str Tryz.underlying9, cv_indexl, cv_indexr, cp_indexl, cp_indexr, pI_eql, ↓ap_assign, pop_assign, h0, Int.toNat_natCast]
  repeat (with_reducible refine And.intro ?_ ?_; · first | trivial | omega | (intro hg; simp only [Bool.and_eq_true, Bool.not_eq_true', Bool.or_eq_false_iff, decide_eq_true_eq] at hg; omega) )
  apply hK; clear hK K
  refine awp_ret ?_
  refine retA_ret _ (Sub.refl _) (resPre_tmp (resPre_nil)) ?_
  simp +decide only [Slots.get, if_true, and_true, resOf_one]
  unfold wordyB
  by_cases hi : i < s.length
  · rw [peekE_lt hi]
    have : (i : Int) < s.length := by omega
    have e45 : decide (((s.getD i 0).toNat : Int) = 45) = decide (s.getD i 0 = 45) := decide_eq_decide.2 (iff_of_eq (u8_eq _ 45))
    simp only [this, decide_true, Bool.true_and, e45]
  · rw [peekE_ge (.inr (by omega))]
    have : ¬ (i : Int) < s.length := by omega
    simp only [this, decide_false, Bool.false_and]
    rfl
end Go.Proofs.YtmadddihphkmoaaGreatDoor

/-
  Contracts: fold, name, picture, quote of the reference.
  Conditions: none.
-/
namespace Go.Proofs.YtmadddihphkmoaaGreatDoor
open Go.AM
open Go.Proofs
open Go.Col
open Go.Tok
open Go.RowKit (Below)
set_option maxRecDepth 100000

theorem foldB_intR (b : UInt8) : (if 97 ≤ (b.toNat : Int) ∧ (b.toNat : Int) ≤ 122 then (b.toNat : Int) - 32 else b.toNat) = (foldB b).toNat := by
  unfold foldB
  by_cases h : 97 ≤ b.toNat ∧ b.toNat ≤ 122
  · rw [if_pos h, if_pos (by omega), UInt8.toNat_sub_of_le _ _ (by rw [UInt8.le_iff_toNat_le]; show 32 ≤ b.toNat; omega)]
    show _ = ((b.toNat - 32 : Nat) : Int)
    omega
  · rw [if_neg h, if_neg (by omega)]
theorem foldE_take {s : Str} {i : Nat} (hi : i < s.length) : foldE (s.take (i + 1)) = foldE (s.take i) ++ [foldB (s.getD i 0)] := by
  unfold foldE
  rw [List.take_add_one, List.getElem?_eq_getElem hi, List.map_append]
  simp [List.getD, hi]
theorem c_rfold (w₀ : World) (h : AHeap) (s : Str) (hl : s.length ≤ 1099511627776) : ACall Tryz.prog w₀ 54 [.str s] h (fun v h' => v = .str (foldE s) ∧ h' = h) := by
  have hcv := fun (h : AHeap) (k : Nat) (b : UInt8) => (IsB.own (w₀ := w₀) (bs := [b]) (f := 0) (n := 1) (AHeap.set_same h k ⟨byteCells [b], 0⟩) rfl (c := .exact 1) (Nat.le_refl 1)).conv Tryz.underlying97 Tryz.underlying9 Tryz.underlying5
  simp only [byteCells, List.map_cons, List.map_nil] at hcv
  refine acall_intro (n := 29) (rs := [.tmp 2]) Tryz.func54 rfl rfl rfl rfl (Nat.le_of_ble_eq_true rfl) ?_
  simp only [initSlots]
  refine awp_rseq [0] (by rfl) fun K hK => ?_
  simp +decide only [aOps_nil, ev, absV, absS, putD, Slots.put, Slots.keep, if_true, if_false, true_and, ↓ap_assign, pop_assign]
  apply hK; clear hK K
  refine awp_rseq [0, 3] (by rfl) fun K hK => ?_
  simp +decide only [aOps_nil, ev, absV, absS, putD, Slots.put, Slots.keep, if_true, if_false, true_and, ↓ap_assign, pop_assign]
  apply hK; clear hK K
  refine awp_seq ?_
  refine awp_rseq [0, 3, 4] (by rfl) fun K hK => ?_
  simp +decide only [aOps_nil, ev, absV, absS, putD, Slots.put, Slots.keep, if_true, if_false, true_and, ↓ap_assign, pop_assign]
  apply hK; clear hK K
  refine awp_block ?_
  refine awp_loopG [0, 3, 4] (fun i : Nat => [(0, .str s), (3, .str (foldE (s.take i))), (4, .int .i64 i)]) (fun i : Nat => h) (fun i : Nat => i ≤ s.length) (fun i : Nat => s.length - i) 0 (by rfl) (Sub.refl _) (Nat.zero_le _) ?_
  intro i hi
  refine awp_seq ?_
  refine awp_rseq [0, 3, 4, 9] (by rfl) fun K hK => ?_
  simp +decide only [aOps_nil, ev, putD, Slots.put, Slots.get, Slots.keep, if_true, if_false, true_and, ↓ap_move, pop_move, ↓ap_len, pop_len, pLen_str Tryz.underlying9, ↓ap_binOp, pop_binOp, isNilC_tmp, cond_false, pBinX_int, pI_lss]
  apply hK; clear hK K
  refine awp_cond (b := _) rfl (fun hb1 => ?_) (fun hb1 => ?_)
  · try simp only [decide_eq_true_eq] at hb1
    have hi' : i < s.length := by omega
    have hfl : (foldE (s.take i)).length ≤ s.length := by unfold foldE; rw [List.length_map, List.length_take]; omega
    obtain ⟨b, hb⟩ : ∃ b, b = s.getD i 0 := ⟨_, rfl⟩
    have hstep := foldE_take hi'
    rw [← hb] at hstep
    refine awp_skip ?_
    change Awp _ _ _ _ _ _ _
    refine awp_seq ?_
    refine awp_block ?_
    refine awp_rseq [0, 3, 4, 5] (by rfl) fun K hK => ?_
    simp +decide only [aOps_nil, ev, putD, Slots.put, Slots.get, Slots.keep, if_true, if_false, true_and, ↓ap_move, pop_move, ↓ap_index, pop_index, pIndex_str Tryz.underlying9, ↓ap_assign, pop_assign, Int.toNat_natCast, ← hb]
    repeat (with_reducible refine And.intro ?_ ?_; · first | trivial | omega | (intro hg; simp only [Bool.and_eq_true, Bool.or_eq_true, Bool.not_eq_true', Bool.and_eq_false_iff, Bool.or_eq_false_iff, Bool.not_eq_false', decide_eq_true_eq, decide_eq_false_iff_not, eqNil] at hg; omega) | (simp only [List.length_append, List.length_map, List.length_range, List.length_replicate, List.length_take, List.length_drop, List.length_cons, List.length_nil, List.length_set, List.length_reverse]; omega))
    apply hK; clear hK K
    refine awp_seq ?_
    refine awp_rseq [0, 3, 4, 5, 20] (by rfl) fun K hK => ?_
    simp +decide only [aOps_nil, ev, absV, absS, putD, Slots.put, Slots.get, Slots.keep, if_true, if_false, true_and, ↓ap_move, pop_move, ↓ap_binOp, pop_binOp, isNilC_int, cond_false, pBinX_int, pI_geq, ↓ag_move, agP, agQ_some, nthDst, gKnown_bool, guardB_bool_true, implies_true, ↓ag_binOp, cv_binl, cp_binl, pI_leq, ↓ap_pick, pop_pick, pPick_bool, pickV_cond_l, pickV_and]
    apply hK; clear hK K
    refine awp_joinT [0, 3, 4, 5] (fun z : Unit => [(0, .str s), (3, .str (foldE (s.take i))), (4, .int .i64 i), (5, .int .u8 (foldB b).toNat)]) (fun z : Unit => h) (fun z : Unit => True) ?_ ?_
    · refine awp_cond (b := _) rfl (fun hb2 => ?_) (fun hb2 => ?_)
      · try simp only [decide_eq_true_eq, Bool.and_eq_true] at hb2
        have hfb : ((foldB b).toNat : Int) = (b.toNat : Int) - 32 := by rw [← foldB_intR, if_pos hb2]
        refine awp_r [0, 3, 4, 5] (by rfl) ?_
        simp +decide only [aOps_nil, ev, absV, absS, putD, Slots.put, Slots.get, Slots.keep, if_true, if_false, true_and, and_true, ↓ap_move, pop_move, ↓ap_binOp, pop_binOp, isNilC_int, cond_false, pBinX_int, pI_sub, ↓ap_assign, pop_assign]
        try simp (disch := omega) only [wrap_u8]
        try simp only [thenA_normal]
        first
        | exact ⟨(), by rw [hfb]; rfl, Sub.refl _, trivial⟩
        | exact ⟨(), by rw [hfb]; rfl, Sub.refl _⟩
      · try simp only [decide_eq_false_iff_not, Bool.and_eq_false_iff] at hb2
        have hfb : ((foldB b).toNat : Int) = b.toNat := by rw [← foldB_intR, if_neg (by omega)]
        refine awp_skip ?_
        try simp only [thenA_normal]
        first
        | exact ⟨(), by rw [hfb]; rfl, Sub.refl _, trivial⟩
        | exact ⟨(), by rw [hfb]; rfl, Sub.refl _⟩
    · intro _ _
      refine awp_r [0, 3, 4] (by rfl) ?_
      simp +decide only [ev, putD, Slots.put, Slots.get, if_true, if_false, true_and, ↓ap_move, pop_move]
      refine aOps_buildSlice (cs := [.int .u8 (foldB b).toNat]) (by kernel_rfl) fun k8q2 hk8q2 => ?_
      try have hf_8q2 : h k8q2 = none := by first | assumption | (simp only [AHeap.set_none] at hk8q2; simp only [hk8q2])
      simp +decide only [aOps_nil, ev, putD, Slots.put, Slots.get, Slots.keep, if_true, if_false, true_and, ↓ap_convert _ _ _ (es_str Tryz.underlying97 Tryz.underlying9), pop_convert, ↓ap_binOp, pop_binOp, isNilC_tmp, cond_false, pBinX_str, pS_add, ↓ap_assign, pop_assign, hcv]
      repeat (with_reducible refine And.intro ?_ ?_; · first | trivial | omega | (intro hg; simp only [Bool.and_eq_true, Bool.or_eq_true, Bool.not_eq_true', Bool.and_eq_false_iff, Bool.or_eq_false_iff, Bool.not_eq_false', decide_eq_true_eq, decide_eq_false_iff_not, eqNil] at hg; omega) | (simp only [List.length_cons, List.length_nil]; omega))
      change Awp _ _ _ _ _ _ _
      refine awp_r [0, 3, 4] (by rfl) ?_
      simp +decide only [aOps_nil, ev, absV, absS, putD, Slots.put, Slots.get, Slots.keep, if_true, if_false, true_and, ↓ap_move, pop_move, ↓ap_binOp, pop_binOp, isNilC_int, cond_false, pBinX_int, pI_add, ↓ap_assign, pop_assign]
      try simp (disch := omega) only [wrap_i64]
      try simp only [thenA_normal]
      exact ⟨i + 1, by rw [hstep]; rfl, Sub.set hk8q2, hi', by omega⟩
  · try simp only [decide_eq_false_iff_not] at hb1
    refine awp_exit ?_
    change Awp _ _ _ _ _ _ _
    refine awp_rseq [2] (by rfl) fun K hK => ?_
    simp +decide only [aOps_nil, ev, putD, Slots.put, Slots.get, Slots.keep, if_true, if_false, true_and, ↓ap_move, pop_move, ↓ap_assign, pop_assign]
    apply hK; clear hK K
    refine awp_ret ?_
    refine retA_ret h (by repeat (first | exact Sub.refl _ | assumption | refine Sub.trans_set ?_ (by assumption))) (resPre_tmp (resPre_nil)) ?_
    simp +decide only [Slots.get, if_true, and_true, resOf_one]
    rw [show i = s.length by omega, List.take_length]
/-- Whether a text of a word's bytes is a name. -/
def nameOk (s : Str) : Bool := s.any letterB && (!decide (s.getD 0 0 = 45) && !decide (s.getD (s.length - 1) 0 = 45))
theorem c_rname (w₀ : World) (h : AHeap) (s : Str) (h0 : 0 < s.length) (hl : s.length ≤ 1099511627776) : ACall Tryz.prog w₀ 60 [.str s] h (fun v h' => v = .bool (nameOk s) ∧ h' = h) := by
  have z0 : (0 : Int).toNat = 0 := rfl
  have z1 : ((s.length : Int) - 1).toNat = s.length - 1 := by omega
  have e45 : ∀ b : UInt8, decide ((b.toNat : Int) = 45) = decide (b = 45) := fun b => decide_eq_decide.2 (iff_of_eq (u8_eq b 45))
  refine acall_intro (n := 31) (rs := [.tmp 2]) Tryz.func60 rfl rfl rfl rfl (Nat.le_of_ble_eq_true rfl) ?_
  simp only [initSlots]
  refine awp_rseq [0] (by rfl) fun K hK => ?_
  simp +decide only [aOps_nil, ev, absV, absS, putD, Slots.put, Slots.keep, if_true, if_false, true_and, ↓ap_assign, pop_assign]
  apply hK; clear hK K
  refine awp_rseq [0, 3] (by rfl) fun K hK => ?_
  simp +decide only [aOps_nil, ev, absV, absS, putD, Slots.put, Slots.keep, if_true, if_false, true_and, ↓ap_assign, pop_assign]
  apply hK; clear hK K
  refine awp_seq ?_
  refine awp_rseq [0, 3, 4] (by rfl) fun K hK => ?_
  simp +decide only [aOps_nil, ev, absV, absS, putD, Slots.put, Slots.keep, if_true, if_false, true_and, ↓ap_assign, pop_assign]
  apply hK; clear hK K
  refine awp_block ?_
  refine awp_loopG [0, 3, 4] (fun g : Nat × Nat => [(0, .str s), (3, .int .i64 g.2), (4, .int .i64 g.1)]) (fun g : Nat × Nat => h) (fun g : Nat × Nat => g.1 ≤ s.length ∧ g.2 ≤ g.1 ∧ (decide (0 < g.2) || (s.drop g.1).any letterB) = s.any letterB) (fun g : Nat × Nat => s.length - g.1) (0, 0) (by rfl) (Sub.refl _) ⟨Nat.zero_le _, Nat.le_refl _, by simp⟩ ?_
  rintro ⟨i, n⟩ ⟨i1, i2, i3⟩
  simp only at i1 i2 i3 ⊢
  refine awp_seq ?_
  refine awp_rseq [0, 3, 4, 8] (by rfl) fun K hK => ?_
  simp +decide only [aOps_nil, ev, putD, Slots.put, Slots.get, Slots.keep, if_true, if_false, true_and, ↓ap_move, pop_move, ↓ap_len, pop_len, pLen_str Tryz.underlying9, ↓ap_binOp, pop_binOp, isNilC_tmp, cond_false, pBinX_int, pI_lss]
  apply hK; clear hK K
  refine awp_cond (b := _) rfl (fun hb1 => ?_) (fun hb1 => ?_)
  · try simp only [decide_eq_true_eq] at hb1
    have hi : i < s.length := by omega
    rw [drop_eq hi, List.any_cons] at i3
    refine awp_skip ?_
    change Awp _ _ _ _ _ _ _
    refine awp_seq ?_
    refine awp_block ?_
    refine awp_rseq [0, 3, 4, 13] (by rfl) fun K hK => ?_
    simp +decide only [ev, putD, Slots.put, Slots.get, if_true, if_false, true_and, ↓ap_move, pop_move]
    refine aOps_callV (V := .bool (letterB (s.getD i 0))) (by rfl) (by rfl) (by rw [← peekE_lt hi]; exact c_rletter w₀ _ s i (by omega) (by omega)) ?_
    simp +decide only [aOps_nil, putD, Slots.put, Slots.keep, if_true, if_false]
    apply hK; clear hK K
    refine awp_cond (b := _) rfl (fun hb2 => ?_) (fun hb2 => ?_)
    · skip
      refine awp_r [0, 3, 4] (by rfl) ?_
      simp +decide only [aOps_nil, ev, absV, absS, putD, Slots.put, Slots.get, Slots.keep, if_true, if_false, true_and, ↓ap_move, pop_move, ↓ap_binOp, pop_binOp, isNilC_int, cond_false, pBinX_int, pI_add, ↓ap_assign, pop_assign]
      try simp (disch := omega) only [wrap_i64]
      change Awp _ _ _ _ _ _ _
      refine awp_r [0, 3, 4] (by rfl) ?_
      simp +decide only [aOps_nil, ev, absV, absS, putD, Slots.put, Slots.get, Slots.keep, if_true, if_false, true_and, ↓ap_move, pop_move, ↓ap_binOp, pop_binOp, isNilC_int, cond_false, pBinX_int, pI_add, ↓ap_assign, pop_assign]
      try simp (disch := omega) only [wrap_i64]
      try simp only [thenA_normal]
      first
      | (refine ⟨(i + 1, n + 1), rfl, Sub.refl _, ⟨hi, by simp only; omega, ?_⟩, by simp only; omega⟩
         rw [← i3, hb2, decide_eq_true (show 0 < n + 1 by omega)]
         simp)
      | (refine ⟨(i + 1, n), rfl, Sub.refl _, ⟨hi, by simp only; omega, ?_⟩, by simp only; omega⟩
         rw [← i3, hb2, Bool.false_or])
    · skip
      refine awp_skip ?_
      change Awp _ _ _ _ _ _ _
      refine awp_r [0, 3, 4] (by rfl) ?_
      simp +decide only [aOps_nil, ev, absV, absS, putD, Slots.put, Slots.get, Slots.keep, if_true, if_false, true_and, ↓ap_move, pop_move, ↓ap_binOp, pop_binOp, isNilC_int, cond_false, pBinX_int, pI_add, ↓ap_assign, pop_assign]
      try simp (disch := omega) only [wrap_i64]
      try simp only [thenA_normal]
      first
      | (refine ⟨(i + 1, n + 1), rfl, Sub.refl _, ⟨hi, by simp only; omega, ?_⟩, by simp only; omega⟩
         rw [← i3, hb2, decide_eq_true (show 0 < n + 1 by omega)]
         simp)
      | (refine ⟨(i + 1, n), rfl, Sub.refl _, ⟨hi, by simp only; omega, ?_⟩, by simp only; omega⟩
         rw [← i3, hb2, Bool.false_or])
  · try simp only [decide_eq_false_iff_not] at hb1
    refine awp_exit ?_
    change Awp _ _ _ _ _ _ _
    refine awp_rseq [2] (by rfl) fun K hK => ?_
    simp +decide only [aOps_nil, ev, absV, absS, putD, Slots.put, Slots.get, Slots.keep, if_true, if_false, true_and, ↓ap_move, pop_move, ↓ap_binOp, pop_binOp, isNilC_int, cond_false, pBinX_int, pI_gtr, ↓ag_move, agP, agQ_some, nthDst, gKnown_bool, guardB_bool_true, implies_true, ↓ag_index, pop_index, pIndex_str Tryz.underlying9, cv_indexl, cv_indexr, cp_indexl, cp_indexr, ↓ag_binOp, cv_binl, cp_binl, pI_neq, ↓ap_pick, pop_pick, pPick_bool, pickV_cond_l, pickV_and, ↓ag_len, pop_len, pLen_str Tryz.underlying9, cv_len, cp_len, pI_sub, ↓ap_assign, pop_assign, z0, e45]
    try simp (disch := omega) only [wrap_i64]
    repeat (with_reducible refine And.intro ?_ ?_; · first | trivial | omega | (intro hg; simp only [Bool.and_eq_true, Bool.or_eq_true, Bool.not_eq_true', Bool.and_eq_false_iff, Bool.or_eq_false_iff, Bool.not_eq_false', decide_eq_true_eq, decide_eq_false_iff_not, eqNil] at hg; omega) )
    apply hK; clear hK K
    refine awp_ret ?_
    refine retA_ret _ (Sub.refl _) (resPre_tmp (resPre_nil)) ?_
    simp +decide only [Slots.get, if_true, and_true, resOf_one]
    have hn : decide (0 < n) = s.any letterB := by rw [← i3, List.drop_eq_nil_of_le (by omega)]; simp
    have hn' : decide ((0 : Int) < (n : Int)) = s.any letterB := by rw [← hn]; exact decide_eq_decide.2 (by omega)
    unfold nameOk
    rw [hn']
    first
    | rfl
    | (cases s.any letterB <;> simp)
theorem c_rquote (w₀ : World) (h : AHeap) (s : Str) (i : Nat) (hi : i < s.length) (hl : s.length ≤ 1099511627776) : ACall Tryz.prog w₀ 56 [.str s, .int .i64 i] h (fun v h' => v = .tuple [.str (quoteE s i).text, .int .i64 (if (quoteE s i).e = 0 then ((i + (quoteE s i).n : Nat) : Int) else 0)] ∧ h' = h) := by
  refine acall_intro (n := 48) (rs := [.tmp 4, .tmp 5]) Tryz.func56 rfl rfl rfl rfl (Nat.le_of_ble_eq_true rfl) ?_
  simp only [initSlots]
  refine awp_rseq [0, 1] (by rfl) fun K hK => ?_
  simp +decide only [aOps_nil, ev, absV, absS, putD, Slots.put, Slots.keep, if_true, if_false, true_and, ↓ap_assign, pop_assign]
  apply hK; clear hK K
  refine awp_rseq [0, 1, 6] (by rfl) fun K hK => ?_
  simp +decide only [aOps_nil, ev, absV, absS, putD, Slots.put, Slots.keep, if_true, if_false, true_and, ↓ap_assign, pop_assign]
  apply hK; clear hK K
  refine awp_seq ?_
  refine awp_rseq [0, 6, 7] (by rfl) fun K hK => ?_
  simp +decide only [aOps_nil, ev, absV, absS, putD, Slots.put, Slots.get, Slots.keep, if_true, if_false, true_and, ↓ap_move, pop_move, ↓ap_binOp, pop_binOp, isNilC_int, cond_false, pBinX_int, pI_add, ↓ap_assign, pop_assign]
  try simp (disch := omega) only [wrap_i64]
  apply hK; clear hK K
  refine awp_block ?_
  refine awp_loopG [0, 6, 7] (fun g : Nat × Str => [(0, .str s), (6, .str g.2), (7, .int .i64 g.1)]) (fun g : Nat × Str => h) (fun g : Nat × Str => i < g.1 ∧ g.1 ≤ s.length ∧ quoteGo (s.drop g.1) g.2 (g.1 - i) = quoteE s i ∧ g.2.length ≤ g.1) (fun g : Nat × Str => s.length - g.1) (i + 1, []) (by rfl) (Sub.refl _) ⟨Nat.lt_succ_self _, hi, by unfold quoteE; rw [Nat.add_sub_cancel_left], Nat.zero_le _⟩ ?_
  rintro ⟨k, acc⟩ ⟨i1, i2, i3, i4⟩
  simp only at i1 i2 i3 i4 ⊢
  refine awp_seq ?_
  refine awp_rseq [0, 6, 7, 13] (by rfl) fun K hK => ?_
  simp +decide only [aOps_nil, ev, putD, Slots.put, Slots.get, Slots.keep, if_true, if_false, true_and, ↓ap_move, pop_move, ↓ap_len, pop_len, pLen_str Tryz.underlying9, ↓ap_binOp, pop_binOp, isNilC_tmp, cond_false, pBinX_int, pI_lss]
  apply hK; clear hK K
  refine awp_cond (b := _) rfl (fun hb1 => ?_) (fun hb1 => ?_)
  · try simp only [decide_eq_true_eq] at hb1
    have hk : k < s.length := by omega
    rw [drop_eq hk] at i3
    have hcut : (s.drop k).take (((k : Int) + 1).toNat - k) = [s.getD k 0] := by
      rw [show ((k : Int) + 1).toNat - k = 1 by omega, drop_eq hk]
      rfl
    refine awp_skip ?_
    change Awp _ _ _ _ _ _ _
    refine awp_seq ?_
    refine awp_block ?_
    refine awp_seq ?_
    refine awp_rseq [0, 6, 7, 19] (by rfl) fun K hK => ?_
    simp +decide only [aOps_nil, ev, absV, absS, putD, Slots.put, Slots.get, Slots.keep, if_true, if_false, true_and, ↓ap_move, pop_move, ↓ap_index, pop_index, pIndex_str Tryz.underlying9, ↓ap_binOp, pop_binOp, isNilC_int, cond_false, pBinX_int, pI_neq, Int.toNat_natCast]
    repeat (with_reducible refine And.intro ?_ ?_; · first | trivial | omega | (intro hg; simp only [Bool.and_eq_true, Bool.or_eq_true, Bool.not_eq_true', Bool.and_eq_false_iff, Bool.or_eq_false_iff, Bool.not_eq_false', decide_eq_true_eq, decide_eq_false_iff_not, eqNil] at hg; omega) | (simp only [List.length_append, List.length_map, List.length_range, List.length_replicate, List.length_take, List.length_drop, List.length_cons, List.length_nil, List.length_set, List.length_reverse]; omega))
    apply hK; clear hK K
    refine awp_cond (b := _) rfl (fun hb2 => ?_) (fun hb2 => ?_)
    · try simp only [decide_eq_false_iff_not, Bool.not_eq_true'] at hb2
      have hne : s.getD k 0 ≠ 34 := fun e => hb2 ((u8_eq _ 34).mpr e)
      rw [quoteGo_other hne] at i3
      refine awp_rseq [0, 6, 7] (by rfl) fun K hK => ?_
      simp +decide only [ev, absV, absS, putD, Slots.put, Slots.get, if_true, if_false, true_and, ↓ap_move, pop_move, ↓ap_binOp, pop_binOp, isNilC_int, cond_false, pBinX_int, pI_add]
      try simp (disch := omega) only [wrap_i64]
      try simp +decide only [aOps_nil, ev, putD, Slots.put, Slots.get, Slots.keep, if_true, if_false, true_and, ↓ap_slice, pop_slice, evO, pSliceS_ii Tryz.underlying9, pSliceS, bndA_int, ↓ap_binOp, pop_binOp, isNilC_tmp, cond_false, pBinX_str, pS_add, ↓ap_assign, pop_assign, hcut, Int.toNat_natCast]
      repeat (with_reducible refine And.intro ?_ ?_; · first | trivial | omega | (intro hg; simp only [Bool.and_eq_true, Bool.or_eq_true, Bool.not_eq_true', Bool.and_eq_false_iff, Bool.or_eq_false_iff, Bool.not_eq_false', decide_eq_true_eq, decide_eq_false_iff_not, eqNil] at hg; omega) | (simp only [List.length_cons, List.length_nil]; omega))
      apply hK; clear hK K
      refine awp_exit ?_
      change Awp _ _ _ _ _ _ _
      refine awp_r [0, 6, 7] (by rfl) ?_
      simp +decide only [aOps_nil, ev, absV, absS, putD, Slots.put, Slots.get, Slots.keep, if_true, if_false, true_and, ↓ap_move, pop_move, ↓ap_binOp, pop_binOp, isNilC_int, cond_false, pBinX_int, pI_add, ↓ap_assign, pop_assign]
      try simp (disch := omega) only [wrap_i64]
      try simp only [thenA_normal]
      first
      | exact ⟨(k + 1, acc ++ [s.getD k 0]), rfl, Sub.refl _, ⟨by simp only; omega, hk, by simp only; rw [← i3, show k + 1 - i = k - i + 1 by omega], by simp only [List.length_append, List.length_cons, List.length_nil]; omega⟩, by simp only; omega⟩
      | exact ⟨(k + 2, acc ++ [34]), by simp only [show (((k + 2 : Nat)) : Int) = (k : Int) + 1 + 1 by omega]; rfl, Sub.refl _, ⟨by simp only; omega, hk1, by simp only; rw [← i3, show k + 2 - i = k - i + 2 by omega], by simp only [List.length_append, List.length_cons, List.length_nil]; omega⟩, by simp only; omega⟩
    · try simp only [decide_eq_true_eq, Bool.not_eq_false'] at hb2
      have he : s.getD k 0 = 34 := (u8_eq _ 34).mp (by simpa using hb2)
      rw [he] at i3
      refine awp_skip ?_
      change Awp _ _ _ _ _ _ _
      refine awp_seq ?_
      refine awp_rseq [0, 6, 7, 38] (by rfl) fun K hK => ?_
      simp +decide only [aOps_nil, ev, absV, absS, putD, Slots.put, Slots.get, Slots.keep, if_true, if_false, true_and, ↓ap_move, pop_move, ↓ap_binOp, pop_binOp, isNilC_int, cond_false, pBinX_int, pI_add, ↓ap_len, pop_len, pLen_str Tryz.underlying9, isNilC_tmp, pI_lss, ↓ag_move, agP, agQ_some, nthDst, gKnown_bool, guardB_bool_true, implies_true, ↓ag_binOp, cv_binl, cp_binl, ↓ag_index, pop_index, pIndex_str Tryz.underlying9, cv_indexl, cv_indexr, cp_indexl, cp_indexr, pI_eql, ↓ap_pick, pop_pick, pPick_bool, pickV_cond_l, pickV_and]
      try simp (disch := omega) only [wrap_i64]
      repeat (with_reducible refine And.intro ?_ ?_; · first | trivial | omega | (intro hg; simp only [decide_eq_true_eq] at hg; omega) | (simp only [List.length_append, List.length_map, List.length_range, List.length_replicate, List.length_take, List.length_drop, List.length_cons, List.length_nil, List.length_set, List.length_reverse]; omega))
      apply hK; clear hK K
      refine awp_cond (b := _) rfl (fun hb3 => ?_) (fun hb3 => ?_)
      · try simp only [decide_eq_true_eq, Bool.and_eq_true] at hb3
        have hk1 : k + 1 < s.length := by omega
        have he1 : s.getD (k + 1) 0 = 34 := by
          have := hb3.2
          rw [show ((k : Int) + 1).toNat = k + 1 by omega] at this
          exact (u8_eq _ 34).mp this
        rw [drop_eq hk1, he1, quoteGo_two] at i3
        refine awp_rseq [0, 6, 7] (by rfl) fun K hK => ?_
        simp +decide only [aOps_nil, ev, absV, absS, putD, Slots.put, Slots.get, Slots.keep, if_true, if_false, true_and, ↓ap_move, pop_move, ↓ap_binOp, pop_binOp, isNilC_str, cond_false, pBinX_str, pS_add, ↓ap_assign, pop_assign]
        repeat (with_reducible refine And.intro ?_ ?_; · first | trivial | omega | (intro hg; simp only [Bool.and_eq_true, Bool.or_eq_true, Bool.not_eq_true', Bool.and_eq_false_iff, Bool.or_eq_false_iff, Bool.not_eq_false', decide_eq_true_eq, decide_eq_false_iff_not, eqNil] at hg; omega) | (simp only [List.length_cons, List.length_nil]; omega))
        apply hK; clear hK K
        refine awp_rseq [0, 6, 7] (by rfl) fun K hK => ?_
        simp +decide only [aOps_nil, ev, absV, absS, putD, Slots.put, Slots.get, Slots.keep, if_true, if_false, true_and, ↓ap_move, pop_move, ↓ap_binOp, pop_binOp, isNilC_int, cond_false, pBinX_int, pI_add, ↓ap_assign, pop_assign]
        try simp (disch := omega) only [wrap_i64]
        apply hK; clear hK K
        refine awp_exit ?_
        change Awp _ _ _ _ _ _ _
        refine awp_r [0, 6, 7] (by rfl) ?_
        simp +decide only [aOps_nil, ev, absV, absS, putD, Slots.put, Slots.get, Slots.keep, if_true, if_false, true_and, ↓ap_move, pop_move, ↓ap_binOp, pop_binOp, isNilC_int, cond_false, pBinX_int, pI_add, ↓ap_assign, pop_assign]
        try simp (disch := omega) only [wrap_i64]
        try simp only [thenA_normal]
        first
        | exact ⟨(k + 1, acc ++ [s.getD k 0]), rfl, Sub.refl _, ⟨by simp only; omega, hk, by simp only; rw [← i3, show k + 1 - i = k - i + 1 by omega], by simp only [List.length_append, List.length_cons, List.length_nil]; omega⟩, by simp only; omega⟩
        | exact ⟨(k + 2, acc ++ [34]), by simp only [show (((k + 2 : Nat)) : Int) = (k : Int) + 1 + 1 by omega]; rfl, Sub.refl _, ⟨by simp only; omega, hk1, by simp only; rw [← i3, show k + 2 - i = k - i + 2 by omega], by simp only [List.length_append, List.length_cons, List.length_nil]; omega⟩, by simp only; omega⟩
      · try simp only [decide_eq_false_iff_not, Bool.and_eq_false_iff] at hb3
        have hnh : (s.drop (k + 1)).head? ≠ some 34 := by
          intro e
          rw [List.head?_drop] at e
          obtain ⟨e1, e2⟩ := List.getElem?_eq_some_iff.1 e
          rcases hb3 with q | q
          · omega
          · rw [show ((k : Int) + 1).toNat = k + 1 by omega, List.getD, e] at q
            exact q rfl
        rw [quoteGo_end hnh] at i3
        refine awp_skip ?_
        change Awp _ _ _ _ _ _ _
        refine awp_seq ?_
        refine awp_rseq [6, 7, 44] (by rfl) fun K hK => ?_
        simp +decide only [aOps_nil, ev, absV, absS, putD, Slots.put, Slots.get, Slots.keep, if_true, if_false, true_and, ↓ap_move, pop_move, ↓ap_binOp, pop_binOp, isNilC_str, cond_false, pBinX_str, pS_eql]
        apply hK; clear hK K
        refine awp_cond (b := _) rfl (fun hb4 => ?_) (fun hb4 => ?_)
        · try simp only [decide_eq_true_eq] at hb4
          rw [if_pos hb4] at i3
          refine awp_rseq [4, 5] (by rfl) fun K hK => ?_
          simp +decide only [aOps_nil, ev, absV, absS, putD, Slots.put, Slots.keep, if_true, if_false, true_and, ↓ap_assign, pop_assign]
          apply hK; clear hK K
          refine awp_ret ?_
          try simp only [thenA_ret, inBlockA_ret]
          refine retA_ret _ (Sub.refl _) (resPre_tmp (resPre_tmp (resPre_nil))) ?_
          simp +decide only [Slots.get, if_true, if_false, and_true, resOf_two]
          rw [← i3]
          rfl
        · try simp only [decide_eq_false_iff_not] at hb4
          rw [if_neg hb4] at i3
          refine awp_skip ?_
          change Awp _ _ _ _ _ _ _
          refine awp_rseq [4, 5] (by rfl) fun K hK => ?_
          simp +decide only [aOps_nil, ev, absV, absS, putD, Slots.put, Slots.get, Slots.keep, if_true, if_false, true_and, ↓ap_move, pop_move, ↓ap_binOp, pop_binOp, isNilC_int, cond_false, pBinX_int, pI_add, ↓ap_assign, pop_assign]
          try simp (disch := omega) only [wrap_i64]
          apply hK; clear hK K
          refine awp_ret ?_
          try simp only [thenA_ret, inBlockA_ret]
          refine retA_ret _ (Sub.refl _) (resPre_tmp (resPre_tmp (resPre_nil))) ?_
          simp +decide only [Slots.get, if_true, if_false, and_true, resOf_two]
          rw [← i3]
          rw [if_pos rfl, show ((i + (k - i + 1) : Nat) : Int) = (k : Int) + 1 by omega]
  · try simp only [decide_eq_false_iff_not] at hb1
    rw [List.drop_eq_nil_of_le (by omega), quoteGo_nil] at i3
    refine awp_exit ?_
    change Awp _ _ _ _ _ _ _
    refine awp_rseq [4, 5] (by rfl) fun K hK => ?_
    simp +decide only [aOps_nil, ev, absV, absS, putD, Slots.put, Slots.keep, if_true, if_false, true_and, ↓ap_assign, pop_assign]
    apply hK; clear hK K
    refine awp_ret ?_
    refine retA_ret _ (Sub.refl _) (resPre_tmp (resPre_tmp (resPre_nil))) ?_
    simp +decide only [Slots.get, if_true, if_false, and_true, resOf_two]
    rw [← i3]
    rfl
end Go.Proofs.YtmadddihphkmoaaGreatDoor

/-
  Contracts: picture, numeral of the reference.
  Conditions: none.
-/
namespace Go.Proofs.YtmadddihphkmoaaGreatDoor
open Go.AM
open Go.Proofs
open Go.Col
open Go.Tok
open Go.RowKit (Below)
set_option maxRecDepth 100000

theorem pic_words (x : Str) : [PIC, PICTURE].contains x = (decide (x = [80, 73, 67]) || decide (x = [80, 73, 67, 84, 85, 82, 69])) := by
  rw [Bool.eq_iff_iff]
  simp [PIC, PICTURE]
theorem is_words (x : Str) : [IS].contains x = decide (x = [73, 83]) := by
  rw [Bool.eq_iff_iff]
  simp [IS]
theorem c_rpic0 (w₀ : World) (h : AHeap) (v : AVal) (hv : IsL w₀ h 5 v ([].map tokC)) : ACall Tryz.prog w₀ 29 [v] h (fun r h' => r = .tuple [.bool false, .bool false] ∧ h' = h) := by
  have hlv := hv.live
  have hlen := tok_len hv
  have g1 : ¬ ((0 : Int) < ((([] : List TokC).length : Nat) : Int)) := by decide
  have g2 : ¬ ((1 : Int) < ((([] : List TokC).length : Nat) : Int)) := by decide
  refine acall_intro (n := 83) (rs := [.tmp 2, .tmp 3]) Tryz.func29 rfl rfl rfl rfl (Nat.le_of_ble_eq_true rfl) ?_
  simp only [initSlots]
  refine awp_rseq [0] (by rfl) fun K hK => ?_
  simp +decide only [aOps_nil, ev, absV, absS, putD, Slots.put, Slots.keep, if_true, if_false, true_and, ↓ap_assign, pop_assign]
  apply hK; clear hK K
  refine awp_rseq [0, 4] (by rfl) fun K hK => ?_
  simp +decide only [aOps_nil, ev, putD, Slots.put, Slots.get, Slots.keep, if_true, if_false, true_and, ↓ap_move, pop_move, ↓ap_len, pop_len, ↓ap_assign, pop_assign, hlen]
  apply hK; clear hK K
  refine awp_seq ?_
  refine awp_rseq [0, 4, 35] (by kernel_rfl) fun K hK => ?_
  refine aOps_hide fun O hO => ?_
  have gd_2 : nthDst O 2 = some 9 := by rw [hO]; rfl
  have gd_11 : nthDst O 11 = some 18 := by rw [hO]; rfl
  have gd_19 : nthDst O 19 = some 26 := by rw [hO]; rfl
  clear hO
  refine aOps_chunk 10 fun K' hK' => ?_
  simp only [List.take_succ_cons, List.take_zero]
  simp +decide only [aOps_nil, ev, absV, absS, putD, Slots.put, Slots.get, if_true, if_false, true_and, ↓ap_move, pop_move, ↓ap_binOp, pop_binOp, isNilC_int, cond_false, pBinX_int, pI_gtr, ↓ag_move, agP, agQ_some, gKnown_bool, guardB_bool_true, implies_true, decide_false, condV_false, false_implies, agL_deadF, ↓ag_binOp, ↓ag_indexAddrL, agQL_some, ↓ag_fieldAddr, pop_fieldAddr, ↓ag_loadL, gd_2]
  apply hK'; clear hK' K'
  simp only [List.drop_succ_cons, List.drop_zero]
  refine aOps_chunk 10 fun K' hK' => ?_
  simp only [List.take_succ_cons, List.take_zero]
  simp +decide only [aOps_nil, ev, absV, absS, putD, Slots.put, Slots.get, if_true, if_false, true_and, ↓ap_pick, pop_pick, pPick_bool, ↓ap_move, pop_move, ↓ag_move, agP, agQ_some, gKnown_bool, guardB_bool_true, implies_true, condV_false, false_implies, pickV_false, agL_deadF, ↓ag_binOp, pop_binOp, isNilC_int, cond_false, ↓ag_indexAddrL, agQL_some, ↓ag_fieldAddr, pop_fieldAddr, ↓ag_loadL, isNilC_str, gd_11]
  apply hK'; clear hK' K'
  simp only [List.drop_succ_cons, List.drop_zero]
  simp +decide only [aOps_nil, ev, absV, absS, putD, Slots.put, Slots.get, Slots.keep, if_true, if_false, true_and, ↓ag_move, pop_move, agP, agQ_some, gKnown_bool, guardB_bool_true, implies_true, condV_false, false_implies, pickV_false, agL_deadU, ↓ag_binOp, pop_binOp, isNilC_int, cond_false, cv_binl, pBinX_int, pI_sub, ↓ag_indexAddrL, agQL_some, ↓ag_fieldAddr, pop_fieldAddr, ↓ag_loadL, isNilC_str, ↓ag_pick, pop_pick, pPick_bool, ↓ap_pick, gd_11, gd_19]
  apply hK; clear hK K
  refine awp_cond (b := _) rfl (fun hb1 => ?_) (fun hb1 => ?_)
  · exact absurd hb1 (by decide)
  · try simp only at hb1
    refine awp_skip ?_
    change Awp _ _ _ _ _ _ _
    refine awp_seq ?_
    refine awp_rseq [82] (by kernel_rfl) fun K hK => ?_
    refine aOps_hide fun O hO => ?_
    have gd_2 : nthDst O 2 = some 38 := by rw [hO]; rfl
    have gd_11 : nthDst O 11 = some 47 := by rw [hO]; rfl
    have gd_20 : nthDst O 20 = some 56 := by rw [hO]; rfl
    have gd_29 : nthDst O 29 = some 65 := by rw [hO]; rfl
    have gd_37 : nthDst O 37 = some 73 := by rw [hO]; rfl
    clear hO
    refine aOps_chunk 10 fun K' hK' => ?_
    simp only [List.take_succ_cons, List.take_zero]
    simp +decide only [aOps_nil, ev, absV, absS, putD, Slots.put, Slots.get, if_true, if_false, true_and, ↓ap_move, pop_move, ↓ap_binOp, pop_binOp, isNilC_int, cond_false, pBinX_int, pI_gtr, ↓ag_move, agP, agQ_some, gKnown_bool, guardB_bool_true, implies_true, decide_false, condV_false, false_implies, agL_deadF, ↓ag_binOp, ↓ag_indexAddrL, agQL_some, ↓ag_fieldAddr, pop_fieldAddr, ↓ag_loadL, gd_2]
    apply hK'; clear hK' K'
    simp only [List.drop_succ_cons, List.drop_zero]
    refine aOps_chunk 10 fun K' hK' => ?_
    simp only [List.take_succ_cons, List.take_zero]
    simp +decide only [aOps_nil, ev, absV, absS, putD, Slots.put, Slots.get, if_true, if_false, true_and, ↓ap_pick, pop_pick, pPick_bool, ↓ap_move, pop_move, ↓ag_move, agP, agQ_some, gKnown_bool, guardB_bool_true, implies_true, condV_false, false_implies, pickV_false, agL_deadF, ↓ag_binOp, pop_binOp, isNilC_int, cond_false, ↓ag_indexAddrL, agQL_some, ↓ag_fieldAddr, pop_fieldAddr, ↓ag_loadL, isNilC_str, gd_11]
    apply hK'; clear hK' K'
    simp only [List.drop_succ_cons, List.drop_zero]
    refine aOps_chunk 10 fun K' hK' => ?_
    simp only [List.take_succ_cons, List.take_zero]
    simp +decide only [aOps_nil, ev, absV, absS, putD, Slots.put, Slots.get, if_true, if_false, true_and, ↓ap_move, pop_move, ↓ag_move, agP, agQ_some, gKnown_bool, guardB_bool_true, implies_true, condV_false, false_implies, pickV_false, agL_deadF, ↓ag_binOp, pop_binOp, isNilC_int, cond_false, ↓ag_indexAddrL, agQL_some, ↓ag_fieldAddr, pop_fieldAddr, ↓ag_loadL, ↓ap_pick, pop_pick, pPick_bool, gd_20]
    apply hK'; clear hK' K'
    simp only [List.drop_succ_cons, List.drop_zero]
    refine aOps_chunk 10 fun K' hK' => ?_
    simp only [List.take_succ_cons, List.take_zero]
    simp +decide only [aOps_nil, ev, absV, absS, putD, Slots.put, Slots.get, if_true, if_false, true_and, ↓ag_move, pop_move, agP, agQ_some, gKnown_bool, guardB_bool_true, implies_true, condV_false, false_implies, agL_deadF, ↓ag_binOp, pop_binOp, isNilC_int, cond_false, ↓ag_indexAddrL, agQL_some, ↓ag_fieldAddr, pop_fieldAddr, ↓ag_loadL, isNilC_str, gd_29, gd_37]
    apply hK'; clear hK' K'
    simp only [List.drop_succ_cons, List.drop_zero]
    simp +decide only [aOps_nil, ev, absV, absS, putD, Slots.put, Slots.get, Slots.keep, if_true, if_false, true_and, ↓ag_binOp, pop_binOp, agP, agQ_some, gKnown_bool, guardB_bool_true, condV_false, false_implies, pickV_false, isNilC_int, cond_false, cv_binl, pBinX_int, pI_sub, agL_deadU, ↓ag_indexAddrL, agQL_some, ↓ag_fieldAddr, pop_fieldAddr, ↓ag_loadL, isNilC_str, ↓ag_pick, pop_pick, pPick_bool, ↓ap_pick, gd_29, gd_37]
    apply hK; clear hK K
    refine awp_cond (b := _) rfl (fun hb2 => ?_) (fun hb2 => ?_)
    · exact absurd hb2 (by decide)
    · try simp only at hb2
      refine awp_skip ?_
      change Awp _ _ _ _ _ _ _
      refine awp_rseq [2, 3] (by rfl) fun K hK => ?_
      simp +decide only [aOps_nil, ev, absV, absS, putD, Slots.put, Slots.keep, if_true, if_false, true_and, ↓ap_assign, pop_assign]
      apply hK; clear hK K
      refine awp_ret ?_
      refine retA_ret _ (Sub.refl _) (resPre_tmp (resPre_tmp (resPre_nil))) ?_
      simp +decide only [Slots.get, if_true, if_false, and_true, resOf_two]
      all_goals first | rfl | exact ⟨rfl, rfl⟩ | (simp +decide only [if_true, if_false, *]; done) | (trace_state; fail)
theorem c_rpic1 (w₀ : World) (h : AHeap) (v : AVal) (l : List TokC) (hv : IsL w₀ h 5 v (l.map tokC)) (hl : l.length = 1) : ACall Tryz.prog w₀ 29 [v] h (fun r h' => r = .tuple [.bool (picE l).1, .bool (picE l).2] ∧ h' = h) := by
  obtain ⟨lc, o, c, rfl⟩ := tok_open hv (by omega)
  have hlv := hv.live
  obtain ⟨e0, e1, _, _, _⟩ := tok_at hv (i := 0) (by omega)
  have w1 := wordE_hi (l := l) (n := 1) (ws := [PIC, PICTURE]) (by decide) (by omega)
  have w2 := wordE_lo (l := l) (n := 2) (ws := [PIC, PICTURE]) (by decide) (by omega)
  rw [hl] at w1 hlv ⊢
  obtain ⟨t, ht⟩ : ∃ t, t = l.getD 0 badT := ⟨_, rfl⟩
  rw [show (1 : Nat) - 1 = 0 from rfl, ← ht] at w1
  rw [← ht] at e0 e1
  rw [pic_words] at w1
  have e1k : decide ((t.kind.toNat : Int) = 1) = decide (t.kind = 1) := decide_eq_decide.2 (iff_of_eq (u8_eq t.kind 1))
  have z0 : (((1 : Nat) : Int) - 1).toNat = 0 := rfl
  have z1 : ((1 : Nat) : Int) - 1 = 0 := rfl
  have hw0 : IntKind.i64.wrap 0 = 0 := by decide
  have f0 : rd w₀ h lc (o + Int.toNat 0 * 5) = .int .u8 t.kind.toNat := e0
  have f1 : rd w₀ h lc (o + Int.toNat 0 * 5 + 1) = .str t.text := e1
  have hp : picE l = if wordE l 1 [PIC, PICTURE] = true then (true, true) else (false, false) := by
    unfold picE
    rw [w2, Bool.and_false]
  refine acall_intro (n := 83) (rs := [.tmp 2, .tmp 3]) Tryz.func29 rfl rfl rfl rfl (Nat.le_of_ble_eq_true rfl) ?_
  simp only [initSlots]
  refine awp_rseq [0] (by rfl) fun K hK => ?_
  simp +decide only [aOps_nil, ev, absV, absS, putD, Slots.put, Slots.keep, if_true, if_false, true_and, ↓ap_assign, pop_assign]
  apply hK; clear hK K
  refine awp_rseq [0, 4] (by rfl) fun K hK => ?_
  simp +decide only [aOps_nil, ev, putD, Slots.put, Slots.get, Slots.keep, if_true, if_false, true_and, ↓ap_move, pop_move, ↓ap_len, pop_len, pLen_slice Tryz.underlying25, ↓ap_assign, pop_assign]
  apply hK; clear hK K
  refine awp_seq ?_
  refine awp_rseq [0, 4, 35] (by kernel_rfl) fun K hK => ?_
  refine aOps_hide fun O hO => ?_
  have gd_2 : nthDst O 2 = some 9 := by rw [hO]; rfl
  have gd_11 : nthDst O 11 = some 18 := by rw [hO]; rfl
  have gd_19 : nthDst O 19 = some 26 := by rw [hO]; rfl
  clear hO
  refine aOps_chunk 10 fun K' hK' => ?_
  simp only [List.take_succ_cons, List.take_zero]
  simp +decide only [aOps_nil, ev, absV, absS, putD, Slots.put, Slots.get, if_true, if_false, true_and, ↓ap_move, pop_move, ↓ap_binOp, pop_binOp, isNilC_int, cond_false, pBinX_int, pI_gtr, ↓ag_move, agP, agQ_some, gKnown_bool, guardB_bool_true, implies_true, decide_true, condV_true, ↓ag_binOp, pI_sub, ↓ag_indexAddrL, agQL_some, agL_mk, pIndexAddr_slice Tryz.underlying25 sz38, ↓ag_fieldAddr, pop_fieldAddr, fa38_0, ↓ag_loadL, pLoad_one ag36, pI_eql, lv_int, f0, e1k, z1, hw0, Nat.add_zero, gd_2]
  apply hK'; clear hK' K'
  simp only [List.drop_succ_cons, List.drop_zero]
  refine aOps_chunk 10 fun K' hK' => ?_
  simp only [List.take_succ_cons, List.take_zero]
  simp +decide only [aOps_nil, ev, absV, absS, putD, Slots.put, Slots.get, if_true, if_false, true_and, ↓ap_pick, pop_pick, pPick_bool, pickV_and, ↓ap_move, pop_move, ↓ag_move, agP, agQ_some, gKnown_bool, guardB_bool_true, cv_cv, implies_true, Bool.true_and, ↓ag_binOp, pop_binOp, isNilC_int, cond_false, cv_binl, cp_binl, pBinX_int, pI_sub, ↓ag_indexAddrL, agQL_some, agL_mk, agL_il1, agL_ir1, pIndexAddr_slice Tryz.underlying25 sz38, ↓ag_fieldAddr, pop_fieldAddr, fa38_1, cv_fieldAddr, cp_fieldAddr, ↓ag_loadL, agL_ld1, pLoad_one ag9, isNilC_str, pBinX_str, pS_eql, lv_str, f1, z1, hw0, gd_11]
  apply hK'; clear hK' K'
  simp only [List.drop_succ_cons, List.drop_zero]
  simp +decide only [aOps_nil, ev, absV, absS, putD, Slots.put, Slots.get, Slots.keep, if_true, if_false, true_and, ↓ag_move, pop_move, agP, agQ_some, gKnown_bool, gKnown_cond, guardB_cond, guardB_bool_true, guardB_bool_false, implies_true, ↓ag_binOp, pop_binOp, isNilC_int, cond_false, cv_binl, cp_binl, pBinX_int, pI_sub, ↓ag_indexAddrL, agQL_some, agL_mk, agL_il4, agL_ir4, pIndexAddr_slice Tryz.underlying25 sz38, ↓ag_fieldAddr, pop_fieldAddr, fa38_1, cv_fieldAddr, cp_fieldAddr, ↓ag_loadL, agL_ld4, pLoad_one ag9, isNilC_str, pBinX_str, pS_eql, ↓ag_pick, pop_pick, pPick_bool, pickV_cond_l, cp_nest2, pickV_and, pickV_or, cv_pick, cp_pick, ↓ap_pick, lv_str, f1, z1, hw0, gd_11, gd_19]
  apply hK; clear hK K
  refine awp_cond (b := _) rfl (fun hb1 => ?_) (fun hb1 => ?_)
  · try simp only [decide_eq_true_eq, Bool.and_eq_true, Bool.or_eq_true] at hb1
    refine awp_rseq [2, 3] (by rfl) fun K hK => ?_
    simp +decide only [aOps_nil, ev, absV, absS, putD, Slots.put, Slots.keep, if_true, if_false, true_and, ↓ap_assign, pop_assign]
    apply hK; clear hK K
    refine awp_ret ?_
    try simp only [thenA_ret]
    refine retA_ret h (by repeat (first | exact Sub.refl _ | assumption | refine Sub.trans_set ?_ (by assumption))) (resPre_tmp (resPre_tmp (resPre_nil))) ?_
    simp +decide only [Slots.get, if_true, if_false, and_true, resOf_two]
    rw [hp, if_pos (by rw [w1]; simpa using hb1)]
  · try simp only [decide_eq_false_iff_not, Bool.and_eq_false_iff, Bool.or_eq_false_iff] at hb1
    refine awp_skip ?_
    change Awp _ _ _ _ _ _ _
    refine awp_seq ?_
    refine awp_rseq [82] (by kernel_rfl) fun K hK => ?_
    refine aOps_hide fun O hO => ?_
    have gd_2 : nthDst O 2 = some 38 := by rw [hO]; rfl
    have gd_11 : nthDst O 11 = some 47 := by rw [hO]; rfl
    have gd_20 : nthDst O 20 = some 56 := by rw [hO]; rfl
    have gd_29 : nthDst O 29 = some 65 := by rw [hO]; rfl
    have gd_37 : nthDst O 37 = some 73 := by rw [hO]; rfl
    clear hO
    refine aOps_chunk 10 fun K' hK' => ?_
    simp only [List.take_succ_cons, List.take_zero]
    simp +decide only [aOps_nil, ev, absV, absS, putD, Slots.put, Slots.get, if_true, if_false, true_and, ↓ap_move, pop_move, ↓ap_binOp, pop_binOp, isNilC_int, cond_false, pBinX_int, pI_gtr, ↓ag_move, agP, agQ_some, gKnown_bool, guardB_bool_true, implies_true, decide_false, condV_false, false_implies, agL_deadF, ↓ag_binOp, ↓ag_indexAddrL, agQL_some, ↓ag_fieldAddr, pop_fieldAddr, ↓ag_loadL, gd_2]
    apply hK'; clear hK' K'
    simp only [List.drop_succ_cons, List.drop_zero]
    refine aOps_chunk 10 fun K' hK' => ?_
    simp only [List.take_succ_cons, List.take_zero]
    simp +decide only [aOps_nil, ev, absV, absS, putD, Slots.put, Slots.get, if_true, if_false, true_and, ↓ap_pick, pop_pick, pPick_bool, ↓ap_move, pop_move, ↓ag_move, agP, agQ_some, gKnown_bool, guardB_bool_true, implies_true, condV_false, false_implies, pickV_false, agL_deadF, ↓ag_binOp, pop_binOp, isNilC_int, cond_false, ↓ag_indexAddrL, agQL_some, ↓ag_fieldAddr, pop_fieldAddr, ↓ag_loadL, isNilC_str, gd_11]
    apply hK'; clear hK' K'
    simp only [List.drop_succ_cons, List.drop_zero]
    refine aOps_chunk 10 fun K' hK' => ?_
    simp only [List.take_succ_cons, List.take_zero]
    simp +decide only [aOps_nil, ev, absV, absS, putD, Slots.put, Slots.get, if_true, if_false, true_and, ↓ap_move, pop_move, ↓ag_move, agP, agQ_some, gKnown_bool, guardB_bool_true, implies_true, condV_false, false_implies, pickV_false, agL_deadF, ↓ag_binOp, pop_binOp, isNilC_int, cond_false, ↓ag_indexAddrL, agQL_some, ↓ag_fieldAddr, pop_fieldAddr, ↓ag_loadL, ↓ap_pick, pop_pick, pPick_bool, gd_20]
    apply hK'; clear hK' K'
    simp only [List.drop_succ_cons, List.drop_zero]
    refine aOps_chunk 10 fun K' hK' => ?_
    simp only [List.take_succ_cons, List.take_zero]
    simp +decide only [aOps_nil, ev, absV, absS, putD, Slots.put, Slots.get, if_true, if_false, true_and, ↓ag_move, pop_move, agP, agQ_some, gKnown_bool, guardB_bool_true, implies_true, condV_false, false_implies, agL_deadF, ↓ag_binOp, pop_binOp, isNilC_int, cond_false, ↓ag_indexAddrL, agQL_some, ↓ag_fieldAddr, pop_fieldAddr, ↓ag_loadL, isNilC_str, gd_29, gd_37]
    apply hK'; clear hK' K'
    simp only [List.drop_succ_cons, List.drop_zero]
    simp +decide only [aOps_nil, ev, absV, absS, putD, Slots.put, Slots.get, Slots.keep, if_true, if_false, true_and, ↓ag_binOp, pop_binOp, agP, agQ_some, gKnown_bool, guardB_bool_true, condV_false, false_implies, pickV_false, isNilC_int, cond_false, cv_binl, pBinX_int, pI_sub, agL_deadU, ↓ag_indexAddrL, agQL_some, ↓ag_fieldAddr, pop_fieldAddr, ↓ag_loadL, isNilC_str, ↓ag_pick, pop_pick, pPick_bool, ↓ap_pick, gd_29, gd_37]
    apply hK; clear hK K
    refine awp_cond (b := _) rfl (fun hb2 => ?_) (fun hb2 => ?_)
    · exact absurd hb2 (by decide)
    · try simp only at hb2
      refine awp_skip ?_
      change Awp _ _ _ _ _ _ _
      refine awp_rseq [2, 3] (by rfl) fun K hK => ?_
      simp +decide only [aOps_nil, ev, absV, absS, putD, Slots.put, Slots.keep, if_true, if_false, true_and, ↓ap_assign, pop_assign]
      apply hK; clear hK K
      refine awp_ret ?_
      refine retA_ret h (by repeat (first | exact Sub.refl _ | assumption | refine Sub.trans_set ?_ (by assumption))) (resPre_tmp (resPre_tmp (resPre_nil))) ?_
      simp +decide only [Slots.get, if_true, if_false, and_true, resOf_two]
      rw [hp, if_neg (by
        rw [w1]
        intro q
        simp only [Bool.and_eq_true, Bool.or_eq_true, decide_eq_true_eq] at q
        rcases hb1 with z | z
        · exact z q.1
        · exact q.2.elim z.1 z.2)]
theorem c_rpic2 (w₀ : World) (h : AHeap) (v : AVal) (l : List TokC) (hv : IsL w₀ h 5 v (l.map tokC)) (hl : 2 ≤ l.length) (hl2 : l.length ≤ 1000000) : ACall Tryz.prog w₀ 29 [v] h (fun r h' => r = .tuple [.bool (picE l).1, .bool (picE l).2] ∧ h' = h) := by
  obtain ⟨lc, o, c, rfl⟩ := tok_open hv (by omega)
  have hlv := hv.live
  obtain ⟨e0, e1, _, _, _⟩ := tok_at hv (i := l.length - 1) (by omega)
  obtain ⟨d0, d1, _, _, _⟩ := tok_at hv (i := l.length - 2) (by omega)
  have w1 := wordE_hi (l := l) (n := 1) (ws := [PIC, PICTURE]) (by decide) (by omega)
  have w3 := wordE_hi (l := l) (n := 1) (ws := [IS]) (by decide) (by omega)
  have w2 := wordE_hi (l := l) (n := 2) (ws := [PIC, PICTURE]) (by decide) hl
  obtain ⟨n, hn⟩ : ∃ n, n = l.length := ⟨_, rfl⟩
  rw [← hn] at w1 w2 w3 e0 e1 d0 d1 hlv hl hl2 ⊢
  obtain ⟨t, ht⟩ : ∃ t, t = l.getD (n - 1) badT := ⟨_, rfl⟩
  obtain ⟨u, hu⟩ : ∃ u, u = l.getD (n - 2) badT := ⟨_, rfl⟩
  rw [← ht] at e0 e1 w1 w3
  rw [← hu] at d0 d1 w2
  rw [pic_words] at w1 w2
  rw [is_words] at w3
  have e1k : decide ((t.kind.toNat : Int) = 1) = decide (t.kind = 1) := decide_eq_decide.2 (iff_of_eq (u8_eq t.kind 1))
  have e2k : decide ((u.kind.toNat : Int) = 1) = decide (u.kind = 1) := decide_eq_decide.2 (iff_of_eq (u8_eq u.kind 1))
  have g1 : (0 : Int) < n := by omega
  have g2 : (1 : Int) < n := by omega
  have hw1 : IntKind.i64.wrap ((n : Int) - 1) = (n : Int) - 1 := by simp (disch := omega) only [wrap_i64]
  have hw2 : IntKind.i64.wrap ((n : Int) - 2) = (n : Int) - 2 := by simp (disch := omega) only [wrap_i64]
  have z1 : ((n : Int) - 1).toNat = n - 1 := by omega
  have z2 : ((n : Int) - 2).toNat = n - 2 := by omega
  have hp : picE l = if wordE l 1 [PIC, PICTURE] = true then (true, true) else (wordE l 1 [IS] && wordE l 2 [PIC, PICTURE], false) := rfl
  refine acall_intro (n := 83) (rs := [.tmp 2, .tmp 3]) Tryz.func29 rfl rfl rfl rfl (Nat.le_of_ble_eq_true rfl) ?_
  simp only [initSlots]
  refine awp_rseq [0] (by rfl) fun K hK => ?_
  simp +decide only [aOps_nil, ev, absV, absS, putD, Slots.put, Slots.keep, if_true, if_false, true_and, ↓ap_assign, pop_assign]
  apply hK; clear hK K
  refine awp_rseq [0, 4] (by rfl) fun K hK => ?_
  simp +decide only [aOps_nil, ev, putD, Slots.put, Slots.get, Slots.keep, if_true, if_false, true_and, ↓ap_move, pop_move, ↓ap_len, pop_len, pLen_slice Tryz.underlying25, ↓ap_assign, pop_assign]
  apply hK; clear hK K
  refine awp_seq ?_
  refine awp_rseq [0, 4, 35] (by kernel_rfl) fun K hK => ?_
  refine aOps_hide fun O hO => ?_
  have gd_2 : nthDst O 2 = some 9 := by rw [hO]; rfl
  have gd_11 : nthDst O 11 = some 18 := by rw [hO]; rfl
  have gd_19 : nthDst O 19 = some 26 := by rw [hO]; rfl
  clear hO
  refine aOps_chunk 10 fun K' hK' => ?_
  simp only [List.take_succ_cons, List.take_zero]
  simp +decide only [aOps_nil, ev, absV, absS, putD, Slots.put, Slots.get, if_true, if_false, true_and, ↓ap_move, pop_move, ↓ap_binOp, pop_binOp, isNilC_int, cond_false, pBinX_int, pI_gtr, ↓ag_move, agP, agQ_some, gKnown_bool, guardB_bool_true, implies_true, decide_true, condV_true, forall_const, ↓ag_binOp, pI_sub, ↓ag_indexAddrL, agQL_some, agL_mk, pIndexAddr_slice Tryz.underlying25 sz38, ↓ag_fieldAddr, pop_fieldAddr, fa38_0, ↓ag_loadL, pLoad_one ag36, pI_eql, lv_int, e0, e1k, g1, hw1, z1, Nat.add_zero, gd_2]
  repeat (with_reducible refine And.intro ?_ ?_; · first | trivial | omega | (intro hg; simp only [Bool.and_eq_true, Bool.or_eq_true, Bool.not_eq_true', Bool.and_eq_false_iff, Bool.or_eq_false_iff, Bool.not_eq_false', decide_eq_true_eq, decide_eq_false_iff_not, eqNil] at hg; omega) )
  apply hK'; clear hK' K'
  simp only [List.drop_succ_cons, List.drop_zero]
  refine aOps_chunk 10 fun K' hK' => ?_
  simp only [List.take_succ_cons, List.take_zero]
  simp +decide only [aOps_nil, ev, absV, absS, putD, Slots.put, Slots.get, if_true, if_false, true_and, ↓ap_pick, pop_pick, pPick_bool, pickV_and, ↓ap_move, pop_move, ↓ag_move, agP, agQ_some, gKnown_bool, guardB_bool_true, cv_cv, implies_true, Bool.true_and, ↓ag_binOp, pop_binOp, isNilC_int, cond_false, cv_binl, cp_binl, pBinX_int, pI_sub, ↓ag_indexAddrL, agQL_some, agL_mk, agL_il1, agL_ir1, pIndexAddr_slice Tryz.underlying25 sz38, ↓ag_fieldAddr, pop_fieldAddr, fa38_1, cv_fieldAddr, cp_fieldAddr, ↓ag_loadL, agL_ld1, pLoad_one ag9, isNilC_str, pBinX_str, pS_eql, lv_str, e1, hw1, z1, gd_11]
  repeat (with_reducible refine And.intro ?_ ?_; · first | trivial | omega | (intro hg; simp only [Bool.and_eq_true, Bool.or_eq_true, Bool.not_eq_true', Bool.and_eq_false_iff, Bool.or_eq_false_iff, Bool.not_eq_false', decide_eq_true_eq, decide_eq_false_iff_not, eqNil] at hg; omega) )
  apply hK'; clear hK' K'
  simp only [List.drop_succ_cons, List.drop_zero]
  simp +decide only [aOps_nil, ev, absV, absS, putD, Slots.put, Slots.get, Slots.keep, if_true, if_false, true_and, ↓ag_move, pop_move, agP, agQ_some, gKnown_bool, gKnown_cond, guardB_cond, guardB_bool_true, guardB_bool_false, implies_true, ↓ag_binOp, pop_binOp, isNilC_int, cond_false, cv_binl, cp_binl, pBinX_int, pI_sub, ↓ag_indexAddrL, agQL_some, agL_mk, agL_il4, agL_ir4, pIndexAddr_slice Tryz.underlying25 sz38, ↓ag_fieldAddr, pop_fieldAddr, fa38_1, cv_fieldAddr, cp_fieldAddr, ↓ag_loadL, agL_ld4, pLoad_one ag9, isNilC_str, pBinX_str, pS_eql, ↓ag_pick, pop_pick, pPick_bool, pickV_cond_l, cp_nest2, pickV_and, pickV_or, cv_pick, cp_pick, ↓ap_pick, lv_str, e1, hw1, z1, gd_11, gd_19]
  repeat (with_reducible refine And.intro ?_ ?_; · first | trivial | omega | (intro hg; simp only [Bool.and_eq_true, Bool.or_eq_true, Bool.not_eq_true', Bool.and_eq_false_iff, Bool.or_eq_false_iff, Bool.not_eq_false', decide_eq_true_eq, decide_eq_false_iff_not, eqNil] at hg; omega) )
  apply hK; clear hK K
  refine awp_cond (b := _) rfl (fun hb1 => ?_) (fun hb1 => ?_)
  · try simp only [decide_eq_true_eq, Bool.and_eq_true, Bool.or_eq_true] at hb1
    refine awp_rseq [2, 3] (by rfl) fun K hK => ?_
    simp +decide only [aOps_nil, ev, absV, absS, putD, Slots.put, Slots.keep, if_true, if_false, true_and, ↓ap_assign, pop_assign]
    apply hK; clear hK K
    refine awp_ret ?_
    try simp only [thenA_ret]
    refine retA_ret h (by repeat (first | exact Sub.refl _ | assumption | refine Sub.trans_set ?_ (by assumption))) (resPre_tmp (resPre_tmp (resPre_nil))) ?_
    simp +decide only [Slots.get, if_true, if_false, and_true, resOf_two]
    rw [hp, if_pos (by rw [w1]; simpa using hb1)]
  · try simp only [decide_eq_false_iff_not, Bool.and_eq_false_iff, Bool.or_eq_false_iff] at hb1
    refine awp_skip ?_
    change Awp _ _ _ _ _ _ _
    refine awp_seq ?_
    refine awp_rseq [82] (by kernel_rfl) fun K hK => ?_
    refine aOps_hide fun O hO => ?_
    have gd_2 : nthDst O 2 = some 38 := by rw [hO]; rfl
    have gd_11 : nthDst O 11 = some 47 := by rw [hO]; rfl
    have gd_20 : nthDst O 20 = some 56 := by rw [hO]; rfl
    have gd_29 : nthDst O 29 = some 65 := by rw [hO]; rfl
    have gd_37 : nthDst O 37 = some 73 := by rw [hO]; rfl
    clear hO
    refine aOps_chunk 10 fun K' hK' => ?_
    simp only [List.take_succ_cons, List.take_zero]
    simp +decide only [aOps_nil, ev, absV, absS, putD, Slots.put, Slots.get, if_true, if_false, true_and, ↓ap_move, pop_move, ↓ap_binOp, pop_binOp, isNilC_int, cond_false, pBinX_int, pI_gtr, ↓ag_move, agP, agQ_some, gKnown_bool, guardB_bool_true, implies_true, decide_true, condV_true, forall_const, ↓ag_binOp, pI_sub, ↓ag_indexAddrL, agQL_some, agL_mk, pIndexAddr_slice Tryz.underlying25 sz38, ↓ag_fieldAddr, pop_fieldAddr, fa38_0, ↓ag_loadL, pLoad_one ag36, pI_eql, lv_int, e0, e1k, g2, hw1, z1, Nat.add_zero, gd_2]
    repeat (with_reducible refine And.intro ?_ ?_; · first | trivial | omega | (intro hg; simp only [Bool.and_eq_true, Bool.or_eq_true, Bool.not_eq_true', Bool.and_eq_false_iff, Bool.or_eq_false_iff, Bool.not_eq_false', decide_eq_true_eq, decide_eq_false_iff_not, eqNil] at hg; omega) )
    apply hK'; clear hK' K'
    simp only [List.drop_succ_cons, List.drop_zero]
    refine aOps_chunk 10 fun K' hK' => ?_
    simp only [List.take_succ_cons, List.take_zero]
    simp +decide only [aOps_nil, ev, absV, absS, putD, Slots.put, Slots.get, if_true, if_false, true_and, ↓ap_pick, pop_pick, pPick_bool, pickV_cond_l, pickV_and, ↓ap_move, pop_move, ↓ag_move, agP, agQ_some, gKnown_bool, guardB_bool_true, implies_true, Bool.true_and, ↓ag_binOp, pop_binOp, isNilC_int, cond_false, cv_binl, cp_binl, pBinX_int, pI_sub, ↓ag_indexAddrL, agQL_some, agL_mk, agL_il1, agL_ir1, pIndexAddr_slice Tryz.underlying25 sz38, ↓ag_fieldAddr, pop_fieldAddr, fa38_1, cv_fieldAddr, cp_fieldAddr, ↓ag_loadL, agL_ld1, pLoad_one ag9, isNilC_str, pBinX_str, pS_eql, lv_str, e1, hw1, z1, gd_11]
    repeat (with_reducible refine And.intro ?_ ?_; · first | trivial | omega | (intro hg; simp only [Bool.and_eq_true, Bool.or_eq_true, Bool.not_eq_true', Bool.and_eq_false_iff, Bool.or_eq_false_iff, Bool.not_eq_false', decide_eq_true_eq, decide_eq_false_iff_not, eqNil] at hg; omega) )
    apply hK'; clear hK' K'
    simp only [List.drop_succ_cons, List.drop_zero]
    refine aOps_chunk 10 fun K' hK' => ?_
    simp only [List.take_succ_cons, List.take_zero]
    simp +decide only [aOps_nil, ev, absV, absS, putD, Slots.put, Slots.get, if_true, if_false, true_and, ↓ap_move, pop_move, ↓ag_move, agP, agQ_some, gKnown_bool, guardB_bool_true, implies_true, ↓ag_binOp, pop_binOp, isNilC_int, cond_false, cv_binl, cp_binl, pBinX_int, pI_sub, ↓ag_indexAddrL, agQL_some, agL_mk, agL_il1, agL_ir1, pIndexAddr_slice Tryz.underlying25 sz38, ↓ag_fieldAddr, pop_fieldAddr, fa38_0, cv_fieldAddr, cp_fieldAddr, ↓ag_loadL, agL_ld1, pLoad_one ag36, pI_eql, ↓ap_pick, pop_pick, pPick_bool, pickV_cond_l, pickV_and, lv_int, d0, e2k, hw2, z2, Nat.add_zero, gd_20]
    repeat (with_reducible refine And.intro ?_ ?_; · first | trivial | omega | (intro hg; simp only [Bool.and_eq_true, Bool.or_eq_true, Bool.not_eq_true', Bool.and_eq_false_iff, Bool.or_eq_false_iff, Bool.not_eq_false', decide_eq_true_eq, decide_eq_false_iff_not, eqNil] at hg; omega) )
    apply hK'; clear hK' K'
    simp only [List.drop_succ_cons, List.drop_zero]
    refine aOps_chunk 10 fun K' hK' => ?_
    simp only [List.take_succ_cons, List.take_zero]
    simp +decide only [aOps_nil, ev, absV, absS, putD, Slots.put, Slots.get, if_true, if_false, true_and, ↓ag_move, pop_move, agP, agQ_some, gKnown_bool, gKnown_cond, guardB_cond, guardB_bool_true, guardB_bool_false, cv_cv, implies_true, ↓ag_binOp, pop_binOp, isNilC_int, cond_false, cv_binl, cp_binl, pBinX_int, pI_sub, ↓ag_indexAddrL, agQL_some, agL_mk, agL_il1, agL_ir1, pIndexAddr_slice Tryz.underlying25 sz38, ↓ag_fieldAddr, pop_fieldAddr, fa38_1, cv_fieldAddr, cp_fieldAddr, ↓ag_loadL, agL_ld1, pLoad_one ag9, isNilC_str, pBinX_str, pS_eql, lv_str, d1, hw2, z2, gd_29, gd_37]
    repeat (with_reducible refine And.intro ?_ ?_; · first | trivial | omega | (intro hg; simp only [Bool.and_eq_true, Bool.or_eq_true, Bool.not_eq_true', Bool.and_eq_false_iff, Bool.or_eq_false_iff, Bool.not_eq_false', decide_eq_true_eq, decide_eq_false_iff_not, eqNil] at hg; omega) )
    apply hK'; clear hK' K'
    simp only [List.drop_succ_cons, List.drop_zero]
    simp +decide only [aOps_nil, ev, absV, absS, putD, Slots.put, Slots.get, Slots.keep, if_true, if_false, true_and, ↓ag_binOp, pop_binOp, agP, agQ_some, gKnown_bool, gKnown_cond, guardB_cond, guardB_bool_true, guardB_bool_false, implies_true, isNilC_int, cond_false, cv_binl, cp_binl, pBinX_int, pI_sub, ↓ag_indexAddrL, agQL_some, agL_mk, agL_il4, agL_ir4, pIndexAddr_slice Tryz.underlying25 sz38, ↓ag_fieldAddr, pop_fieldAddr, fa38_1, cv_fieldAddr, cp_fieldAddr, ↓ag_loadL, agL_ld4, pLoad_one ag9, isNilC_str, pBinX_str, pS_eql, ↓ag_pick, pop_pick, pPick_bool, pickV_cond_l, cp_nest2, pickV_and, pickV_or, cv_pick, cp_pick, ↓ap_pick, lv_str, d1, hw2, z2, gd_29, gd_37]
    repeat (with_reducible refine And.intro ?_ ?_; · first | trivial | omega | (intro hg; simp only [Bool.and_eq_true, Bool.or_eq_true, Bool.not_eq_true', Bool.and_eq_false_iff, Bool.or_eq_false_iff, Bool.not_eq_false', decide_eq_true_eq, decide_eq_false_iff_not, eqNil] at hg; omega) )
    apply hK; clear hK K
    refine awp_cond (b := _) rfl (fun hb2 => ?_) (fun hb2 => ?_)
    · try simp only [decide_eq_true_eq, Bool.and_eq_true, Bool.or_eq_true] at hb2
      refine awp_rseq [2, 3] (by rfl) fun K hK => ?_
      simp +decide only [aOps_nil, ev, absV, absS, putD, Slots.put, Slots.keep, if_true, if_false, true_and, ↓ap_assign, pop_assign]
      apply hK; clear hK K
      refine awp_ret ?_
      try simp only [thenA_ret]
      refine retA_ret h (by repeat (first | exact Sub.refl _ | assumption | refine Sub.trans_set ?_ (by assumption))) (resPre_tmp (resPre_tmp (resPre_nil))) ?_
      simp +decide only [Slots.get, if_true, if_false, and_true, resOf_two]
      rw [hp, if_neg (by
        rw [w1]
        intro q
        simp only [Bool.and_eq_true, Bool.or_eq_true, decide_eq_true_eq] at q
        rcases hb1 with z | z
        · exact z q.1
        · exact q.2.elim z.1 z.2), w3, w2]
      have hX : (decide (t.kind = 1) && decide (t.text = [73, 83]) && (decide (u.kind = 1) && (decide (u.text = [80, 73, 67]) || decide (u.text = [80, 73, 67, 84, 85, 82, 69])))) = true := by
        simp only [Bool.and_eq_true, Bool.or_eq_true, decide_eq_true_eq]
        exact ⟨⟨hb2.1.1.1, hb2.1.1.2⟩, hb2.1.2, hb2.2⟩
      simp only [hX]
    · try simp only [decide_eq_false_iff_not, Bool.and_eq_false_iff, Bool.or_eq_false_iff] at hb2
      refine awp_skip ?_
      change Awp _ _ _ _ _ _ _
      refine awp_rseq [2, 3] (by rfl) fun K hK => ?_
      simp +decide only [aOps_nil, ev, absV, absS, putD, Slots.put, Slots.keep, if_true, if_false, true_and, ↓ap_assign, pop_assign]
      apply hK; clear hK K
      refine awp_ret ?_
      refine retA_ret h (by repeat (first | exact Sub.refl _ | assumption | refine Sub.trans_set ?_ (by assumption))) (resPre_tmp (resPre_tmp (resPre_nil))) ?_
      simp +decide only [Slots.get, if_true, if_false, and_true, resOf_two]
      rw [hp, if_neg (by
        rw [w1]
        intro q
        simp only [Bool.and_eq_true, Bool.or_eq_true, decide_eq_true_eq] at q
        rcases hb1 with z | z
        · exact z q.1
        · exact q.2.elim z.1 z.2), w3, w2]
      have hX : (decide (t.kind = 1) && decide (t.text = [73, 83]) && (decide (u.kind = 1) && (decide (u.text = [80, 73, 67]) || decide (u.text = [80, 73, 67, 84, 85, 82, 69])))) = false := by
        rw [← Bool.not_eq_true]
        intro q
        simp only [Bool.and_eq_true, Bool.or_eq_true, decide_eq_true_eq] at q
        rcases hb2 with ((z | z) | z) | z
        · exact z q.1.1
        · exact z q.1.2
        · exact z q.2.1
        · exact q.2.2.elim z.1 z.2
      simp only [hX]
theorem c_rpic (w₀ : World) (h : AHeap) (v : AVal) (l : List TokC) (hv : IsL w₀ h 5 v (l.map tokC)) (hl2 : l.length ≤ 1000000) : ACall Tryz.prog w₀ 29 [v] h (fun r h' => r = .tuple [.bool (picE l).1, .bool (picE l).2] ∧ h' = h) := by
  by_cases h0 : l.length = 0
  · have : l = [] := List.eq_nil_of_length_eq_zero h0
    subst this
    exact c_rpic0 w₀ h v hv
  · by_cases h1 : l.length = 1
    · exact c_rpic1 w₀ h v l hv h1
    · exact c_rpic2 w₀ h v l hv (by omega) hl2
/-- The end of a number and its digits; (0, 0) if there is none, (-1, 0) if it is not right. -/
def numR (s : Str) (i : Nat) : Int × Int :=
  if 0 < d0E s i ∧ wordyB (peekE s ((i : Int) + (n1E s i : Nat))) = true then (if signedE s i = true then (-1, 0) else (0, 0))
  else if numDig s i = 0 then (0, 0)
  else if wordyB (peekE s ((i : Int) + (numLen s i : Nat))) = true then (-1, 0)
  else (((i + numLen s i : Nat) : Int), (numDig s i : Int))
set_option maxHeartbeats 2000000 in
theorem c_numeral (w₀ : World) (h : AHeap) (s : Str) (i : Nat) (hi : i < s.length) (hl : s.length ≤ 1099511627776) : ACall Tryz.prog w₀ 57 [.str s, .int .i64 i] h (fun v h' => v = .tuple [.int .i64 (numR s i).1, .int .i64 (numR s i).2] ∧ h' = h) := by
  have hn1 := n1_le hi
  have hnl := numLen_le hi
  have hsn := Bool.toNat_le (signedE s i)
  obtain ⟨b0, h0⟩ : ∃ b, b = s.getD i 0 := ⟨_, rfl⟩
  have hp0 : peekE s i = b0 := by rw [h0]; exact peekE_lt hi
  refine acall_intro (n := 98) (rs := [.tmp 4, .tmp 5]) Tryz.func57 rfl rfl rfl rfl (Nat.le_of_ble_eq_true rfl) ?_
  simp only [initSlots]
  refine awp_rseq [0, 1] (by rfl) fun K hK => ?_
  simp +decide only [aOps_nil, ev, absV, absS, putD, Slots.put, Slots.keep, if_true, if_false, true_and, ↓ap_assign, pop_assign]
  apply hK; clear hK K
  refine awp_rseq [0, 1, 6] (by rfl) fun K hK => ?_
  simp +decide only [aOps_nil, ev, putD, Slots.put, Slots.get, Slots.keep, if_true, if_false, true_and, ↓ap_move, pop_move, ↓ap_assign, pop_assign]
  apply hK; clear hK K
  refine awp_rseq [0, 6, 7] (by rfl) fun K hK => ?_
  simp +decide only [ev, putD, Slots.put, Slots.get, if_true, if_false, true_and, ↓ap_move, pop_move, ↓ap_index, pop_index, pIndex_str Tryz.underlying9, Int.toNat_natCast, ← h0]
  repeat (with_reducible refine And.intro ?_ ?_; · first | trivial | omega | (intro hg; simp only [Bool.and_eq_true, Bool.or_eq_true, Bool.not_eq_true', Bool.and_eq_false_iff, Bool.or_eq_false_iff, Bool.not_eq_false', decide_eq_true_eq, decide_eq_false_iff_not, eqNil] at hg; omega) )
  refine aOps_callV (V := .bool ([43, 45].contains b0)) (by rfl) (by rfl) (c_in w₀ _ b0 [43, 45] (by decide)) ?_
  simp +decide only [ev, absV, absS, putD, Slots.put, Slots.get, if_true, if_false, List.contains_cons, List.contains_nil, true_and, ↓ap_move, pop_move, ↓ag_move, agP, agQ_some, nthDst, gKnown_bool, gKnown_cond, guardB_cond, guardB_bool_true, guardB_bool_false, cv_cv, implies_true, Bool.or_false, ↓ag_binOp, pop_binOp, isNilC_int, cond_false, cv_binl, cp_binl, pBinX_int, pI_eql, pI_sub, ↓ag_index, pop_index, pIndex_str Tryz.underlying9, cv_indexl, cv_indexr, cp_indexl, cp_indexr]
  try simp (disch := omega) only [wrap_i64]
  repeat (with_reducible refine And.intro ?_ ?_; · first | trivial | omega | (intro hg; simp only [Bool.and_eq_true, Bool.or_eq_true, Bool.not_eq_true', decide_eq_false_iff_not] at hg; omega) )
  (refine aOps_gcall (V := .bool ([32, 40].contains (s.getD ((i : Int) - 1).toNat 0))) (f := _) (cap := _) (xs := _) (by first | rfl | (simp +decide only [gv, nthDst, Slots.get, if_true, if_false, gKnown_cond])) (fun hg => ⟨rfl, ?_⟩) (fun hg => c_in w₀ _ _ [32, 40] (by decide)) ?_; · (simp +decide only [gv, nthDst, Slots.get, if_true, if_false, guardB_bool_false, guardB_cond] at hg; simp +decide only [evs, ev, Slots.get, if_true, if_false, hg, condV_true, List.append_nil, List.map_cons, List.map_nil, absV, absS] <;> try rfl))
  simp +decide only [aOps_nil, ev, absV, absS, putD, Slots.put, Slots.get, Slots.keep, if_true, if_false, List.contains_cons, List.contains_nil, true_and, gv, nthDst, guardB_bool_true, guardB_bool_false, guardB_cond, ↓ag_pick, pop_pick, agP, agQ_some, gKnown_bool, implies_true, Bool.or_false, pPick_bool, pickV_cond_l, cp_nest2, pickV_and, pickV_or, cv_pick, cp_pick, ↓ap_pick, ↓ap_assign, pop_assign]
  have hsv : ((b0 == 43 || b0 == 45) && (decide ((i : Int) = 0) || (s.getD ((i : Int) - 1).toNat 0 == 32 || s.getD ((i : Int) - 1).toNat 0 == 40))) = signedE s i := by
    unfold signedE
    rw [hp0]
    have c1 : (b0 == 43 || b0 == 45) = (decide (b0 = 43) || decide (b0 = 45)) := by rw [Bool.eq_iff_iff]; simp
    rw [c1]
    congr 1
    by_cases hz : i = 0
    · rw [hz, peekE_ge (s := s) (.inl (by omega))]
      rfl
    · have : (i : Int) - 1 = ((i - 1 : Nat) : Int) := by omega
      rw [this, peekE_lt (by omega), Int.toNat_natCast, decide_eq_false (show ¬ (i : Int) = 0 by omega), Bool.false_or]
      rw [Bool.eq_iff_iff]; simp
  rw [hsv]
  obtain ⟨sg, hsg⟩ : ∃ sg, sg = signedE s i := ⟨_, rfl⟩
  rw [← hsg] at hsn ⊢
  apply hK; clear hK K
  refine awp_seq ?_
  refine awp_rseq [0, 6, 7, 25] (by rfl) fun K hK => ?_
  simp +decide only [aOps_nil, ev, putD, Slots.put, Slots.get, Slots.keep, if_true, if_false, true_and, ↓ap_move, pop_move]
  apply hK; clear hK K
  refine awp_joinT [0, 6, 7] (fun z : Unit => [(0, .str s), (6, .int .i64 ((i + sg.toNat : Nat) : Int)), (7, .bool sg)]) (fun z : Unit => h) (fun z : Unit => True) ?_ ?_
  · refine awp_cond (b := _) rfl (fun hb1 => ?_) (fun hb1 => ?_)
    · skip
      refine awp_r [0, 6, 7] (by rfl) ?_
      simp +decide only [aOps_nil, ev, absV, absS, putD, Slots.put, Slots.get, Slots.keep, if_true, if_false, true_and, and_true, ↓ap_move, pop_move, ↓ap_binOp, pop_binOp, isNilC_int, cond_false, pBinX_int, pI_add, ↓ap_assign, pop_assign]
      try simp (disch := omega) only [wrap_i64]
      try simp only [thenA_normal]
      first
      | exact ⟨(), by rw [hb1]; rfl, Sub.refl _, trivial⟩
      | exact ⟨(), by rw [hb1]; rfl, Sub.refl _⟩
    · skip
      refine awp_skip ?_
      try simp only [thenA_normal]
      first
      | exact ⟨(), by rw [hb1]; rfl, Sub.refl _, trivial⟩
      | exact ⟨(), by rw [hb1]; rfl, Sub.refl _⟩
  · intro _ _
    obtain ⟨kk, hkk⟩ : ∃ kk, kk = i + sg.toNat := ⟨_, rfl⟩
    have hd0 : d0E s i = runE s kk digitB := by unfold d0E; rw [hkk, hsg]
    have hn1e : i + n1E s i = kk + d0E s i := by unfold n1E; rw [hkk, ← hsg]; omega
    have hdt : dotE s i = (decide (peekE s ((kk + d0E s i : Nat) : Int) = 46) && digitB (peekE s ((kk + d0E s i + 1 : Nat) : Int))) := by
      unfold dotE
      rw [show (i : Int) + (n1E s i : Nat) = ((kk + d0E s i : Nat) : Int) by omega]
      rfl
    have hmo : moreE s i = runE s (kk + d0E s i + 1) digitB := by unfold moreE; rw [show i + n1E s i + 1 = kk + d0E s i + 1 by omega]
    have hdk : d0E s i = 0 → digitB (peekE s kk) = false ∨ s.length ≤ kk := by
      intro e
      by_cases q : kk < s.length
      · left
        rw [peekE_lt q]
        cases hq : digitB (s.getD kk 0) with
        | false => rfl
        | true => have := runE_pos q hq; omega
      · exact .inr (by omega)
    have hkl : kk ≤ s.length := by omega
    have hdl := runE_le s kk digitB hkl
    have hdl' := runE_len s (kk + d0E s i + 1) digitB
    rw [← hkk]
    rw [← hd0] at hdl
    rw [← hmo] at hdl'
    clear hsv
    refine awp_seq ?_
    refine awp_rseq [0, 6, 7, 50] (by rfl) fun K hK => ?_
    simp +decide only [ev, putD, Slots.put, Slots.get, if_true, if_false, true_and, ↓ap_move, pop_move]
    refine aOps_callV (V := .bool (digitB (peekE s kk))) (by rfl) (by rfl) (c_rdigit w₀ _ s kk (by omega) (by omega)) ?_
    simp +decide only [ev, absV, absS, putD, Slots.put, Slots.get, if_true, if_false, true_and, ↓ap_unOp, pop_unOp, pU_not, ↓ap_move, pop_move, ↓ag_move, agP, agQ_some, nthDst, gKnown_bool, gKnown_cond, guardB_cond, guardB_bool_true, cv_cv, implies_true, ↓ag_len, pop_len, pLen_str Tryz.underlying9, cv_len, cp_len, ↓ag_binOp, pop_binOp, isNilC_tmp, cond_false, cv_binl, cv_binr, cp_binl, cp_binr, pBinX_int, pI_lss, ↓ag_index, pop_index, pIndex_str Tryz.underlying9, cv_indexl, cv_indexr, cp_indexl, cp_indexr, isNilC_int, pI_eql, ↓ag_pick, pop_pick, pPick_bool, cp_nest1, pickV_and, cv_pick, cp_pick, pI_add, Int.toNat_natCast]
    try simp (disch := omega) only [wrap_i64]
    repeat (with_reducible refine And.intro ?_ ?_; · first | trivial | omega | (intro hg; simp only [Bool.and_eq_true, Bool.not_eq_true', decide_eq_true_eq] at hg; omega) )
    rw [show (kk : Int) + 1 = ((kk + 1 : Nat) : Int) from rfl]
    (refine aOps_gcall (V := .bool (digitB (peekE s ((kk + 1 : Nat) : Int)))) (f := _) (cap := _) (xs := _) (by first | rfl | (simp +decide only [gv, nthDst, Slots.get, if_true, if_false, gKnown_cond])) (fun hg => ⟨rfl, ?_⟩) (fun hg => c_rdigit w₀ _ s (kk + 1) (by omega) (by omega)) ?_; · (simp +decide only [gv, nthDst, Slots.get, if_true, if_false, guardB_bool_true, guardB_cond] at hg; simp +decide only [evs, ev, Slots.get, if_true, if_false, hg, condV_true, List.append_nil, List.map_cons, List.map_nil] <;> try rfl))
    simp +decide only [aOps_nil, ev, absV, absS, putD, Slots.put, Slots.get, Slots.keep, if_true, if_false, true_and, gv, nthDst, guardB_bool_true, guardB_cond, ↓ag_pick, pop_pick, agP, agQ_some, gKnown_bool, implies_true, pPick_bool, pickV_cond_l, cp_nest1, pickV_and, cv_pick, cp_pick, ↓ag_unOp, pop_unOp, pU_not, cv_un, cp_un, ↓ap_pick]
    apply hK; clear hK K
    refine awp_cond (b := _) rfl (fun hb2 => ?_) (fun hb2 => ?_)
    · try simp only [decide_eq_false_iff_not, Bool.not_eq_true', Bool.and_eq_true, Bool.and_eq_false_iff] at hb2
      refine awp_rseq [4, 5] (by rfl) fun K hK => ?_
      simp +decide only [aOps_nil, ev, absV, absS, putD, Slots.put, Slots.keep, if_true, if_false, true_and, ↓ap_assign, pop_assign]
      apply hK; clear hK K
      refine awp_ret ?_
      try simp only [thenA_ret]
      refine retA_ret _ (Sub.refl _) (resPre_tmp (resPre_tmp (resPre_nil))) ?_
      simp +decide only [Slots.get, if_true, if_false, and_true, resOf_two]
      have hz : d0E s i = 0 := by
        rcases Nat.eq_zero_or_pos (d0E s i) with q | q
        · exact q
        · rw [hd0] at q
          have h1 := runE_all (n := 1) q 0 (by omega)
          rw [Nat.add_zero] at h1
          rw [peekE_lt (by rw [hd0] at hdl; omega), h1] at hb2
          exact absurd hb2.1 (by decide)
      have hdf : dotE s i = false := by
        rw [hdt, hz, Nat.add_zero, Bool.and_eq_false_iff]
        rcases hb2.2 with (q | q) | q
        · left; rw [peekE_ge (.inr (by omega))]; decide
        · left
          by_cases hin : kk < s.length
          · rw [peekE_lt hin, decide_eq_false_iff_not]
            exact fun e => q ((u8_eq _ 46).mpr e)
          · rw [peekE_ge (.inr (by omega))]; decide
        · exact .inr q
      have hnd : numDig s i = 0 := by unfold numDig; rw [hdf, hz]; rfl
      unfold numR
      rw [if_neg (by rw [hz]; omega), if_pos hnd]
    · try simp only [decide_eq_true_eq, Bool.not_eq_false', Bool.and_eq_true, Bool.and_eq_false_iff] at hb2
      have hpos : numDig s i ≠ 0 := by
        unfold numDig
        rcases hb2 with q | q
        · have : 0 < d0E s i := by
            rcases Nat.eq_zero_or_pos (d0E s i) with z | z
            · rcases hdk z with y | y
              · rw [y] at q; cases q
              · rw [peekE_ge (.inr (by omega))] at q; exact absurd q (by decide)
            · exact z
          split <;> omega
        · by_cases z : d0E s i = 0
          · have hin : kk < s.length := by omega
            have hdtr : dotE s i = true := by
              rw [hdt, z, Nat.add_zero, Bool.and_eq_true, decide_eq_true_eq, peekE_lt hin]
              exact ⟨(u8_eq _ 46).mp q.1.2, q.2⟩
            rw [if_pos hdtr]
            have hin1 : kk + 1 < s.length := peekE_in (i := kk + 1) (fun e => by have := q.2; rw [e] at this; exact absurd this (by decide))
            have : 0 < moreE s i := by
              rw [hmo, z, Nat.add_zero]
              refine runE_pos hin1 ?_
              rw [← peekE_lt hin1]
              exact q.2
            omega
          · split <;> omega
      have hdot0 : d0E s i = 0 → peekE s kk = 46 := by
        intro z
        have hd : dotE s i = true := by
          cases hq : dotE s i with
          | true => rfl
          | false => unfold numDig at hpos; rw [hq, z] at hpos; exact absurd rfl hpos
        rw [hdt, z, Nat.add_zero, Bool.and_eq_true, decide_eq_true_eq] at hd
        exact hd.1
      clear hb2 hdk
      refine awp_skip ?_
      change Awp _ _ _ _ _ _ _
      refine awp_rseq [0, 6, 7, 8] (by rfl) fun K hK => ?_
      simp +decide only [aOps_nil, ev, absV, absS, putD, Slots.put, Slots.keep, if_true, if_false, true_and, ↓ap_assign, pop_assign]
      apply hK; clear hK K
      refine awp_seq ?_
      refine awp_block ?_
      refine awp_loopG [0, 6, 7, 8] (fun n : Nat => [(0, .str s), (6, .int .i64 ((kk + n : Nat) : Int)), (7, .bool sg), (8, .int .i64 n)]) (fun n : Nat => h) (fun n : Nat => n ≤ d0E s i) (fun n : Nat => d0E s i - n) 0 (by rfl) (Sub.refl _) (Nat.zero_le _) ?_
      intro n hn
      rw [hd0] at hn
      have hnx := runE_next hn
      rw [← hd0] at hn hnx
      refine awp_seq ?_
      refine awp_rseq [0, 6, 7, 8, 53] (by rfl) fun K hK => ?_
      simp +decide only [ev, putD, Slots.put, Slots.get, if_true, if_false, true_and, ↓ap_move, pop_move]
      refine aOps_callV (V := .bool (digitB (peekE s ((kk + n : Nat) : Int)))) (by rfl) (by rfl) (c_rdigit w₀ _ s (kk + n) (by omega) (by omega)) ?_
      simp +decide only [aOps_nil, putD, Slots.put, Slots.keep, if_true, if_false]
      apply hK; clear hK K
      refine awp_cond (b := _) rfl (fun hb3 => ?_) (fun hb3 => ?_)
      · skip
        have hin : kk + n < s.length := peekE_in (i := kk + n) (fun e => by rw [e] at hb3; exact absurd hb3 (by decide))
        rw [peekE_lt hin] at hb3
        refine awp_skip ?_
        change Awp _ _ _ _ _ _ _
        refine awp_block ?_
        refine awp_rseq [0, 6, 7, 8] (by rfl) fun K hK => ?_
        simp +decide only [aOps_nil, ev, absV, absS, putD, Slots.put, Slots.get, Slots.keep, if_true, if_false, true_and, ↓ap_move, pop_move, ↓ap_binOp, pop_binOp, isNilC_int, cond_false, pBinX_int, pI_add, ↓ap_assign, pop_assign]
        try simp (disch := omega) only [wrap_i64]
        apply hK; clear hK K
        refine awp_r [0, 6, 7, 8] (by rfl) ?_
        simp +decide only [aOps_nil, ev, absV, absS, putD, Slots.put, Slots.get, Slots.keep, if_true, if_false, true_and, ↓ap_move, pop_move, ↓ap_binOp, pop_binOp, isNilC_int, cond_false, pBinX_int, pI_add, ↓ap_assign, pop_assign]
        try simp (disch := omega) only [wrap_i64]
        try simp only [thenA_normal, inBlockA_normal]
        exact ⟨n + 1, rfl, Sub.refl _, hnx.2 ⟨hin, hb3⟩, by have := hnx.2 ⟨hin, hb3⟩; omega⟩
      · skip
        have hnd : n = d0E s i := by
          rcases Nat.lt_or_ge n (d0E s i) with q | q
          · have := hnx.1 q
            rw [peekE_lt this.1, this.2] at hb3
            cases hb3
          · omega
        subst hnd
        have hpk : peekE s ((i : Int) + (n1E s i : Nat)) = peekE s ((kk + d0E s i : Nat) : Int) := by rw [show (i : Int) + (n1E s i : Nat) = ((kk + d0E s i : Nat) : Int) by omega]
        refine awp_exit ?_
        change Awp _ _ _ _ _ _ _
        refine awp_seq ?_
        refine awp_rseq [0, 6, 8, 64] (by rfl) fun K hK => ?_
        simp +decide only [ev, putD, Slots.put, Slots.get, if_true, if_false, true_and, ↓ap_move, pop_move]
        refine aOps_callV (V := .bool (wordyB (peekE s ((kk + d0E s i : Nat) : Int)))) (by rfl) (by rfl) (c_rwordy w₀ _ s (kk + d0E s i) (by omega) (by omega)) ?_
        simp +decide only [aOps_nil, ev, absV, absS, putD, Slots.put, Slots.get, Slots.keep, if_true, if_false, true_and, ↓ap_move, pop_move, ↓ag_move, agP, agQ_some, nthDst, gKnown_bool, guardB_bool_true, implies_true, ↓ag_unOp, pop_unOp, pU_not, cv_un, cp_un, ↓ap_pick, pop_pick, pPick_bool, pickV_cond_l, pickV_and]
        apply hK; clear hK K
        refine awp_cond (b := _) rfl (fun hb4 => ?_) (fun hb4 => ?_)
        · try simp only [Bool.not_eq_true', Bool.and_eq_true] at hb4
          have hdp : 0 < d0E s i := by
            rcases Nat.eq_zero_or_pos (d0E s i) with z | z
            · have := hb4.1
              rw [z, Nat.add_zero, hdot0 z] at this
              exact absurd this (by decide)
            · exact z
          refine awp_rseq [4, 5] (by rfl) fun K hK => ?_
          simp +decide only [aOps_nil, ev, absV, absS, putD, Slots.put, Slots.keep, if_true, if_false, true_and, ↓ap_assign, pop_assign]
          apply hK; clear hK K
          refine awp_ret ?_
          try simp only [thenA_ret]
          refine retA_ret _ (Sub.refl _) (resPre_tmp (resPre_tmp (resPre_nil))) ?_
          simp +decide only [Slots.get, if_true, if_false, and_true, resOf_two]
          unfold numR
          rw [if_pos ⟨hdp, by rw [hpk]; exact hb4.1⟩, ← hsg, if_neg (by rw [hb4.2]; decide)]
        · try simp only [Bool.not_eq_false', Bool.and_eq_false_iff] at hb4
          refine awp_skip ?_
          change Awp _ _ _ _ _ _ _
          refine awp_seq ?_
          refine awp_rseq [0, 6, 8, 67] (by rfl) fun K hK => ?_
          simp +decide only [ev, putD, Slots.put, Slots.get, if_true, if_false, true_and, ↓ap_move, pop_move]
          refine aOps_callV (V := .bool (wordyB (peekE s ((kk + d0E s i : Nat) : Int)))) (by rfl) (by rfl) (c_rwordy w₀ _ s (kk + d0E s i) (by omega) (by omega)) ?_
          simp +decide only [aOps_nil, putD, Slots.put, Slots.keep, if_true, if_false]
          apply hK; clear hK K
          refine awp_cond (b := _) rfl (fun hb5 => ?_) (fun hb5 => ?_)
          · skip
            have hdp : 0 < d0E s i := by
              rcases Nat.eq_zero_or_pos (d0E s i) with z | z
              · rw [z, Nat.add_zero, hdot0 z] at hb5
                exact absurd hb5 (by decide)
              · exact z
            have hsgt : sg = true := by
              rcases hb4 with q | q
              · rw [hb5] at q; cases q
              · exact q
            refine awp_rseq [4, 5] (by rfl) fun K hK => ?_
            simp +decide only [aOps_nil, ev, absV, absS, putD, Slots.put, Slots.keep, if_true, if_false, true_and, ↓ap_assign, pop_assign]
            apply hK; clear hK K
            refine awp_ret ?_
            try simp only [thenA_ret]
            refine retA_ret _ (Sub.refl _) (resPre_tmp (resPre_tmp (resPre_nil))) ?_
            simp +decide only [Slots.get, if_true, if_false, and_true, resOf_two]
            unfold numR
            rw [if_pos ⟨hdp, by rw [hpk]; exact hb5⟩, ← hsg, if_pos hsgt]
          · skip
            have hnw : ¬ (0 < d0E s i ∧ wordyB (peekE s ((i : Int) + (n1E s i : Nat))) = true) := fun q => by rw [hpk, hb5] at q; exact absurd q.2 (by decide)
            refine awp_skip ?_
            change Awp _ _ _ _ _ _ _
            refine awp_seq ?_
            refine awp_rseq [0, 6, 8, 83] (by rfl) fun K hK => ?_
            simp +decide only [ev, absV, absS, putD, Slots.put, Slots.get, if_true, if_false, true_and, ↓ap_move, pop_move, ↓ap_len, pop_len, pLen_str Tryz.underlying9, ↓ap_binOp, pop_binOp, isNilC_tmp, cond_false, pBinX_int, pI_lss, ↓ag_move, agP, agQ_some, nthDst, gKnown_bool, guardB_bool_true, implies_true, ↓ag_index, pop_index, pIndex_str Tryz.underlying9, cv_indexl, cv_indexr, cp_indexl, cp_indexr, ↓ag_binOp, isNilC_int, cv_binl, cp_binl, pI_eql, ↓ap_pick, pop_pick, pPick_bool, pickV_cond_l, pickV_and, pI_add, Int.toNat_natCast]
            try simp (disch := omega) only [wrap_i64]
            repeat (with_reducible refine And.intro ?_ ?_; · first | trivial | omega | (intro hg; simp only [decide_eq_true_eq] at hg; omega) )
            rw [show ((kk + d0E s i : Nat) : Int) + 1 = ((kk + d0E s i + 1 : Nat) : Int) from rfl]
            (refine aOps_gcall (V := .bool (digitB (peekE s ((kk + d0E s i + 1 : Nat) : Int)))) (f := _) (cap := _) (xs := _) (by first | rfl | (simp +decide only [gv, nthDst, Slots.get, if_true, if_false, gKnown_cond, gKnown_bool])) (fun hg => ⟨rfl, ?_⟩) (fun hg => c_rdigit w₀ _ s (kk + d0E s i + 1) (by omega) (by omega)) ?_; · (simp +decide only [gv, nthDst, Slots.get, if_true, if_false, guardB_bool_true] at hg; simp +decide only [evs, ev, Slots.get, if_true, if_false, hg, condV_true, List.append_nil, List.map_cons, List.map_nil] <;> try rfl))
            simp +decide only [aOps_nil, ev, absV, absS, putD, Slots.put, Slots.get, Slots.keep, if_true, if_false, true_and, gv, nthDst, guardB_bool_true, ↓ap_pick, pop_pick, pPick_bool, pickV_cond_l, pickV_and]
            apply hK; clear hK K
            refine awp_joinT [0, 6, 8] (fun z : Unit => [(0, .str s), (6, .int .i64 ((i + numLen s i : Nat) : Int)), (8, .int .i64 (numDig s i))]) (fun z : Unit => h) (fun z : Unit => True) ?_ ?_
            · refine awp_cond (b := _) rfl (fun hb6 => ?_) (fun hb6 => ?_)
              · try simp only [decide_eq_true_eq, Bool.and_eq_true] at hb6
                have hdtr : dotE s i = true := by
                  rw [hdt, Bool.and_eq_true, decide_eq_true_eq, peekE_lt (by omega)]
                  exact ⟨(u8_eq _ 46).mp hb6.1.2, hb6.2⟩
                have hlen2 : i + numLen s i = kk + d0E s i + 1 + moreE s i := by unfold numLen; rw [if_pos hdtr]; omega
                have hdig2 : numDig s i = d0E s i + moreE s i := by unfold numDig; rw [if_pos hdtr]
                refine awp_rseq [0, 6, 8] (by rfl) fun K hK => ?_
                simp +decide only [aOps_nil, ev, absV, absS, putD, Slots.put, Slots.get, Slots.keep, if_true, if_false, true_and, ↓ap_move, pop_move, ↓ap_binOp, pop_binOp, isNilC_int, cond_false, pBinX_int, pI_add, ↓ap_assign, pop_assign]
                try simp (disch := omega) only [wrap_i64]
                apply hK; clear hK K
                refine awp_block ?_
                refine awp_loopG [0, 6, 8] (fun m : Nat => [(0, .str s), (6, .int .i64 ((kk + d0E s i + 1 + m : Nat) : Int)), (8, .int .i64 ((d0E s i + m : Nat) : Int))]) (fun m : Nat => h) (fun m : Nat => m ≤ moreE s i) (fun m : Nat => moreE s i - m) 0 (by rfl) (Sub.refl _) (Nat.zero_le _) ?_
                intro m hm
                rw [hmo] at hm
                have hmx := runE_next hm
                rw [← hmo] at hm hmx
                refine awp_seq ?_
                refine awp_rseq [0, 6, 8, 88] (by rfl) fun K hK => ?_
                simp +decide only [ev, putD, Slots.put, Slots.get, if_true, if_false, true_and, ↓ap_move, pop_move]
                refine aOps_callV (V := .bool (digitB (peekE s ((kk + d0E s i + 1 + m : Nat) : Int)))) (by rfl) (by rfl) (c_rdigit w₀ _ s (kk + d0E s i + 1 + m) (by omega) (by omega)) ?_
                simp +decide only [aOps_nil, putD, Slots.put, Slots.keep, if_true, if_false]
                apply hK; clear hK K
                refine awp_cond (b := _) rfl (fun hb7 => ?_) (fun hb7 => ?_)
                · skip
                  have hin : kk + d0E s i + 1 + m < s.length := peekE_in (i := kk + d0E s i + 1 + m) (fun e => by rw [e] at hb7; exact absurd hb7 (by decide))
                  rw [peekE_lt hin] at hb7
                  refine awp_skip ?_
                  change Awp _ _ _ _ _ _ _
                  refine awp_block ?_
                  refine awp_rseq [0, 6, 8] (by rfl) fun K hK => ?_
                  simp +decide only [aOps_nil, ev, absV, absS, putD, Slots.put, Slots.get, Slots.keep, if_true, if_false, true_and, ↓ap_move, pop_move, ↓ap_binOp, pop_binOp, isNilC_int, cond_false, pBinX_int, pI_add, ↓ap_assign, pop_assign]
                  try simp (disch := omega) only [wrap_i64]
                  apply hK; clear hK K
                  refine awp_r [0, 6, 8] (by rfl) ?_
                  simp +decide only [aOps_nil, ev, absV, absS, putD, Slots.put, Slots.get, Slots.keep, if_true, if_false, true_and, and_true, ↓ap_move, pop_move, ↓ap_binOp, pop_binOp, isNilC_int, cond_false, pBinX_int, pI_add, ↓ap_assign, pop_assign]
                  try simp (disch := omega) only [wrap_i64]
                  try simp only [thenA_normal, inBlockA_normal]
                  exact ⟨m + 1, rfl, Sub.refl _, hmx.2 ⟨hin, hb7⟩, by have := hmx.2 ⟨hin, hb7⟩; omega⟩
                · skip
                  have hme : m = moreE s i := by
                    rcases Nat.lt_or_ge m (moreE s i) with q | q
                    · have := hmx.1 q
                      rw [peekE_lt this.1, this.2] at hb7
                      cases hb7
                    · omega
                  subst hme
                  refine awp_exit ?_
                  first
                  | exact ⟨(), by rw [hlen2, hdig2]; rfl, Sub.refl _, trivial⟩
                  | exact ⟨(), by rw [hlen2, hdig2]; rfl, Sub.refl _⟩
              · try simp only [decide_eq_false_iff_not, Bool.and_eq_false_iff] at hb6
                have hdf : dotE s i = false := by
                  rw [hdt, Bool.and_eq_false_iff]
                  rcases hb6 with (q | q) | q
                  · left; rw [peekE_ge (.inr (by omega))]; decide
                  · left
                    by_cases hin : kk + d0E s i < s.length
                    · rw [peekE_lt hin, decide_eq_false_iff_not]
                      exact fun e => q ((u8_eq _ 46).mpr e)
                    · rw [peekE_ge (.inr (by omega))]; decide
                  · exact .inr q
                have hlen2 : i + numLen s i = kk + d0E s i := by unfold numLen; rw [hdf]; exact hn1e
                have hdig2 : numDig s i = d0E s i := by unfold numDig; rw [hdf]; rfl
                refine awp_skip ?_
                try simp only [thenA_normal]
                first
                | exact ⟨(), by rw [hlen2, hdig2]; rfl, Sub.refl _, trivial⟩
                | exact ⟨(), by rw [hlen2, hdig2]; rfl, Sub.refl _⟩
            · intro _ _
              refine awp_seq ?_
              refine awp_rseq [6, 8, 95] (by rfl) fun K hK => ?_
              simp +decide only [ev, putD, Slots.put, Slots.get, if_true, if_false, true_and, ↓ap_move, pop_move]
              refine aOps_callV (V := .bool (wordyB (peekE s ((i + numLen s i : Nat) : Int)))) (by rfl) (by rfl) (c_rwordy w₀ _ s (i + numLen s i) (by omega) (by omega)) ?_
              simp +decide only [aOps_nil, putD, Slots.put, Slots.keep, if_true, if_false]
              apply hK; clear hK K
              refine awp_cond (b := _) rfl (fun hb8 => ?_) (fun hb8 => ?_)
              · skip
                refine awp_rseq [4, 5] (by rfl) fun K hK => ?_
                simp +decide only [aOps_nil, ev, absV, absS, putD, Slots.put, Slots.keep, if_true, if_false, true_and, ↓ap_assign, pop_assign]
                apply hK; clear hK K
                refine awp_ret ?_
                try simp only [thenA_ret]
                refine retA_ret _ (Sub.refl _) (resPre_tmp (resPre_tmp (resPre_nil))) ?_
                simp +decide only [Slots.get, if_true, if_false, and_true, resOf_two]
                unfold numR
                rw [if_neg hnw, if_neg hpos, if_pos (show wordyB (peekE s ((i : Int) + (numLen s i : Nat))) = true from hb8)]
              · skip
                refine awp_skip ?_
                change Awp _ _ _ _ _ _ _
                refine awp_rseq [4, 5] (by rfl) fun K hK => ?_
                simp +decide only [aOps_nil, ev, putD, Slots.put, Slots.get, Slots.keep, if_true, if_false, true_and, ↓ap_move, pop_move, ↓ap_assign, pop_assign]
                apply hK; clear hK K
                refine awp_ret ?_
                refine retA_ret _ (Sub.refl _) (resPre_tmp (resPre_tmp (resPre_nil))) ?_
                simp +decide only [Slots.get, if_true, if_false, and_true, resOf_two]
                unfold numR
                rw [if_neg hnw, if_neg hpos, if_neg (by rw [show wordyB (peekE s ((i : Int) + (numLen s i : Nat))) = false from hb8]; decide)]
end Go.Proofs.YtmadddihphkmoaaGreatDoor

/-
  Contracts: token of the reference.
  Conditions: none.
-/
namespace Go.Proofs.YtmadddihphkmoaaGreatDoor
open Go.AM
open Go.Proofs
open Go.Col
open Go.Tok
open Go.RowKit (Below)
set_option maxRecDepth 100000

theorem two_pre {g s : Str} {i : Nat} (h : i + g.length ≤ s.length) : g.isPrefixOf (s.drop i) = decide ((s.drop i).take g.length = g) := by
  rw [Bool.eq_iff_iff, List.isPrefixOf_iff_prefix, decide_eq_true_eq]
  constructor
  · rintro ⟨r, hr⟩
    rw [← hr, List.take_left]
  · intro e
    exact ⟨(s.drop i).drop g.length, by have := List.take_append_drop g.length (s.drop i); rw [e] at this; exact this⟩
theorem pre_short {g s : Str} {i : Nat} (h : s.length < i + g.length) (hi : i ≤ s.length) : g.isPrefixOf (s.drop i) = false := by
  cases hq : g.isPrefixOf (s.drop i) with
  | false => rfl
  | true =>
    have := (List.isPrefixOf_iff_prefix.1 hq).length_le
    rw [List.length_drop] at this
    omega
def twos : List Str := [[42, 42], [60, 61], [62, 61], [60, 62]]
def ones : Str := [40, 41, 58, 43, 45, 42, 47, 61, 60, 62]
theorem sign_two {s : Str} {i : Nat} (h : i + 2 ≤ s.length) (ht : (s.drop i).take 2 ∈ twos) : signE s i = Tok.takeE s i 5 2 := by
  have key : ∀ g ∈ twos, signs.find? (fun x => x.isPrefixOf g) = some g := by decide
  unfold signE
  obtain ⟨g, hg⟩ : ∃ g, g = (s.drop i).take 2 := ⟨_, rfl⟩
  have hgl : g.length = 2 := by rw [hg, List.length_take, List.length_drop]; omega
  rw [← hg] at ht
  have hf : ∀ L : List Str, (∀ x ∈ L, x.length ≤ 2) → L.find? (fun x => x.isPrefixOf (s.drop i)) = L.find? (fun x => x.isPrefixOf g) := by
    intro L hL
    induction L with
    | nil => rfl
    | cons x L ih =>
      have e : x.isPrefixOf (s.drop i) = x.isPrefixOf g := by
        rw [two_pre (by have := hL x (by simp); omega), hg]
        rw [Bool.eq_iff_iff, List.isPrefixOf_iff_prefix, decide_eq_true_eq]
        have hx := hL x (by simp)
        constructor
        · intro q
          refine ⟨(((s.drop i).take 2).drop x.length), ?_⟩
          conv => lhs; lhs; rw [← q]
          rw [show (s.drop i).take x.length = ((s.drop i).take 2).take x.length by rw [List.take_take]; congr 1; omega, List.take_append_drop]
        · rintro ⟨r, hr⟩
          have := congrArg (fun z => z.take x.length) hr
          simp only [List.take_left, List.take_take] at this
          rw [Nat.min_eq_left hx] at this; exact this.symm
      rw [List.find?_cons, List.find?_cons, e, ih fun y hy => hL y (by simp [hy])]
  rw [hf signs (by decide), key g ht]
  simp only [hgl]
theorem sign_one {s : Str} {i : Nat} (h : i < s.length) (ht : ¬ (i + 2 ≤ s.length ∧ (s.drop i).take 2 ∈ twos)) (ho : ones.contains (s.getD i 0) = true) : signE s i = Tok.takeE s i 5 1 := by
  have h2 : ∀ g ∈ twos, g.isPrefixOf (s.drop i) = false := by
    intro g hg
    have hgl : g.length = 2 := (show ∀ g ∈ twos, g.length = 2 by decide) g hg
    by_cases hi2 : i + 2 ≤ s.length
    · rw [two_pre (by omega), hgl, decide_eq_false_iff_not]
      exact fun e => ht ⟨hi2, by rw [e]; exact hg⟩
    · exact pre_short (by omega) (by omega)
  have hone : ∀ b : UInt8, List.isPrefixOf [b] (s.drop i) = decide (b = s.getD i 0) := by
    intro b
    rw [drop_eq h, Bool.eq_iff_iff]
    simp [List.isPrefixOf]
  have hsig : signs = twos ++ [[40], [41], [58], [43], [45], [42], [47], [61], [60], [62]] := by decide
  unfold signE
  rw [hsig, List.find?_append, List.find?_eq_none.2 (fun g hg => by rw [h2 g hg]; decide), Option.none_or]
  generalize s.getD i 0 = b at ho hone
  have hb : b = 40 ∨ b = 41 ∨ b = 58 ∨ b = 43 ∨ b = 45 ∨ b = 42 ∨ b = 47 ∨ b = 61 ∨ b = 60 ∨ b = 62 := by
    rw [List.contains_iff_mem] at ho
    simpa [ones] using ho
  have hf : ([[40], [41], [58], [43], [45], [42], [47], [61], [60], [62]] : List Str).find? (fun g => g.isPrefixOf (s.drop i)) = some [b] := by
    simp only [List.find?_cons, hone]
    rcases hb with q | q | q | q | q | q | q | q | q | q <;> subst q <;> rfl
  rw [hf]
  rfl
theorem sign_no {s : Str} {i : Nat} (h : i < s.length) (ht : ¬ (i + 2 ≤ s.length ∧ (s.drop i).take 2 ∈ twos)) (ho : ones.contains (s.getD i 0) = false) : signE s i = .err 4 := by
  have h2 : ∀ g ∈ twos, g.isPrefixOf (s.drop i) = false := by
    intro g hg
    have hgl : g.length = 2 := (show ∀ g ∈ twos, g.length = 2 by decide) g hg
    by_cases hi2 : i + 2 ≤ s.length
    · rw [two_pre (by omega), hgl, decide_eq_false_iff_not]
      exact fun e => ht ⟨hi2, by rw [e]; exact hg⟩
    · exact pre_short (by omega) (by omega)
  have hone : ∀ b : UInt8, List.isPrefixOf [b] (s.drop i) = decide (b = s.getD i 0) := by
    intro b
    rw [drop_eq h, Bool.eq_iff_iff]
    simp [List.isPrefixOf]
  have hsig : signs = twos ++ [[40], [41], [58], [43], [45], [42], [47], [61], [60], [62]] := by decide
  unfold signE
  rw [hsig, List.find?_append, List.find?_eq_none.2 (fun g hg => by rw [h2 g hg]; decide), Option.none_or]
  generalize s.getD i 0 = b at ho hone
  have hf : ([[40], [41], [58], [43], [45], [42], [47], [61], [60], [62]] : List Str).find? (fun g => g.isPrefixOf (s.drop i)) = none := by
    simp only [List.find?_cons, hone]
    rw [← Bool.not_eq_true, List.contains_iff_mem] at ho
    simp only [ones, List.mem_cons, List.not_mem_nil, or_false, not_or] at ho
    obtain ⟨o1, o2, o3, o4, o5, o6, o7, o8, o9, o10⟩ := ho
    simp only [decide_eq_false (Ne.symm o1), decide_eq_false (Ne.symm o2), decide_eq_false (Ne.symm o3), decide_eq_false (Ne.symm o4), decide_eq_false (Ne.symm o5), decide_eq_false (Ne.symm o6), decide_eq_false (Ne.symm o7), decide_eq_false (Ne.symm o8), decide_eq_false (Ne.symm o9), decide_eq_false (Ne.symm o10), List.find?_nil]
  rw [hf]
theorem fold_has34 (t : Str) : (foldE t).contains 34 = t.contains 34 := by
  unfold foldE
  induction t with
  | nil => rfl
  | cons b t ih =>
    rw [List.map_cons, List.contains_cons, List.contains_cons, ih]
    congr 1
    rw [Bool.eq_iff_iff, beq_iff_eq, beq_iff_eq]
    unfold foldB
    split
    · rename_i q
      constructor
      · intro e
        exfalso
        have h1 := congrArg UInt8.toNat e
        rw [UInt8.toNat_sub_of_le _ _ (by rw [UInt8.le_iff_toNat_le]; show 32 ≤ b.toNat; omega)] at h1
        have h2 : (34 : UInt8).toNat = 34 := rfl
        have h3 : (32 : UInt8).toNat = 32 := rfl
        omega
      · intro e
        exfalso
        rw [← e] at q
        exact absurd q (by decide)
    · rfl
theorem ends_in (b : UInt8) : [46, 44, 59].contains b = endsB b := by
  rw [Bool.eq_iff_iff]
  simp [endsB, sepB]
end Go.Proofs.YtmadddihphkmoaaGreatDoor

/-
  Plain lemmas for token of the reference: nextE case by case.
  Conditions: none.
-/
namespace Go.Proofs.YtmadddihphkmoaaGreatDoor
open Go.AM
open Go.Proofs
open Go.Col
open Go.Tok
open Go.RowKit (Below)
set_option maxRecDepth 100000

def tkR (t : Nx) (i : Nat) : AVal := .tuple [nxA t, .int .i64 (if t.e = 0 then ((i + t.n : Nat) : Int) else 0), .int .i64 t.e]
def isAt (s : Str) (i : Nat) (l : List TokC) : Bool := (picE l).2 && (decide ((i : Int) + 2 ≤ s.length) && (decide (foldE ((s.drop i).take 2) = [73, 83]) && !wordyB (peekE s ((i : Int) + 2))))
def eqsB (s : Str) (i : Nat) : Bool := decide ((i : Int) + 1 < s.length) && decide ((s.drop i).take 2 = [61, 61])
theorem eqs_eq {s : Str} {i : Nat} (hi : i ≤ s.length) : List.isPrefixOf [61, 61] (s.drop i) = eqsB s i := by
  unfold eqsB
  by_cases h : i + 2 ≤ s.length
  · rw [two_pre (g := [61, 61]) h, decide_eq_true (show (i : Int) + 1 < s.length by omega), Bool.true_and]
    rfl
  · rw [pre_short (g := [61, 61]) (by show s.length < i + 2; omega) hi, decide_eq_false (show ¬ (i : Int) + 1 < s.length by omega), Bool.false_and]
theorem take_two {s : Str} {i : Nat} (h : i + 2 ≤ s.length) : (s.drop i).take 2 = [peekE s i, peekE s ((i : Int) + 1)] := by
  have e1 : peekE s ((i : Int) + 1) = s.getD (i + 1) 0 := peekE_lt (i := i + 1) (by omega)
  rw [drop_eq (show i < s.length by omega), drop_eq (show i + 1 < s.length by omega), e1, peekE_lt (by omega)]
  rfl
theorem take_one {s : Str} {i : Nat} (h : i < s.length) : (s.drop i).take 1 = [peekE s i] := by
  rw [drop_eq h, peekE_lt h]
  rfl
theorem pic_21 (l : List TokC) (h : (picE l).2 = true) : (picE l).1 = true := by
  unfold picE at h ⊢
  split
  · rfl
  · rename_i q
    rw [if_neg q] at h
    cases h
theorem next_is {s : Str} {i : Nat} {l : List TokC} (h : isAt s i l = true) : nextE s i l = ⟨1, IS, 2, 0⟩ := by
  unfold isAt at h
  simp only [Bool.and_eq_true, decide_eq_true_eq, Bool.not_eq_true'] at h
  obtain ⟨h1, h2, h3, h4⟩ := h
  have h2' : i + 2 ≤ s.length := by omega
  have he : List.isPrefixOf [61, 61] (s.drop i) = false := by
    rw [two_pre (g := [61, 61]) h2', decide_eq_false_iff_not]
    intro e
    rw [show ([61, 61] : Str).length = 2 from rfl] at e
    rw [e] at h3
    exact absurd h3 (by decide)
  unfold nextE
  simp only
  rw [if_pos ⟨pic_21 l h1, he⟩]
  unfold pictureE
  rw [if_pos ⟨h1, by rw [← take_two h2']; exact h3, h4⟩]
theorem next_pic {s : Str} {i : Nat} {l : List TokC} (hi : i < s.length) (hc : isAt s i l = false) (h1 : (picE l).1 = true) (h2 : eqsB s i = false) (n0 : Nat) (hn : n0 = runE s i (fun b => !decide (b = 32))) (m : Nat) (hm : (m : Int) = if endsB (peekE s ((i : Int) + n0 - 1)) = true then (n0 : Int) - 1 else n0) :
    nextE s i l = if m = 0 ∨ endsB (peekE s ((i : Int) + m - 1)) = true then .err 4 else if ((s.drop i).take m).contains 34 = true then .err 4 else ⟨4, foldE ((s.drop i).take m), m, 0⟩ := by
  have hcc : ¬ ((picE l).2 = true ∧ foldE [peekE s i, peekE s (i + 1)] = IS ∧ wordyB (peekE s (i + 2)) = false) := by
    rintro ⟨q1, q2, q3⟩
    by_cases h : i + 2 ≤ s.length
    · have : isAt s i l = true := by
        unfold isAt
        rw [q1, decide_eq_true (show (i : Int) + 2 ≤ s.length by omega), take_two h, q2, q3]
        rfl
      rw [hc] at this
      cases this
    · rw [peekE_ge (i := (i : Int) + 1) (.inr (by omega))] at q2
      have := congrArg (fun z => z.getD 1 0) q2
      exact absurd this (show ¬ foldB 32 = 83 by decide)
  unfold nextE
  simp only
  rw [if_pos ⟨h1, by rw [eqs_eq (by omega)]; exact h2⟩, pictureE_no hcc n0 hn m hm, fold_has34]
theorem next_no {s : Str} {i : Nat} {l : List TokC} (hi : i < s.length) (h : ((picE l).1 && !eqsB s i) = false) :
    nextE s i l = if peekE s i = 34 then quoteE s i
      else if peekE s i = 46 ∧ peekE s ((i : Int) + 1) = 32 then Tok.takeE s i 6 1
      else if eqsB s i = true then Tok.takeE s i 7 2
      else if 0 < (numberE s i).n ∨ (numberE s i).e ≠ 0 then numberE s i
      else if wordyB (peekE s i) = true ∧ peekE s i ≠ 45 then nameE s i
      else signE s i := by
  unfold nextE
  simp only
  rw [if_neg (by
    rintro ⟨q1, q2⟩
    rw [eqs_eq (by omega)] at q2
    rw [q1, q2] at h
    cases h), eqs_eq (by omega)]
theorem quoteGo_shape (s acc : Str) (n : Nat) : quoteGo s acc n = .err 4 ∨ ∃ a m, quoteGo s acc n = ⟨3, a, m + 1, 0⟩ := by
  fun_induction quoteGo s acc n with
  | case1 => exact .inl rfl
  | case2 acc n r ih => exact ih
  | case3 => exact .inl rfl
  | case4 s acc n h1 h2 => exact .inr ⟨_, _, rfl⟩
  | case5 b s acc n h ih => exact ih
theorem num_shape {s : Str} {i : Nat} : numberE s i = if (numR s i).1 < 0 then .err 4 else if 0 < (numR s i).1 then (if 18 < (numR s i).2 then .err 5 else Tok.takeE s i 2 (numLen s i)) else .err 0 := by
  unfold numberE numF numR
  by_cases h1 : 0 < d0E s i ∧ wordyB (peekE s ((i : Int) + (n1E s i : Nat))) = true
  · rw [if_pos h1, if_pos h1]
    by_cases h2 : signedE s i = true
    · rw [if_pos h2, if_pos h2]; rfl
    · rw [if_neg h2, if_neg h2]; rfl
  · rw [if_neg h1, if_neg h1]
    by_cases h2 : numDig s i = 0
    · rw [if_pos h2, if_pos h2]; rfl
    · rw [if_neg h2, if_neg h2]
      by_cases h3 : wordyB (peekE s ((i : Int) + (numLen s i : Nat))) = true
      · rw [if_pos h3, if_pos h3]; rfl
      · have := numLen_pos h2
        rw [if_neg h3, if_neg h3]
        simp only
        rw [if_neg (show ¬ ((i + numLen s i : Nat) : Int) < 0 by omega), if_pos (show (0 : Int) < ((i + numLen s i : Nat) : Int) by omega)]
        by_cases h4 : 18 < numDig s i
        · rw [if_pos h4, if_pos (by omega)]
        · rw [if_neg h4, if_neg (by omega)]
theorem num_pos {s : Str} {i : Nat} (h : 0 < (numR s i).1) : (numR s i).1 = ((i + numLen s i : Nat) : Int) ∧ 0 < numLen s i := by
  unfold numR at h ⊢
  split
  · rename_i q
    rw [if_pos q] at h
    split at h <;> exact absurd h (by decide)
  · rename_i q
    rw [if_neg q] at h
    split
    · rename_i q2
      rw [if_pos q2] at h
      exact absurd h (by decide)
    · rename_i q2
      rw [if_neg q2] at h
      split
      · rename_i q3
        rw [if_pos q3] at h
        exact absurd h (by decide)
      · exact ⟨rfl, numLen_pos q2⟩
theorem foldB_45 (b : UInt8) : foldB b = 45 ↔ b = 45 := by
  unfold foldB
  split
  · rename_i q
    constructor
    · intro e
      exfalso
      have h1 := congrArg UInt8.toNat e
      rw [UInt8.toNat_sub_of_le _ _ (by rw [UInt8.le_iff_toNat_le]; show 32 ≤ b.toNat; omega)] at h1
      have h2 : (45 : UInt8).toNat = 45 := rfl
      have h3 : (32 : UInt8).toNat = 32 := rfl
      omega
    · intro e
      subst e
      exact absurd q (by decide)
  · exact Iff.rfl
theorem fold_digit {b : UInt8} (h : wordyB b = true) : (digitB (foldB b) || decide (foldB b = 45)) = !letterB b := by
  rw [show decide (foldB b = 45) = decide (b = 45) from decide_eq_decide.2 (foldB_45 b)]
  unfold foldB
  have h2 : (32 : UInt8).toNat = 32 := rfl
  by_cases q : 97 ≤ b.toNat ∧ b.toNat ≤ 122
  · rw [if_pos q]
    have hl : letterB b = true := by unfold letterB; simp only [Bool.or_eq_true, Bool.and_eq_true, decide_eq_true_eq]; exact .inl q
    have hn : b ≠ 45 := fun e => by subst e; exact absurd q (by decide)
    rw [hl, decide_eq_false hn, Bool.or_false]
    unfold digitB
    rw [UInt8.toNat_sub_of_le _ _ (by rw [UInt8.le_iff_toNat_le]; show 32 ≤ b.toNat; omega)]
    rw [decide_eq_false (show ¬ b.toNat - (32 : UInt8).toNat ≤ 57 by omega), Bool.and_false]
    rfl
  · rw [if_neg q]
    unfold wordyB at h
    cases hl : letterB b with
    | true =>
      have hn : b ≠ 45 := fun e => by subst e; exact absurd hl (by decide)
      rw [decide_eq_false hn, Bool.or_false]
      unfold letterB at hl
      unfold digitB
      simp only [Bool.or_eq_true, Bool.and_eq_true, decide_eq_true_eq] at hl
      rw [decide_eq_false (show ¬ b.toNat ≤ 57 by omega), Bool.and_false]
      rfl
    | false =>
      rw [hl, Bool.or_false] at h
      rw [h]
      rfl
theorem name_shape {s : Str} {i : Nat} (hi : i < s.length) (hw : wordyB (peekE s i) = true) (n : Nat) (hn : n = runE s i wordyB) :
    nameE s i = if nameOk ((s.drop i).take n) = false then .err 4 else if 30 < n then .err 5 else ⟨1, foldE ((s.drop i).take n), n, 0⟩ := by
  have hp := runE_pos hi (p := wordyB) (by rw [← peekE_lt hi]; exact hw)
  have hr := runE_le s i wordyB (by omega)
  have hall := fun j hj => runE_all (s := s) (i := i) (p := wordyB) (n := n) (by omega) j hj
  unfold nameE
  simp only
  rw [← hn] at hp hr ⊢
  obtain ⟨w, hwd⟩ : ∃ w, w = (s.drop i).take n := ⟨_, rfl⟩
  have hwl : w.length = n := by rw [hwd, List.length_take, List.length_drop]; omega
  have hww : ∀ b ∈ w, wordyB b = true := by
    intro b hb
    obtain ⟨j, hj, rfl⟩ := List.mem_iff_getElem.1 hb
    have := hall j (by omega)
    rw [← this]
    congr 1
    subst hwd
    rw [List.getElem_take, List.getElem_drop, List.getD, List.getElem?_eq_getElem (by omega)]
    rfl
  rw [← hwd]
  have h1 : ((foldE w).all fun b => digitB b || decide (b = 45)) = !w.any letterB := by
    unfold foldE
    rw [List.all_map, List.not_any_eq_all_not]
    rw [Bool.eq_iff_iff, List.all_eq_true, List.all_eq_true]
    constructor
    · intro q b hb
      rw [← fold_digit (hww b hb)]
      exact q b hb
    · intro q b hb
      show (digitB (foldB b) || decide (foldB b = 45)) = true
      rw [fold_digit (hww b hb)]
      exact q b hb
  have hg : ∀ j, j < n → (((foldE w).getD j 0 = 45) ↔ w.getD j 0 = 45) := by
    intro j hj
    unfold foldE
    rw [List.getD, List.getD, List.getElem?_map, List.getElem?_eq_getElem (by omega)]
    exact foldB_45 _
  have hc : (((foldE w).all fun b => digitB b || decide (b = 45)) = true ∨ (foldE w).getD 0 0 = 45 ∨ (foldE w).getD (n - 1) 0 = 45) ↔ nameOk w = false := by
    rw [h1, hg 0 hp, hg (n - 1) (by omega)]
    unfold nameOk
    rw [hwl]
    cases w.any letterB <;> simp <;> exact Decidable.or_iff_not_imp_left
  by_cases hk : nameOk w = false
  · rw [if_pos (hc.2 hk), if_pos hk]
  · rw [if_neg fun q => hk (hc.1 q), if_neg hk]
theorem word_or (b : UInt8) : (wordyB b = true ∧ b ≠ 45) ↔ (digitB b || letterB b) = true := by
  unfold wordyB
  constructor
  · rintro ⟨h1, h2⟩
    rwa [decide_eq_false h2, Bool.or_false] at h1
  · intro h
    refine ⟨by rw [h]; rfl, fun e => ?_⟩
    subst e
    exact absurd h (by decide)
end Go.Proofs.YtmadddihphkmoaaGreatDoor

/-
  Contracts: token of the reference.
  Conditions: none.
-/
namespace Go.Proofs.YtmadddihphkmoaaGreatDoor
open Go.AM
open Go.Proofs
open Go.Col
open Go.Tok
open Go.RowKit (Below)
set_option maxRecDepth 100000

theorem isAt_false {s : Str} {i : Nat} {l : List TokC} (h : (((picE l).2 = false ∨ ¬ (i : Int) + 2 ≤ s.length) ∨ ¬ foldE ((s.drop i).take 2) = [73, 83]) ∨ wordyB (peekE s ((i : Int) + 2)) = true) : isAt s i l = false := by
  rw [← Bool.not_eq_true]
  unfold isAt
  intro q
  simp only [Bool.and_eq_true, decide_eq_true_eq, Bool.not_eq_true'] at q
  obtain ⟨q1, q2, q3, q4⟩ := q
  rcases h with ((z | z) | z) | z
  · rw [q1] at z; cases z
  · exact z q2
  · exact z q3
  · rw [q4] at z; cases z
set_option maxHeartbeats 4000000 in
theorem c_token (w₀ : World) (h : AHeap) (s : Str) (i : Nat) (v : AVal) (l : List TokC) (hv : IsL w₀ h 5 v (l.map tokC)) (hl : l.length ≤ 1000000) (h32 : peekE s i ≠ 32) (hs : s.length ≤ 1099511627776) :
    ACall Tryz.prog w₀ 32 [.str s, .int .i64 i, v] h (fun r h' => r = tkR (nextE s i l) i ∧ h' = h) := by
  have hi := peekE_in h32
  have hgi : s.getD i 0 = peekE s i := (peekE_lt hi).symm
  have hp0 := run_pos32 h32
  have hrl := runE_le s i (fun b => !decide (b = 32)) (by omega)
  obtain ⟨n0, hn0⟩ : ∃ n0, n0 = runE s i (fun b => !decide (b = 32)) := ⟨_, rfl⟩
  have z1 : ((i : Int) + 1).toNat - i = 1 := by omega
  have z2 : ((i : Int) + 2).toNat - i = 2 := by omega
  have w1 : IntKind.i64.wrap ((i : Int) + 1) = (i : Int) + 1 := by simp (disch := omega) only [wrap_i64]
  have w2 : IntKind.i64.wrap ((i : Int) + 2) = (i : Int) + 2 := by simp (disch := omega) only [wrap_i64]
  have hbl : ∀ g : AHeap, ACall Tryz.prog w₀ 31 [.str s, .int .i64 ((i : Int) + 1)] g (fun v h' => v = .bool (decide (peekE s ((i : Int) + 1) = 32)) ∧ h' = g) := fun g => c_blank w₀ g s (i + 1) (by omega) (by omega)
  have hwy : ∀ g : AHeap, ACall Tryz.prog w₀ 55 [.str s, .int .i64 ((i : Int) + 2)] g (fun v h' => v = .bool (wordyB (peekE s ((i : Int) + 2))) ∧ h' = g) := fun g => c_rwordy w₀ g s (i + 2) (by omega) (by omega)
  have h34 : ∀ (g : AHeap) (x : Str), x.length ≤ 4611686018427387904 → ACall Tryz.prog w₀ 30 [.int .u8 34, .str x] g (fun v h' => v = .bool (x.contains 34) ∧ h' = g) := fun g x hx => c_in w₀ g 34 x hx
  have hq2 : (quoteE s i).e = 0 → quoteE s i = ⟨3, (quoteE s i).text, (quoteE s i).n, 0⟩ ∧ 0 < (quoteE s i).n := by
    intro e
    rcases quoteGo_shape (s.drop (i + 1)) [] 1 with q | ⟨a, m, q⟩
    · have q' : quoteE s i = .err 4 := q
      rw [q'] at e
      exact absurd e (by decide)
    · have q' : quoteE s i = ⟨3, a, m + 1, 0⟩ := q
      rw [q']
      exact ⟨rfl, Nat.succ_pos m⟩
  have hq4 : (quoteE s i).e ≠ 0 → quoteE s i = .err 4 := by
    intro e
    rcases quoteGo_shape (s.drop (i + 1)) [] 1 with q | ⟨a, m, q⟩
    · exact q
    · have q' : quoteE s i = ⟨3, a, m + 1, 0⟩ := q
      rw [q'] at e
      exact absurd rfl e
  have htw : ∀ n : Nat, ((s.drop i).take n).length ≤ 1099511627776 := fun n => by rw [List.length_take, List.length_drop]; omega
  have heqs : (decide ((i : Int) + 1 < s.length) && decide ((s.drop i).take 2 = [61, 61])) = eqsB s i := rfl
  obtain ⟨two, htwo⟩ : ∃ two, two = (s.drop i).take 2 := ⟨_, rfl⟩
  refine acall_intro (n := 264) (rs := [.cell 6 38, .tmp 7, .tmp 8]) Tryz.func32 rfl rfl rfl rfl (Nat.le_of_ble_eq_true rfl) ?_
  simp only [initSlots]
  refine awp_rseq [0, 1, 2, 6] (by rfl) fun K hK => ?_
  refine aOps_alloc ze38 (cs := [.int .u8 0, .str [], .int .i64 0, .int .i64 0, .bool false]) (by rfl) fun k0q0 hk0q0 => ?_
  try have hf_0q0 : h k0q0 = none := by first | assumption | (simp only [AHeap.set_none] at hk0q0; simp only [hk0q0])
  simp +decide only [aOps_nil, ev, absV, absS, putD, Slots.put, Slots.keep, if_true, if_false, true_and, ↓ap_assign, pop_assign, Nat.zero_add, Nat.reduceAdd]
  apply hK; clear hK K
  refine awp_rseq [0, 1, 6, 9, 10] (by rfl) fun K hK => ?_
  simp +decide only [ev, putD, Slots.put, Slots.get, if_true, if_false, true_and, ↓ap_move, pop_move]
  refine aOps_callV (V := .tuple [.bool (picE l).1, .bool (picE l).2]) (by rfl) (by rfl) (c_rpic w₀ _ v l (hv.mono ((by repeat (first | exact Sub.refl _ | assumption | refine Sub.set_both ?_ _ _ | refine Sub.trans_set ?_ (by repeat (first | assumption | refine (AHeap.set_ne _ _ (by first | assumption | exact Ne.symm (by assumption))).trans ?_)))))) hl) ?_
  simp +decide only [aOps_nil, ev, putD, Slots.put, Slots.get, Slots.keep, if_true, if_false, true_and, ↓ap_move, pop_move, ↓ap_extract, pop_extract, pExt_tuple, List.length_cons, List.length_nil, List.getD_cons_zero, List.getD_cons_succ, ↓ap_assign, pop_assign, List.getD_cons_zero, List.getD_cons_succ, Nat.zero_add, Nat.reduceAdd]
  apply hK; clear hK K
  refine awp_seq ?_
  refine awp_rseq [0, 1, 6, 9, 44] (by rfl) fun K hK => ?_
  simp +decide only [ev, absV, absS, putD, Slots.put, Slots.get, if_true, if_false, true_and, ↓ap_move, pop_move, ↓ag_move, agP, agQ_some, nthDst, gKnown_bool, guardB_bool_true, implies_true, ↓ag_binOp, pop_binOp, isNilC_int, cond_false, cv_binl, cv_binr, cp_binl, cp_binr, pBinX_int, pI_add, ↓ag_len, pop_len, pLen_str Tryz.underlying9, cv_len, cp_len, isNilC_tmp, pI_leq, ↓ap_pick, pop_pick, pPick_bool, pickV_cond_l, pickV_and, ↓ag_slice, pop_slice, evO, pSliceS_ii Tryz.underlying9, pSliceS, bndA_int, cv_slice, cp_slice, cv_slicelo, cp_slicelo, cv_slicehi, cp_slicehi, Int.toNat_natCast, w2, z2]
  repeat (with_reducible refine And.intro ?_ ?_; · first | trivial | omega | (intro hg; simp only [Bool.and_eq_true, decide_eq_true_eq] at hg; omega) )
  (refine aOps_gcall (V := .str (foldE ((s.drop i).take 2))) (f := _) (cap := _) (xs := _) (by first | rfl | (simp +decide only [gv, nthDst, Slots.get, if_true, if_false, gKnown_cond, gKnown_bool])) (fun hg => ⟨rfl, ?_⟩) (fun hg => c_rfold w₀ _ _ (htw 2)) ?_; · (simp +decide only [gv, nthDst, Slots.get, if_true, if_false, guardB_bool_true] at hg; simp +decide only [evs, ev, Slots.get, if_true, if_false, hg, condV_true, List.append_nil, List.map_cons, List.map_nil] <;> try rfl))
  simp +decide only [ev, absV, absS, putD, Slots.put, Slots.get, if_true, if_false, true_and, gv, nthDst, guardB_bool_true, ↓ag_binOp, pop_binOp, agP, agQ_some, gKnown_bool, implies_true, isNilC_str, cond_false, cv_binl, cp_binl, pBinX_str, pS_eql, ↓ap_pick, pop_pick, pPick_bool, pickV_cond_l, pickV_and, ↓ap_move, pop_move, ↓ag_move, isNilC_int, pBinX_int, pI_add, w2]
  (refine aOps_gcall (V := .bool (wordyB (peekE s ((i : Int) + 2)))) (f := _) (cap := _) (xs := _) (by first | rfl | (simp +decide only [gv, nthDst, Slots.get, if_true, if_false, gKnown_cond, gKnown_bool])) (fun hg => ⟨rfl, ?_⟩) (fun hg => hwy _) ?_; · (simp +decide only [gv, nthDst, Slots.get, if_true, if_false, guardB_bool_true] at hg; simp +decide only [evs, ev, Slots.get, if_true, if_false, hg, condV_true, List.append_nil, List.map_cons, List.map_nil] <;> try rfl))
  simp +decide only [aOps_nil, ev, absV, absS, putD, Slots.put, Slots.get, Slots.keep, if_true, if_false, true_and, gv, nthDst, guardB_bool_true, ↓ag_unOp, pop_unOp, agP, agQ_some, gKnown_bool, implies_true, pU_not, cv_un, cp_un, ↓ap_pick, pop_pick, pPick_bool, pickV_cond_l, pickV_and]
  apply hK; clear hK K
  refine awp_cond (b := _) rfl (fun hb1 => ?_) (fun hb1 => ?_)
  · try simp only [decide_eq_true_eq, Bool.not_eq_true', Bool.and_eq_true] at hb1
    refine awp_rseq [6, 7, 8] (by rfl) fun K hK => ?_
    simp +decide only [ev, absV, absS, putD, Slots.put, Slots.get, if_true, if_false, true_and, ↓ap_build, ↓pop_buildL, bld38_0_1, evP, List.map_cons, List.map_nil, ↓ap_move, pop_move, ↓ap_binOp, pop_binOp, isNilC_int, cond_false, pBinX_int, pI_add, w2]
    refine aOps_store (by rfl) (by rfl) (by repeat (first | exact AHeap.set_same _ _ _ | assumption | refine (AHeap.set_ne _ _ (by first | assumption | exact Ne.symm (by assumption))).trans ?_)) sz38 (by rfl) (by rfl) (by first | exact Nat.le_refl _ | decide | (simp; done) | (simp; omega)) (Nat.zero_le _) (by rfl) ?_
    simp only [AHeap.set_set, AVal.cells]
    simp +decide only [aOps_nil, ev, absV, absS, putD, Slots.put, Slots.get, Slots.keep, if_true, if_false, true_and, ↓ap_assign, pop_assign, setAt, List.set_cons_zero, List.set_cons_succ, Nat.zero_add, Nat.reduceAdd]
    apply hK; clear hK K
    refine awp_ret ?_
    try simp only [thenA_ret]
    refine retA_ret h (by repeat (first | exact Sub.refl _ | assumption | refine Sub.trans_set ?_ (by assumption))) (?_) ?_
    · simp +decide only [resPre, resV_tmp, resV_cell, Slots.get, if_true, if_false, and_true, resV_tmp, resV_cell, pLoad_agg ag38 sz38, rd_set, cellsAt, List.getD_cons_zero, List.getD_cons_succ, Nat.zero_add, Nat.reduceAdd, lv_bool, lv_int, lv_str, allLive, Bool.and_true, cellsAt, List.getD_cons_zero, List.getD_cons_succ, Nat.zero_add, Nat.reduceAdd, lv_bool, lv_int, lv_str, allLive, Bool.and_true]
    
    simp +decide only [Slots.get, if_true, if_false, and_true, resOfG_three, resV_tmp, resV_cell, pLoad_agg ag38 sz38, rd_set, cellsAt, List.getD_cons_zero, List.getD_cons_succ, Nat.zero_add, Nat.reduceAdd, lv_bool, lv_int, lv_str, allLive, Bool.and_true, cellsAt, List.getD_cons_zero, List.getD_cons_succ, Nat.zero_add, Nat.reduceAdd, lv_bool, lv_int, lv_str, allLive, Bool.and_true]
    have hat : isAt s i l = true := by
      unfold isAt
      simp only [Bool.and_eq_true, decide_eq_true_eq, Bool.not_eq_true']
      exact ⟨hb1.1.1.1, hb1.1.1.2, hb1.1.2, hb1.2⟩
    rw [next_is hat]
    rfl
  · try simp only [decide_eq_false_iff_not, Bool.not_eq_false', Bool.and_eq_false_iff] at hb1
    have hat := isAt_false hb1
    clear hb1
    refine awp_skip ?_
    change Awp _ _ _ _ _ _ _
    refine awp_seq ?_
    refine awp_rseq [0, 1, 6, 64] (by rfl) fun K hK => ?_
    simp +decide only [aOps_nil, ev, absV, absS, putD, Slots.put, Slots.get, Slots.keep, if_true, if_false, true_and, ↓ap_move, pop_move, ↓ag_move, agP, agQ_some, nthDst, gKnown_bool, gKnown_cond, guardB_cond, guardB_bool_true, cv_cv, implies_true, ↓ag_binOp, pop_binOp, isNilC_int, cond_false, cv_binl, cv_binr, cp_binl, cp_binr, pBinX_int, pI_add, ↓ag_len, pop_len, pLen_str Tryz.underlying9, cv_len, cp_len, isNilC_tmp, pI_lss, ↓ag_slice, pop_slice, evO, pSliceS_ii Tryz.underlying9, pSliceS, bndA_int, cv_slice, cp_slice, cv_slicelo, cp_slicelo, cv_slicehi, cp_slicehi, isNilC_str, pBinX_str, pS_eql, ↓ag_pick, pop_pick, pPick_bool, pickV_cond_l, cp_nest1, pickV_and, cv_pick, cp_pick, ↓ag_unOp, pop_unOp, pU_not, cv_un, cp_un, ↓ap_pick, Int.toNat_natCast, w1, w2, z2, heqs]
    repeat (with_reducible refine And.intro ?_ ?_; · first | trivial | omega | (intro hg; simp only [Bool.and_eq_true, decide_eq_true_eq] at hg; omega) )
    apply hK; clear hK K
    refine awp_cond (b := _) rfl (fun hb2 => ?_) (fun hb2 => ?_)
    · try simp only [Bool.not_eq_true', Bool.and_eq_true] at hb2
      have hpe := next_pic hi hat hb2.1 hb2.2 n0 hn0
      refine awp_rseq [0, 1, 6, 11] (by rfl) fun K hK => ?_
      simp +decide only [aOps_nil, ev, putD, Slots.put, Slots.get, Slots.keep, if_true, if_false, true_and, ↓ap_move, pop_move, ↓ap_assign, pop_assign]
      apply hK; clear hK K
      refine awp_seq ?_
      refine awp_block ?_
      refine awp_loopG [0, 1, 6, 11] (fun n : Nat => [(0, .str s), (1, .int .i64 i), (6, .ptr (.own k0q0) 0), (11, .int .i64 ((i + n : Nat) : Int))]) (fun n : Nat => _) (fun n : Nat => n ≤ n0) (fun n : Nat => n0 - n) 0 (by rfl) (Sub.refl _) (Nat.zero_le _) ?_
      intro n hn
      have hnx := runE_next (by rw [← hn0]; exact hn)
      rw [← hn0] at hnx
      refine awp_seq ?_
      refine awp_rseq [0, 1, 6, 11, 69] (by rfl) fun K hK => ?_
      simp +decide only [ev, putD, Slots.put, Slots.get, if_true, if_false, true_and, ↓ap_move, pop_move]
      refine aOps_callV (V := .bool (decide (peekE s ((i + n : Nat) : Int) = 32))) (by rfl) (by rfl) (c_blank w₀ _ s (i + n) (by omega) (by omega)) ?_
      simp +decide only [aOps_nil, ev, putD, Slots.put, Slots.get, Slots.keep, if_true, if_false, true_and, ↓ap_unOp, pop_unOp, pU_not]
      apply hK; clear hK K
      refine awp_cond (b := _) rfl (fun hb3 => ?_) (fun hb3 => ?_)
      · try simp only [decide_eq_false_iff_not, Bool.not_eq_true'] at hb3
        have hin := peekE_in (i := i + n) (by simpa using hb3)
        have hlt : n < n0 := hnx.2 ⟨hin, by rw [← peekE_lt hin]; simpa using hb3⟩
        refine awp_skip ?_
        change Awp _ _ _ _ _ _ _
        refine awp_block ?_
        refine awp_r [0, 1, 6, 11] (by rfl) ?_
        simp +decide only [aOps_nil, ev, absV, absS, putD, Slots.put, Slots.get, Slots.keep, if_true, if_false, true_and, ↓ap_move, pop_move, ↓ap_binOp, pop_binOp, isNilC_int, cond_false, pBinX_int, pI_add, ↓ap_assign, pop_assign]
        try simp (disch := omega) only [wrap_i64]
        try simp only [thenA_normal, inBlockA_normal]
        exact ⟨n + 1, rfl, Sub.refl _, hlt, by omega⟩
      · try simp only [decide_eq_true_eq, Bool.not_eq_false'] at hb3
        have hne : n = n0 := by
          rcases Nat.lt_or_ge n n0 with q | q
          · have := hnx.1 q
            rw [← peekE_lt this.1] at this
            rw [hb3] at this
            exact absurd this.2 (by decide)
          · omega
        subst hne
        have hin1 : i + n - 1 < s.length := by omega
        have hpk : s.getD (((i + n : Nat) : Int) - 1).toNat 0 = peekE s ((i : Int) + n - 1) := by
          rw [show (((i + n : Nat) : Int) - 1).toNat = i + n - 1 by omega, show (i : Int) + n - 1 = ((i + n - 1 : Nat) : Int) by omega, peekE_lt hin1]
        refine awp_exit ?_
        change Awp _ _ _ _ _ _ _
        refine awp_seq ?_
        refine awp_rseq [0, 1, 6, 11, 76] (by rfl) fun K hK => ?_
        simp +decide only [ev, absV, absS, putD, Slots.put, Slots.get, if_true, if_false, true_and, ↓ap_move, pop_move, ↓ap_binOp, pop_binOp, isNilC_int, cond_false, pBinX_int, pI_sub]
        try simp (disch := omega) only [wrap_i64]
        try simp +decide only [ev, putD, Slots.put, Slots.get, if_true, if_false, ↓ap_index, pop_index, pIndex_str Tryz.underlying9]
        repeat (with_reducible refine And.intro ?_ ?_; · first | trivial | omega | (intro hg; simp only [Bool.and_eq_true, Bool.or_eq_true, Bool.not_eq_true', Bool.and_eq_false_iff, Bool.or_eq_false_iff, Bool.not_eq_false', decide_eq_true_eq, decide_eq_false_iff_not, eqNil] at hg; omega) )
        refine aOps_callV (V := .bool (endsB (peekE s ((i : Int) + n - 1)))) (by rfl) (by rfl) (by rw [← hpk, ← ends_in]; exact c_in w₀ _ _ _ (by decide)) ?_
        simp +decide only [aOps_nil, putD, Slots.put, Slots.keep, if_true, if_false]
        apply hK; clear hK K
        refine awp_joinT [0, 1, 6, 11] (fun m : Nat => [(0, .str s), (1, .int .i64 i), (6, .ptr (.own k0q0) 0), (11, .int .i64 ((i + m : Nat) : Int))]) (fun m : Nat => h.set k0q0 ⟨[.int .u8 0, .str [], .int .i64 0, .int .i64 0, .bool false], 0⟩) (fun m : Nat => (m : Int) = if endsB (peekE s ((i : Int) + n - 1)) = true then (n : Int) - 1 else n) ?_ ?_
        · refine awp_cond (b := _) rfl (fun hb4 => ?_) (fun hb4 => ?_)
          · skip
            refine awp_r [0, 1, 6, 11] (by rfl) ?_
            simp +decide only [aOps_nil, ev, absV, absS, putD, Slots.put, Slots.get, Slots.keep, if_true, if_false, true_and, ↓ap_move, pop_move, ↓ap_binOp, pop_binOp, isNilC_int, cond_false, pBinX_int, pI_sub, ↓ap_assign, pop_assign]
            try simp (disch := omega) only [wrap_i64]
            try simp only [thenA_normal]
            first
            | exact ⟨n - 1, by rw [show ((i + (n - 1) : Nat) : Int) = ((i + n : Nat) : Int) - 1 by omega]; rfl, Sub.refl _, by rw [if_pos hb4]; omega⟩
            | exact ⟨n, rfl, Sub.refl _, by rw [if_neg (by rw [hb4]; decide)]⟩
          · skip
            refine awp_skip ?_
            try simp only [thenA_normal]
            first
            | exact ⟨n - 1, by rw [show ((i + (n - 1) : Nat) : Int) = ((i + n : Nat) : Int) - 1 by omega]; rfl, Sub.refl _, by rw [if_pos hb4]; omega⟩
            | exact ⟨n, rfl, Sub.refl _, by rw [if_neg (by rw [hb4]; decide)]⟩
        · intro m hm
          have hm1 : m ≤ n := by
            have : (m : Int) ≤ n := by rw [hm]; split <;> omega
            omega
          have hp2 := hpe m hm
          have zm : (((i + m : Nat) : Int)).toNat - i = m := by omega
          have hpm : m ≠ 0 → s.getD (((i + m : Nat) : Int) - 1).toNat 0 = peekE s ((i : Int) + m - 1) := by
            intro _
            rw [show (((i + m : Nat) : Int) - 1).toNat = i + m - 1 by omega, show (i : Int) + m - 1 = ((i + m - 1 : Nat) : Int) by omega, peekE_lt (by omega)]
          refine awp_seq ?_
          refine awp_rseq [0, 1, 6, 11, 95] (by rfl) fun K hK => ?_
          simp +decide only [ev, absV, absS, putD, Slots.put, Slots.get, if_true, if_false, true_and, ↓ap_move, pop_move, ↓ap_binOp, pop_binOp, isNilC_tmp, cond_false, pBinX_int, pI_eql, ↓ag_move, agP, agQ_some, nthDst, gKnown_bool, guardB_bool_false, implies_true, ↓ag_binOp, isNilC_int, cv_binl, cp_binl, pI_sub, ↓ag_index, pop_index, pIndex_str Tryz.underlying9, cv_indexl, cv_indexr, cp_indexl, cp_indexr]
          try simp (disch := omega) only [wrap_i64]
          repeat (with_reducible refine And.intro ?_ ?_; · first | trivial | omega | (intro hg; simp only [Bool.not_eq_true', decide_eq_false_iff_not] at hg; omega) )
          (refine aOps_gcall (V := .bool (endsB (s.getD (((i + m : Nat) : Int) - 1).toNat 0))) (f := _) (cap := _) (xs := _) (by first | rfl | (simp +decide only [gv, nthDst, Slots.get, if_true, if_false, gKnown_cond, gKnown_bool])) (fun hg => ⟨rfl, ?_⟩) (fun hg => by rw [← ends_in]; exact c_in w₀ _ _ [46, 44, 59] (by decide)) ?_; · (simp +decide only [gv, nthDst, Slots.get, if_true, if_false, guardB_bool_false] at hg; simp +decide only [evs, ev, Slots.get, if_true, if_false, hg, condV_true, List.append_nil, List.map_cons, List.map_nil, absV, absS] <;> try rfl))
          simp +decide only [ev, absV, absS, putD, Slots.put, Slots.get, if_true, if_false, true_and, gv, nthDst, guardB_bool_false, ↓ap_pick, pop_pick, pPick_bool, pickV_cond_r, pickV_or, ↓ap_move, pop_move, ↓ag_move, agP, agQ_some, gKnown_bool, implies_true, ↓ag_slice, pop_slice, evO, pSliceS_ii Tryz.underlying9, pSliceS, bndA_int, cv_slice, cp_slice, cv_slicelo, cp_slicelo, cv_slicehi, cp_slicehi, Int.toNat_natCast, Nat.add_sub_cancel_left]
          repeat (with_reducible refine And.intro ?_ ?_; · first | trivial | omega | (intro hg; simp only [Bool.and_eq_true, Bool.or_eq_true, Bool.not_eq_true', Bool.and_eq_false_iff, Bool.or_eq_false_iff, Bool.not_eq_false', decide_eq_true_eq, decide_eq_false_iff_not, eqNil] at hg; omega) )
          (refine aOps_gcall (V := .bool (((s.drop i).take m).contains 34)) (f := _) (cap := _) (xs := _) (by first | rfl | (simp +decide only [gv, nthDst, Slots.get, if_true, if_false, gKnown_cond, gKnown_bool])) (fun hg => ⟨rfl, ?_⟩) (fun hg => h34 _ _ (Nat.le_trans (htw m) (by omega))) ?_; · (simp +decide only [gv, nthDst, Slots.get, if_true, if_false, guardB_bool_false] at hg; simp +decide only [evs, ev, Slots.get, if_true, if_false, hg, condV_true, List.append_nil, List.map_cons, List.map_nil, absV, absS] <;> try rfl))
          simp +decide only [aOps_nil, ev, absV, absS, putD, Slots.put, Slots.get, Slots.keep, if_true, if_false, true_and, gv, nthDst, guardB_bool_false, ↓ap_pick, pop_pick, pPick_bool, pickV_cond_r, pickV_or]
          apply hK; clear hK K
          refine awp_cond (b := _) rfl (fun hb5 => ?_) (fun hb5 => ?_)
          · try simp only [decide_eq_true_eq, Bool.or_eq_true] at hb5
            have h5 : nextE s i l = .err 4 := by
              rw [hp2]
              by_cases hm0 : m = 0
              · rw [if_pos (.inl hm0)]
              · by_cases he : endsB (peekE s ((i : Int) + m - 1)) = true
                · rw [if_pos (.inr he)]
                · rw [if_neg (fun q => q.elim hm0 he), if_pos]
                  rcases hb5 with (q | q) | q
                  · omega
                  · rw [hpm hm0] at q
                    exact absurd q he
                  · exact q
            refine awp_rseq [6, 7, 8] (by rfl) fun K hK => ?_
            simp +decide only [ev, absV, absS, putD, Slots.put, Slots.get, if_false, true_and, ↓ap_build, ↓pop_buildL, bld38_, evP, List.map_nil]
            refine aOps_store (by rfl) (by rfl) (by repeat (first | exact AHeap.set_same _ _ _ | assumption | refine (AHeap.set_ne _ _ (by first | assumption | exact Ne.symm (by assumption))).trans ?_)) sz38 (by rfl) (by rfl) (by first | exact Nat.le_refl _ | decide | (simp; done) | (simp; omega)) (Nat.zero_le _) (by rfl) ?_
            simp only [AHeap.set_set, AVal.cells]
            simp +decide only [aOps_nil, ev, absV, absS, putD, Slots.put, Slots.get, Slots.keep, if_true, if_false, true_and, ↓ap_assign, pop_assign, setAt, List.set_cons_zero, List.set_cons_succ, Nat.zero_add, Nat.reduceAdd]
            apply hK; clear hK K
            refine awp_ret ?_
            try simp only [thenA_ret]
            refine retA_ret h (by repeat (first | exact Sub.refl _ | assumption | refine Sub.trans_set ?_ (by assumption))) (?_) ?_
            · simp +decide only [resPre, resV_tmp, resV_cell, Slots.get, if_true, if_false, and_true, resV_tmp, resV_cell, pLoad_agg ag38 sz38, rd_set, cellsAt, List.getD_cons_zero, List.getD_cons_succ, Nat.zero_add, Nat.reduceAdd, lv_bool, lv_int, lv_str, allLive, Bool.and_true, cellsAt, List.getD_cons_zero, List.getD_cons_succ, Nat.zero_add, Nat.reduceAdd, lv_bool, lv_int, lv_str, allLive, Bool.and_true]
            
            simp +decide only [Slots.get, if_true, if_false, and_true, resOfG_three, resV_tmp, resV_cell, pLoad_agg ag38 sz38, rd_set, cellsAt, List.getD_cons_zero, List.getD_cons_succ, Nat.zero_add, Nat.reduceAdd, lv_bool, lv_int, lv_str, allLive, Bool.and_true, cellsAt, List.getD_cons_zero, List.getD_cons_succ, Nat.zero_add, Nat.reduceAdd, lv_bool, lv_int, lv_str, allLive, Bool.and_true]
            rw [h5]
            rfl
          · try simp only [decide_eq_false_iff_not, Bool.or_eq_false_iff] at hb5
            have h5 : nextE s i l = ⟨4, foldE ((s.drop i).take m), m, 0⟩ := by
              have hm0 : m ≠ 0 := by
                have := hb5.1.1
                omega
              have he := hb5.1.2
              rw [hpm hm0] at he
              rw [hp2, if_neg (fun q => q.elim hm0 (fun q => by rw [he] at q; cases q)), if_neg (by rw [hb5.2]; decide)]
            refine awp_skip ?_
            change Awp _ _ _ _ _ _ _
            refine awp_rseq [6, 7, 8] (by rfl) fun K hK => ?_
            simp +decide only [ev, putD, Slots.put, Slots.get, if_true, if_false, true_and, ↓ap_move, pop_move, ↓ap_slice, pop_slice, evO, pSliceS_ii Tryz.underlying9, pSliceS, bndA_int, Int.toNat_natCast, Nat.add_sub_cancel_left]
            repeat (with_reducible refine And.intro ?_ ?_; · first | trivial | omega | (intro hg; simp only [Bool.and_eq_true, Bool.or_eq_true, Bool.not_eq_true', Bool.and_eq_false_iff, Bool.or_eq_false_iff, Bool.not_eq_false', decide_eq_true_eq, decide_eq_false_iff_not, eqNil] at hg; omega) )
            refine aOps_callV (V := .str (foldE ((s.drop i).take m))) (by rfl) (by rfl) (c_rfold w₀ _ _ (htw m)) ?_
            simp +decide only [ev, absV, absS, putD, Slots.put, Slots.get, if_true, if_false, true_and, ↓ap_build, ↓pop_buildL, bld38_0_1, evP, List.map_cons, List.map_nil, ↓ap_move, pop_move]
            refine aOps_store (by rfl) (by rfl) (by repeat (first | exact AHeap.set_same _ _ _ | assumption | refine (AHeap.set_ne _ _ (by first | assumption | exact Ne.symm (by assumption))).trans ?_)) sz38 (by rfl) (by rfl) (by first | exact Nat.le_refl _ | decide | (simp; done) | (simp; omega)) (Nat.zero_le _) (by rfl) ?_
            simp only [AHeap.set_set, AVal.cells]
            simp +decide only [aOps_nil, ev, absV, absS, putD, Slots.put, Slots.get, Slots.keep, if_true, if_false, true_and, ↓ap_assign, pop_assign, setAt, List.set_cons_zero, List.set_cons_succ, Nat.zero_add, Nat.reduceAdd]
            apply hK; clear hK K
            refine awp_ret ?_
            try simp only [thenA_ret]
            refine retA_ret h (by repeat (first | exact Sub.refl _ | assumption | refine Sub.trans_set ?_ (by assumption))) (?_) ?_
            · simp +decide only [resPre, resV_tmp, resV_cell, Slots.get, if_true, if_false, and_true, resV_tmp, resV_cell, pLoad_agg ag38 sz38, rd_set, cellsAt, List.getD_cons_zero, List.getD_cons_succ, Nat.zero_add, Nat.reduceAdd, lv_bool, lv_int, lv_str, allLive, Bool.and_true, cellsAt, List.getD_cons_zero, List.getD_cons_succ, Nat.zero_add, Nat.reduceAdd, lv_bool, lv_int, lv_str, allLive, Bool.and_true]
            
            simp +decide only [Slots.get, if_true, if_false, and_true, resOfG_three, resV_tmp, resV_cell, pLoad_agg ag38 sz38, rd_set, cellsAt, List.getD_cons_zero, List.getD_cons_succ, Nat.zero_add, Nat.reduceAdd, lv_bool, lv_int, lv_str, allLive, Bool.and_true, cellsAt, List.getD_cons_zero, List.getD_cons_succ, Nat.zero_add, Nat.reduceAdd, lv_bool, lv_int, lv_str, allLive, Bool.and_true]
            rw [h5]
            rfl
    · try simp only [Bool.not_eq_false', Bool.and_eq_false_iff] at hb2
      have hno := next_no hi (l := l) (by
        rcases hb2 with q | q
        · rw [q]; rfl
        · rw [q]; exact Bool.and_false _)
      rw [hno]
      clear hb2 hno
      refine awp_skip ?_
      change Awp _ _ _ _ _ _ _
      refine awp_seq ?_
      refine awp_rseq [0, 1, 6, 107] (by rfl) fun K hK => ?_
      simp +decide only [aOps_nil, ev, absV, absS, putD, Slots.put, Slots.get, Slots.keep, if_true, if_false, true_and, ↓ap_move, pop_move, ↓ap_index, pop_index, pIndex_str Tryz.underlying9, ↓ap_binOp, pop_binOp, isNilC_int, cond_false, pBinX_int, pI_eql, Int.toNat_natCast, hgi]
      repeat (with_reducible refine And.intro ?_ ?_; · first | trivial | omega | (intro hg; simp only [Bool.and_eq_true, Bool.or_eq_true, Bool.not_eq_true', Bool.and_eq_false_iff, Bool.or_eq_false_iff, Bool.not_eq_false', decide_eq_true_eq, decide_eq_false_iff_not, eqNil] at hg; omega) )
      apply hK; clear hK K
      refine awp_cond (b := _) rfl (fun hb6 => ?_) (fun hb6 => ?_)
      · try simp only [decide_eq_true_eq] at hb6
        have h6 : peekE s i = 34 := (u8_eq _ 34).mp hb6
        rw [if_pos h6]
        refine awp_rseq [6, 12, 13] (by rfl) fun K hK => ?_
        simp +decide only [ev, putD, Slots.put, Slots.get, if_true, if_false, true_and, ↓ap_move, pop_move]
        refine aOps_callV (V := .tuple [.str (quoteE s i).text, .int .i64 (if (quoteE s i).e = 0 then ((i + (quoteE s i).n : Nat) : Int) else 0)]) (by rfl) (by rfl) (c_rquote w₀ _ s i hi hs) ?_
        simp +decide only [aOps_nil, ev, putD, Slots.put, Slots.get, Slots.keep, if_true, if_false, true_and, ↓ap_move, pop_move, ↓ap_extract, pop_extract, pExt_tuple, List.length_cons, List.length_nil, List.getD_cons_zero, List.getD_cons_succ, ↓ap_assign, pop_assign, List.getD_cons_zero, List.getD_cons_succ, Nat.zero_add, Nat.reduceAdd]
        apply hK; clear hK K
        refine awp_seq ?_
        refine awp_rseq [6, 12, 13, 115] (by rfl) fun K hK => ?_
        simp +decide only [aOps_nil, ev, absV, absS, putD, Slots.put, Slots.get, Slots.keep, if_true, if_false, true_and, ↓ap_move, pop_move, ↓ap_binOp, pop_binOp, isNilC_int, cond_false, pBinX_int, pI_eql]
        apply hK; clear hK K
        refine awp_cond (b := _) rfl (fun hb7 => ?_) (fun hb7 => ?_)
        · try simp only [decide_eq_true_eq] at hb7
          have h7 : (quoteE s i).e ≠ 0 := by
            intro e
            rw [if_pos e] at hb7
            omega
          refine awp_rseq [6, 7, 8] (by rfl) fun K hK => ?_
          simp +decide only [ev, absV, absS, putD, Slots.put, Slots.get, if_false, true_and, ↓ap_build, ↓pop_buildL, bld38_, evP, List.map_nil]
          refine aOps_store (by rfl) (by rfl) (by repeat (first | exact AHeap.set_same _ _ _ | assumption | refine (AHeap.set_ne _ _ (by first | assumption | exact Ne.symm (by assumption))).trans ?_)) sz38 (by rfl) (by rfl) (by first | exact Nat.le_refl _ | decide | (simp; done) | (simp; omega)) (Nat.zero_le _) (by rfl) ?_
          simp only [AHeap.set_set, AVal.cells]
          simp +decide only [aOps_nil, ev, absV, absS, putD, Slots.put, Slots.get, Slots.keep, if_true, if_false, true_and, ↓ap_assign, pop_assign, setAt, List.set_cons_zero, List.set_cons_succ, Nat.zero_add, Nat.reduceAdd]
          apply hK; clear hK K
          refine awp_ret ?_
          try simp only [thenA_ret]
          refine retA_ret h (by repeat (first | exact Sub.refl _ | assumption | refine Sub.trans_set ?_ (by assumption))) (?_) ?_
          · simp +decide only [resPre, resV_tmp, resV_cell, Slots.get, if_true, if_false, and_true, resV_tmp, resV_cell, pLoad_agg ag38 sz38, rd_set, cellsAt, List.getD_cons_zero, List.getD_cons_succ, Nat.zero_add, Nat.reduceAdd, lv_bool, lv_int, lv_str, allLive, Bool.and_true, cellsAt, List.getD_cons_zero, List.getD_cons_succ, Nat.zero_add, Nat.reduceAdd, lv_bool, lv_int, lv_str, allLive, Bool.and_true]
          
          simp +decide only [Slots.get, if_true, if_false, and_true, resOfG_three, resV_tmp, resV_cell, pLoad_agg ag38 sz38, rd_set, cellsAt, List.getD_cons_zero, List.getD_cons_succ, Nat.zero_add, Nat.reduceAdd, lv_bool, lv_int, lv_str, allLive, Bool.and_true, cellsAt, List.getD_cons_zero, List.getD_cons_succ, Nat.zero_add, Nat.reduceAdd, lv_bool, lv_int, lv_str, allLive, Bool.and_true]
          rw [hq4 h7]
          rfl
        · try simp only [decide_eq_false_iff_not] at hb7
          have h7 : (quoteE s i).e = 0 := by
            by_cases e : (quoteE s i).e = 0
            · exact e
            · rw [if_neg e] at hb7
              exact absurd rfl hb7
          refine awp_skip ?_
          change Awp _ _ _ _ _ _ _
          refine awp_rseq [6, 7, 8] (by rfl) fun K hK => ?_
          simp +decide only [ev, absV, absS, putD, Slots.put, Slots.get, if_true, if_false, true_and, ↓ap_move, pop_move, ↓ap_build, ↓pop_buildL, bld38_0_1, evP, List.map_cons, List.map_nil]
          refine aOps_store (by rfl) (by rfl) (by repeat (first | exact AHeap.set_same _ _ _ | assumption | refine (AHeap.set_ne _ _ (by first | assumption | exact Ne.symm (by assumption))).trans ?_)) sz38 (by rfl) (by rfl) (by first | exact Nat.le_refl _ | decide | (simp; done) | (simp; omega)) (Nat.zero_le _) (by rfl) ?_
          simp only [AHeap.set_set, AVal.cells]
          simp +decide only [aOps_nil, ev, absV, absS, putD, Slots.put, Slots.get, Slots.keep, if_true, if_false, true_and, ↓ap_assign, pop_assign, setAt, List.set_cons_zero, List.set_cons_succ, Nat.zero_add, Nat.reduceAdd]
          apply hK; clear hK K
          refine awp_ret ?_
          try simp only [thenA_ret]
          refine retA_ret h (by repeat (first | exact Sub.refl _ | assumption | refine Sub.trans_set ?_ (by assumption))) (?_) ?_
          · simp +decide only [resPre, resV_tmp, resV_cell, Slots.get, if_true, if_false, and_true, resV_tmp, resV_cell, pLoad_agg ag38 sz38, rd_set, cellsAt, List.getD_cons_zero, List.getD_cons_succ, Nat.zero_add, Nat.reduceAdd, lv_bool, lv_int, lv_str, allLive, Bool.and_true, cellsAt, List.getD_cons_zero, List.getD_cons_succ, Nat.zero_add, Nat.reduceAdd, lv_bool, lv_int, lv_str, allLive, Bool.and_true]
          
          simp +decide only [Slots.get, if_true, if_false, and_true, resOfG_three, resV_tmp, resV_cell, pLoad_agg ag38 sz38, rd_set, cellsAt, List.getD_cons_zero, List.getD_cons_succ, Nat.zero_add, Nat.reduceAdd, lv_bool, lv_int, lv_str, allLive, Bool.and_true, cellsAt, List.getD_cons_zero, List.getD_cons_succ, Nat.zero_add, Nat.reduceAdd, lv_bool, lv_int, lv_str, allLive, Bool.and_true]
          rw [if_pos h7, (hq2 h7).1]
          rfl
      · try simp only [decide_eq_false_iff_not] at hb6
        have h6 : ¬ peekE s i = 34 := fun q => hb6 ((u8_eq _ 34).mpr q)
        rw [if_neg h6]
        refine awp_skip ?_
        change Awp _ _ _ _ _ _ _
        refine awp_seq ?_
        refine awp_rseq [0, 1, 6, 129] (by rfl) fun K hK => ?_
        simp +decide only [ev, absV, absS, putD, Slots.put, Slots.get, if_true, if_false, true_and, ↓ap_move, pop_move, ↓ap_index, pop_index, pIndex_str Tryz.underlying9, ↓ap_binOp, pop_binOp, isNilC_int, cond_false, pBinX_int, pI_eql, ↓ag_move, agP, agQ_some, nthDst, gKnown_bool, guardB_bool_true, implies_true, ↓ag_binOp, cv_binl, cp_binl, pI_add, Int.toNat_natCast, hgi, w1]
        repeat (with_reducible refine And.intro ?_ ?_; · first | trivial | omega | (intro hg; simp only [Bool.and_eq_true, Bool.or_eq_true, Bool.not_eq_true', Bool.and_eq_false_iff, Bool.or_eq_false_iff, Bool.not_eq_false', decide_eq_true_eq, decide_eq_false_iff_not, eqNil] at hg; omega) )
        (refine aOps_gcall (V := .bool (decide (peekE s ((i : Int) + 1) = 32))) (f := _) (cap := _) (xs := _) (by first | rfl | (simp +decide only [gv, nthDst, Slots.get, if_true, if_false, gKnown_cond, gKnown_bool])) (fun hg => ⟨rfl, ?_⟩) (fun hg => hbl _) ?_; · (simp +decide only [gv, nthDst, Slots.get, if_true, if_false, guardB_bool_true] at hg; simp +decide only [evs, ev, Slots.get, if_true, if_false, hg, condV_true, List.append_nil, List.map_cons, List.map_nil] <;> try rfl))
        simp +decide only [aOps_nil, ev, absV, absS, putD, Slots.put, Slots.get, Slots.keep, if_true, if_false, true_and, gv, nthDst, guardB_bool_true, ↓ap_pick, pop_pick, pPick_bool, pickV_cond_l, pickV_and]
        apply hK; clear hK K
        refine awp_cond (b := _) rfl (fun hb8 => ?_) (fun hb8 => ?_)
        · try simp only [decide_eq_true_eq, Bool.and_eq_true] at hb8
          have h8 : peekE s i = 46 ∧ peekE s ((i : Int) + 1) = 32 := ⟨(u8_eq _ 46).mp hb8.1, hb8.2⟩
          rw [if_pos h8]
          refine awp_rseq [6, 7, 8] (by rfl) fun K hK => ?_
          simp +decide only [ev, absV, absS, putD, Slots.put, Slots.get, if_true, if_false, true_and, ↓ap_build, ↓pop_buildL, bld38_0_1, evP, List.map_cons, List.map_nil, ↓ap_move, pop_move, ↓ap_binOp, pop_binOp, isNilC_int, cond_false, pBinX_int, pI_add, w1]
          refine aOps_store (by rfl) (by rfl) (by repeat (first | exact AHeap.set_same _ _ _ | assumption | refine (AHeap.set_ne _ _ (by first | assumption | exact Ne.symm (by assumption))).trans ?_)) sz38 (by rfl) (by rfl) (by first | exact Nat.le_refl _ | decide | (simp; done) | (simp; omega)) (Nat.zero_le _) (by rfl) ?_
          simp only [AHeap.set_set, AVal.cells]
          simp +decide only [aOps_nil, ev, absV, absS, putD, Slots.put, Slots.get, Slots.keep, if_true, if_false, true_and, ↓ap_assign, pop_assign, setAt, List.set_cons_zero, List.set_cons_succ, Nat.zero_add, Nat.reduceAdd]
          apply hK; clear hK K
          refine awp_ret ?_
          try simp only [thenA_ret]
          refine retA_ret h (by repeat (first | exact Sub.refl _ | assumption | refine Sub.trans_set ?_ (by assumption))) (?_) ?_
          · simp +decide only [resPre, resV_tmp, resV_cell, Slots.get, if_true, if_false, and_true, resV_tmp, resV_cell, pLoad_agg ag38 sz38, rd_set, cellsAt, List.getD_cons_zero, List.getD_cons_succ, Nat.zero_add, Nat.reduceAdd, lv_bool, lv_int, lv_str, allLive, Bool.and_true, cellsAt, List.getD_cons_zero, List.getD_cons_succ, Nat.zero_add, Nat.reduceAdd, lv_bool, lv_int, lv_str, allLive, Bool.and_true]
          
          simp +decide only [Slots.get, if_true, if_false, and_true, resOfG_three, resV_tmp, resV_cell, pLoad_agg ag38 sz38, rd_set, cellsAt, List.getD_cons_zero, List.getD_cons_succ, Nat.zero_add, Nat.reduceAdd, lv_bool, lv_int, lv_str, allLive, Bool.and_true, cellsAt, List.getD_cons_zero, List.getD_cons_succ, Nat.zero_add, Nat.reduceAdd, lv_bool, lv_int, lv_str, allLive, Bool.and_true]
          unfold Tok.takeE
          rw [take_one hi, h8.1]
          rfl
        · try simp only [decide_eq_false_iff_not, Bool.and_eq_false_iff] at hb8
          have h8 : ¬ (peekE s i = 46 ∧ peekE s ((i : Int) + 1) = 32) := fun q => by
            rcases hb8 with z | z
            · exact z ((u8_eq _ 46).mpr q.1)
            · exact z q.2
          rw [if_neg h8]
          clear hb8
          refine awp_skip ?_
          change Awp _ _ _ _ _ _ _
          refine awp_seq ?_
          refine awp_rseq [0, 1, 6, 145] (by rfl) fun K hK => ?_
          simp +decide only [aOps_nil, ev, absV, absS, putD, Slots.put, Slots.get, Slots.keep, if_true, if_false, true_and, ↓ap_move, pop_move, ↓ap_binOp, pop_binOp, isNilC_int, cond_false, pBinX_int, pI_add, ↓ap_len, pop_len, pLen_str Tryz.underlying9, isNilC_tmp, pI_lss, ↓ag_move, agP, agQ_some, nthDst, gKnown_bool, guardB_bool_true, implies_true, ↓ag_binOp, cv_binl, cp_binl, ↓ag_slice, pop_slice, evO, pSliceS_ii Tryz.underlying9, pSliceS, bndA_int, cv_slice, cp_slice, cv_slicelo, cp_slicelo, cv_slicehi, cp_slicehi, isNilC_str, pBinX_str, pS_eql, ↓ap_pick, pop_pick, pPick_bool, pickV_cond_l, pickV_and, Int.toNat_natCast, w1, w2, z2, heqs]
          repeat (with_reducible refine And.intro ?_ ?_; · first | trivial | omega | (intro hg; simp only [decide_eq_true_eq] at hg; omega) )
          apply hK; clear hK K
          refine awp_cond (b := _) rfl (fun hb9 => ?_) (fun hb9 => ?_)
          · skip
            rw [if_pos hb9]
            refine awp_rseq [6, 7, 8] (by rfl) fun K hK => ?_
            simp +decide only [ev, absV, absS, putD, Slots.put, Slots.get, if_true, if_false, true_and, ↓ap_build, ↓pop_buildL, bld38_0_1, evP, List.map_cons, List.map_nil, ↓ap_move, pop_move, ↓ap_binOp, pop_binOp, isNilC_int, cond_false, pBinX_int, pI_add, w2]
            refine aOps_store (by rfl) (by rfl) (by repeat (first | exact AHeap.set_same _ _ _ | assumption | refine (AHeap.set_ne _ _ (by first | assumption | exact Ne.symm (by assumption))).trans ?_)) sz38 (by rfl) (by rfl) (by first | exact Nat.le_refl _ | decide | (simp; done) | (simp; omega)) (Nat.zero_le _) (by rfl) ?_
            simp only [AHeap.set_set, AVal.cells]
            simp +decide only [aOps_nil, ev, absV, absS, putD, Slots.put, Slots.get, Slots.keep, if_true, if_false, true_and, ↓ap_assign, pop_assign, setAt, List.set_cons_zero, List.set_cons_succ, Nat.zero_add, Nat.reduceAdd]
            apply hK; clear hK K
            refine awp_ret ?_
            try simp only [thenA_ret]
            refine retA_ret h (by repeat (first | exact Sub.refl _ | assumption | refine Sub.trans_set ?_ (by assumption))) (?_) ?_
            · simp +decide only [resPre, resV_tmp, resV_cell, Slots.get, if_true, if_false, and_true, resV_tmp, resV_cell, pLoad_agg ag38 sz38, rd_set, cellsAt, List.getD_cons_zero, List.getD_cons_succ, Nat.zero_add, Nat.reduceAdd, lv_bool, lv_int, lv_str, allLive, Bool.and_true, cellsAt, List.getD_cons_zero, List.getD_cons_succ, Nat.zero_add, Nat.reduceAdd, lv_bool, lv_int, lv_str, allLive, Bool.and_true]
            
            simp +decide only [Slots.get, if_true, if_false, and_true, resOfG_three, resV_tmp, resV_cell, pLoad_agg ag38 sz38, rd_set, cellsAt, List.getD_cons_zero, List.getD_cons_succ, Nat.zero_add, Nat.reduceAdd, lv_bool, lv_int, lv_str, allLive, Bool.and_true, cellsAt, List.getD_cons_zero, List.getD_cons_succ, Nat.zero_add, Nat.reduceAdd, lv_bool, lv_int, lv_str, allLive, Bool.and_true]
            unfold Tok.takeE
            rw [show (s.drop i).take 2 = [61, 61] by unfold eqsB at hb9; simp only [Bool.and_eq_true, decide_eq_true_eq] at hb9; exact hb9.2]
            rfl
          · skip
            rw [if_neg (by rw [hb9]; decide)]
            refine awp_skip ?_
            change Awp _ _ _ _ _ _ _
            refine awp_rseq [0, 1, 6, 14, 15] (by rfl) fun K hK => ?_
            simp +decide only [ev, putD, Slots.put, Slots.get, if_true, if_false, true_and, ↓ap_move, pop_move]
            refine aOps_callV (V := .tuple [.int .i64 (numR s i).1, .int .i64 (numR s i).2]) (by rfl) (by rfl) (c_numeral w₀ _ s i hi hs) ?_
            simp +decide only [aOps_nil, ev, putD, Slots.put, Slots.get, Slots.keep, if_true, if_false, true_and, ↓ap_move, pop_move, ↓ap_extract, pop_extract, pExt_tuple, List.length_cons, List.length_nil, List.getD_cons_zero, List.getD_cons_succ, ↓ap_assign, pop_assign, List.getD_cons_zero, List.getD_cons_succ, Nat.zero_add, Nat.reduceAdd]
            apply hK; clear hK K
            refine awp_seq ?_
            have hns := num_shape (s := s) (i := i)
            have hnp := num_pos (s := s) (i := i)
            obtain ⟨A, hA⟩ : ∃ A, A = (numR s i).1 := ⟨_, rfl⟩
            obtain ⟨B, hB⟩ : ∃ B, B = (numR s i).2 := ⟨_, rfl⟩
            rw [← hA, ← hB] at hns
            rw [← hA] at hnp
            rw [← hA, ← hB]
            clear hA hB
            refine awp_rseq [0, 1, 6, 14, 15, 156] (by rfl) fun K hK => ?_
            simp +decide only [aOps_nil, ev, absV, absS, putD, Slots.put, Slots.get, Slots.keep, if_true, if_false, true_and, ↓ap_move, pop_move, ↓ap_binOp, pop_binOp, isNilC_int, cond_false, pBinX_int, pI_lss]
            apply hK; clear hK K
            refine awp_cond (b := _) rfl (fun hb10 => ?_) (fun hb10 => ?_)
            · try simp only [decide_eq_true_eq] at hb10
              rw [if_pos hb10] at hns
              refine awp_rseq [6, 7, 8] (by rfl) fun K hK => ?_
              simp +decide only [ev, absV, absS, putD, Slots.put, Slots.get, if_false, true_and, ↓ap_build, ↓pop_buildL, bld38_, evP, List.map_nil]
              refine aOps_store (by rfl) (by rfl) (by repeat (first | exact AHeap.set_same _ _ _ | assumption | refine (AHeap.set_ne _ _ (by first | assumption | exact Ne.symm (by assumption))).trans ?_)) sz38 (by rfl) (by rfl) (by first | exact Nat.le_refl _ | decide | (simp; done) | (simp; omega)) (Nat.zero_le _) (by rfl) ?_
              simp only [AHeap.set_set, AVal.cells]
              simp +decide only [aOps_nil, ev, absV, absS, putD, Slots.put, Slots.get, Slots.keep, if_true, if_false, true_and, ↓ap_assign, pop_assign, setAt, List.set_cons_zero, List.set_cons_succ, Nat.zero_add, Nat.reduceAdd]
              apply hK; clear hK K
              refine awp_ret ?_
              try simp only [thenA_ret]
              refine retA_ret h (by repeat (first | exact Sub.refl _ | assumption | refine Sub.trans_set ?_ (by assumption))) (?_) ?_
              · simp +decide only [resPre, resV_tmp, resV_cell, Slots.get, if_true, if_false, and_true, resV_tmp, resV_cell, pLoad_agg ag38 sz38, rd_set, cellsAt, List.getD_cons_zero, List.getD_cons_succ, Nat.zero_add, Nat.reduceAdd, lv_bool, lv_int, lv_str, allLive, Bool.and_true, cellsAt, List.getD_cons_zero, List.getD_cons_succ, Nat.zero_add, Nat.reduceAdd, lv_bool, lv_int, lv_str, allLive, Bool.and_true]
              
              simp +decide only [Slots.get, if_true, if_false, and_true, resOfG_three, resV_tmp, resV_cell, pLoad_agg ag38 sz38, rd_set, cellsAt, List.getD_cons_zero, List.getD_cons_succ, Nat.zero_add, Nat.reduceAdd, lv_bool, lv_int, lv_str, allLive, Bool.and_true, ne_eq, cellsAt, List.getD_cons_zero, List.getD_cons_succ, Nat.zero_add, Nat.reduceAdd, lv_bool, lv_int, lv_str, allLive, Bool.and_true]
              rw [hns]
              rfl
            · try simp only [decide_eq_false_iff_not] at hb10
              rw [if_neg hb10] at hns
              refine awp_skip ?_
              change Awp _ _ _ _ _ _ _
              refine awp_seq ?_
              refine awp_rseq [0, 1, 6, 14, 163] (by rfl) fun K hK => ?_
              simp +decide only [aOps_nil, ev, absV, absS, putD, Slots.put, Slots.get, Slots.keep, if_true, if_false, true_and, ↓ap_move, pop_move, ↓ap_binOp, pop_binOp, isNilC_int, cond_false, pBinX_int, pI_gtr, ↓ag_move, agP, agQ_some, nthDst, gKnown_bool, guardB_bool_true, implies_true, ↓ag_binOp, cv_binl, cp_binl, ↓ap_pick, pop_pick, pPick_bool, pickV_cond_l, pickV_and]
              apply hK; clear hK K
              refine awp_cond (b := _) rfl (fun hb11 => ?_) (fun hb11 => ?_)
              · try simp only [decide_eq_true_eq, Bool.and_eq_true] at hb11
                rw [if_pos (by omega), if_pos hb11.2] at hns
                refine awp_rseq [6, 7, 8] (by rfl) fun K hK => ?_
                simp +decide only [ev, absV, absS, putD, Slots.put, Slots.get, if_false, true_and, ↓ap_build, ↓pop_buildL, bld38_, evP, List.map_nil]
                refine aOps_store (by rfl) (by rfl) (by repeat (first | exact AHeap.set_same _ _ _ | assumption | refine (AHeap.set_ne _ _ (by first | assumption | exact Ne.symm (by assumption))).trans ?_)) sz38 (by rfl) (by rfl) (by first | exact Nat.le_refl _ | decide | (simp; done) | (simp; omega)) (Nat.zero_le _) (by rfl) ?_
                simp only [AHeap.set_set, AVal.cells]
                simp +decide only [aOps_nil, ev, absV, absS, putD, Slots.put, Slots.get, Slots.keep, if_true, if_false, true_and, ↓ap_assign, pop_assign, setAt, List.set_cons_zero, List.set_cons_succ, Nat.zero_add, Nat.reduceAdd]
                apply hK; clear hK K
                refine awp_ret ?_
                try simp only [thenA_ret]
                refine retA_ret h (by repeat (first | exact Sub.refl _ | assumption | refine Sub.trans_set ?_ (by assumption))) (?_) ?_
                · simp +decide only [resPre, resV_tmp, resV_cell, Slots.get, if_true, if_false, and_true, resV_tmp, resV_cell, pLoad_agg ag38 sz38, rd_set, cellsAt, List.getD_cons_zero, List.getD_cons_succ, Nat.zero_add, Nat.reduceAdd, lv_bool, lv_int, lv_str, allLive, Bool.and_true, cellsAt, List.getD_cons_zero, List.getD_cons_succ, Nat.zero_add, Nat.reduceAdd, lv_bool, lv_int, lv_str, allLive, Bool.and_true]
                
                simp +decide only [Slots.get, if_true, if_false, and_true, resOfG_three, resV_tmp, resV_cell, pLoad_agg ag38 sz38, rd_set, cellsAt, List.getD_cons_zero, List.getD_cons_succ, Nat.zero_add, Nat.reduceAdd, lv_bool, lv_int, lv_str, allLive, Bool.and_true, ne_eq, cellsAt, List.getD_cons_zero, List.getD_cons_succ, Nat.zero_add, Nat.reduceAdd, lv_bool, lv_int, lv_str, allLive, Bool.and_true]
                rw [hns]
                rfl
              · try simp only [decide_eq_false_iff_not, Bool.and_eq_false_iff] at hb11
                skip
                refine awp_skip ?_
                change Awp _ _ _ _ _ _ _
                refine awp_seq ?_
                refine awp_rseq [0, 1, 6, 14, 166] (by rfl) fun K hK => ?_
                simp +decide only [aOps_nil, ev, absV, absS, putD, Slots.put, Slots.get, Slots.keep, if_true, if_false, true_and, ↓ap_move, pop_move, ↓ap_binOp, pop_binOp, isNilC_int, cond_false, pBinX_int, pI_gtr]
                apply hK; clear hK K
                refine awp_cond (b := _) rfl (fun hb12 => ?_) (fun hb12 => ?_)
                · try simp only [decide_eq_true_eq] at hb12
                  have h11 : ¬ 18 < B := hb11.elim (fun q => absurd hb12 q) id
                  rw [if_pos hb12, if_neg h11] at hns
                  obtain ⟨hA1, hA2⟩ := hnp hb12
                  have hnl := numLen_le hi
                  have zn : (A.toNat - i) = numLen s i := by omega
                  refine awp_rseq [6, 7, 8] (by rfl) fun K hK => ?_
                  simp +decide only [ev, absV, absS, putD, Slots.put, Slots.get, if_true, if_false, true_and, ↓ap_move, pop_move, ↓ap_slice, pop_slice, evO, pSliceS_ii Tryz.underlying9, pSliceS, bndA_int, ↓ap_build, ↓pop_buildL, bld38_0_1, evP, List.map_cons, List.map_nil, Int.toNat_natCast, zn]
                  repeat (with_reducible refine And.intro ?_ ?_; · first | trivial | omega | (intro hg; simp only [Bool.and_eq_true, Bool.or_eq_true, Bool.not_eq_true', Bool.and_eq_false_iff, Bool.or_eq_false_iff, Bool.not_eq_false', decide_eq_true_eq, decide_eq_false_iff_not, eqNil] at hg; omega) )
                  refine aOps_store (by rfl) (by rfl) (by repeat (first | exact AHeap.set_same _ _ _ | assumption | refine (AHeap.set_ne _ _ (by first | assumption | exact Ne.symm (by assumption))).trans ?_)) sz38 (by rfl) (by rfl) (by first | exact Nat.le_refl _ | decide | (simp; done) | (simp; omega)) (Nat.zero_le _) (by rfl) ?_
                  simp only [AHeap.set_set, AVal.cells]
                  simp +decide only [aOps_nil, ev, absV, absS, putD, Slots.put, Slots.get, Slots.keep, if_true, if_false, true_and, ↓ap_assign, pop_assign, setAt, List.set_cons_zero, List.set_cons_succ, Nat.zero_add, Nat.reduceAdd]
                  apply hK; clear hK K
                  refine awp_ret ?_
                  try simp only [thenA_ret]
                  refine retA_ret h (by repeat (first | exact Sub.refl _ | assumption | refine Sub.trans_set ?_ (by assumption))) (?_) ?_
                  · simp +decide only [resPre, resV_tmp, resV_cell, Slots.get, if_true, if_false, and_true, resV_tmp, resV_cell, pLoad_agg ag38 sz38, rd_set, cellsAt, List.getD_cons_zero, List.getD_cons_succ, Nat.zero_add, Nat.reduceAdd, lv_bool, lv_int, lv_str, allLive, Bool.and_true, cellsAt, List.getD_cons_zero, List.getD_cons_succ, Nat.zero_add, Nat.reduceAdd, lv_bool, lv_int, lv_str, allLive, Bool.and_true]
                  
                  simp +decide only [Slots.get, if_true, if_false, and_true, resOfG_three, resV_tmp, resV_cell, pLoad_agg ag38 sz38, rd_set, cellsAt, List.getD_cons_zero, List.getD_cons_succ, Nat.zero_add, Nat.reduceAdd, lv_bool, lv_int, lv_str, allLive, Bool.and_true, ne_eq, cellsAt, List.getD_cons_zero, List.getD_cons_succ, Nat.zero_add, Nat.reduceAdd, lv_bool, lv_int, lv_str, allLive, Bool.and_true]
                  rw [hns, if_pos (.inl hA2), hA1]
                  rfl
                · try simp only [decide_eq_false_iff_not] at hb12
                  rw [if_neg hb12] at hns
                  rw [hns, if_neg (show ¬ (0 < (Nx.err 0).n ∨ (Nx.err 0).e ≠ 0) by decide)]
                  refine awp_skip ?_
                  change Awp _ _ _ _ _ _ _
                  refine awp_seq ?_
                  refine awp_rseq [0, 1, 6, 180] (by rfl) fun K hK => ?_
                  simp +decide only [ev, putD, Slots.put, Slots.get, if_true, if_false, true_and, ↓ap_move, pop_move]
                  refine aOps_callV (V := .bool (digitB (peekE s i))) (by rfl) (by rfl) (c_rdigit w₀ _ s i (by omega) (by omega)) ?_
                  simp +decide only [ev, putD, Slots.put, Slots.get, if_true, if_false, true_and, ↓ap_move, pop_move, ↓ag_move, agP, agQ_some, nthDst, gKnown_bool, guardB_bool_false, implies_true]
                  (refine aOps_gcall (V := .bool (letterB (peekE s i))) (f := _) (cap := _) (xs := _) (by first | rfl | (simp +decide only [gv, nthDst, Slots.get, if_true, if_false, gKnown_cond, gKnown_bool])) (fun hg => ⟨rfl, ?_⟩) (fun hg => c_rletter w₀ _ s i (by omega) (by omega)) ?_; · (simp +decide only [gv, nthDst, Slots.get, if_true, if_false, guardB_bool_false] at hg; simp +decide only [evs, ev, Slots.get, if_true, if_false, hg, condV_true, List.append_nil, List.map_cons, List.map_nil] <;> try rfl))
                  simp +decide only [aOps_nil, ev, absV, absS, putD, Slots.put, Slots.get, Slots.keep, if_true, if_false, true_and, gv, nthDst, guardB_bool_false, ↓ap_pick, pop_pick, pPick_bool, pickV_cond_r, pickV_or]
                  apply hK; clear hK K
                  refine awp_cond (b := _) rfl (fun hb13 => ?_) (fun hb13 => ?_)
                  · try simp only [Bool.or_eq_true] at hb13
                    have hw := (word_or (peekE s i)).2 (by rw [Bool.or_eq_true]; exact hb13)
                    rw [if_pos hw]
                    have hwp := runE_pos hi (p := wordyB) (by rw [hgi]; exact hw.1)
                    have hwl := runE_le s i wordyB (by omega)
                    obtain ⟨w0, hw0⟩ : ∃ w0, w0 = runE s i wordyB := ⟨_, rfl⟩
                    rw [← hw0] at hwp hwl
                    have hns2 := name_shape hi hw.1 w0 hw0
                    rw [hns2]
                    refine awp_rseq [0, 1, 6, 14] (by rfl) fun K hK => ?_
                    simp +decide only [aOps_nil, ev, putD, Slots.put, Slots.get, Slots.keep, if_true, if_false, true_and, ↓ap_move, pop_move, ↓ap_assign, pop_assign]
                    apply hK; clear hK K
                    refine awp_seq ?_
                    refine awp_block ?_
                    refine awp_loopG [0, 1, 6, 14] (fun n : Nat => [(0, .str s), (1, .int .i64 i), (6, .ptr (.own k0q0) 0), (14, .int .i64 ((i + n : Nat) : Int))]) (fun n : Nat => _) (fun n : Nat => n ≤ w0) (fun n : Nat => w0 - n) 0 (by rfl) (Sub.refl _) (Nat.zero_le _) ?_
                    intro n hn
                    have hnx := runE_next (by rw [← hw0]; exact hn)
                    rw [← hw0] at hnx
                    refine awp_seq ?_
                    refine awp_rseq [0, 1, 6, 14, 184] (by rfl) fun K hK => ?_
                    simp +decide only [ev, putD, Slots.put, Slots.get, if_true, if_false, true_and, ↓ap_move, pop_move]
                    refine aOps_callV (V := .bool (wordyB (peekE s ((i + n : Nat) : Int)))) (by rfl) (by rfl) (c_rwordy w₀ _ s (i + n) (by omega) (by omega)) ?_
                    simp +decide only [aOps_nil, putD, Slots.put, Slots.keep, if_true, if_false]
                    apply hK; clear hK K
                    refine awp_cond (b := _) rfl (fun hb14 => ?_) (fun hb14 => ?_)
                    · skip
                      have hin : i + n < s.length := peekE_in (i := i + n) (fun e => by rw [e] at hb14; exact absurd hb14 (by decide))
                      have hlt : n < w0 := hnx.2 ⟨hin, by rw [← peekE_lt hin]; exact hb14⟩
                      refine awp_skip ?_
                      change Awp _ _ _ _ _ _ _
                      refine awp_block ?_
                      refine awp_r [0, 1, 6, 14] (by rfl) ?_
                      simp +decide only [aOps_nil, ev, absV, absS, putD, Slots.put, Slots.get, Slots.keep, if_true, if_false, true_and, ↓ap_move, pop_move, ↓ap_binOp, pop_binOp, isNilC_int, cond_false, pBinX_int, pI_add, ↓ap_assign, pop_assign]
                      try simp (disch := omega) only [wrap_i64]
                      try simp only [thenA_normal, inBlockA_normal]
                      exact ⟨n + 1, rfl, Sub.refl _, hlt, by omega⟩
                    · skip
                      have hne : n = w0 := by
                        rcases Nat.lt_or_ge n w0 with q | q
                        · have := hnx.1 q
                          rw [← peekE_lt this.1, hb14] at this
                          exact absurd this.2 (by decide)
                        · omega
                      subst hne
                      have zm : (((i + n : Nat) : Int)).toNat - i = n := by omega
                      refine awp_exit ?_
                      change Awp _ _ _ _ _ _ _
                      refine awp_seq ?_
                      refine awp_rseq [0, 1, 6, 14, 192] (by rfl) fun K hK => ?_
                      simp +decide only [ev, putD, Slots.put, Slots.get, if_true, if_false, true_and, ↓ap_move, pop_move, ↓ap_slice, pop_slice, evO, pSliceS_ii Tryz.underlying9, pSliceS, bndA_int, Int.toNat_natCast, Nat.add_sub_cancel_left]
                      repeat (with_reducible refine And.intro ?_ ?_; · first | trivial | omega | (intro hg; simp only [Bool.and_eq_true, Bool.or_eq_true, Bool.not_eq_true', Bool.and_eq_false_iff, Bool.or_eq_false_iff, Bool.not_eq_false', decide_eq_true_eq, decide_eq_false_iff_not, eqNil] at hg; omega) )
                      refine aOps_callV (V := .bool (nameOk ((s.drop i).take n))) (by rfl) (by rfl) (c_rname w₀ _ ((s.drop i).take n) (by rw [List.length_take, List.length_drop]; omega) (htw n)) ?_
                      simp +decide only [aOps_nil, ev, putD, Slots.put, Slots.get, Slots.keep, if_true, if_false, true_and, ↓ap_unOp, pop_unOp, pU_not]
                      apply hK; clear hK K
                      refine awp_cond (b := _) rfl (fun hb15 => ?_) (fun hb15 => ?_)
                      · try simp only [Bool.not_eq_true'] at hb15
                        refine awp_rseq [6, 7, 8] (by rfl) fun K hK => ?_
                        simp +decide only [ev, absV, absS, putD, Slots.put, Slots.get, if_false, true_and, ↓ap_build, ↓pop_buildL, bld38_, evP, List.map_nil]
                        refine aOps_store (by rfl) (by rfl) (by repeat (first | exact AHeap.set_same _ _ _ | assumption | refine (AHeap.set_ne _ _ (by first | assumption | exact Ne.symm (by assumption))).trans ?_)) sz38 (by rfl) (by rfl) (by first | exact Nat.le_refl _ | decide | (simp; done) | (simp; omega)) (Nat.zero_le _) (by rfl) ?_
                        simp only [AHeap.set_set, AVal.cells]
                        simp +decide only [aOps_nil, ev, absV, absS, putD, Slots.put, Slots.get, Slots.keep, if_true, if_false, true_and, ↓ap_assign, pop_assign, setAt, List.set_cons_zero, List.set_cons_succ, Nat.zero_add, Nat.reduceAdd]
                        apply hK; clear hK K
                        refine awp_ret ?_
                        try simp only [thenA_ret]
                        refine retA_ret h (by repeat (first | exact Sub.refl _ | assumption | refine Sub.trans_set ?_ (by assumption))) (?_) ?_
                        · simp +decide only [resPre, resV_tmp, resV_cell, Slots.get, if_true, if_false, and_true, resV_tmp, resV_cell, pLoad_agg ag38 sz38, rd_set, cellsAt, List.getD_cons_zero, List.getD_cons_succ, Nat.zero_add, Nat.reduceAdd, lv_bool, lv_int, lv_str, allLive, Bool.and_true, cellsAt, List.getD_cons_zero, List.getD_cons_succ, Nat.zero_add, Nat.reduceAdd, lv_bool, lv_int, lv_str, allLive, Bool.and_true]
                        
                        simp +decide only [Slots.get, if_true, if_false, and_true, resOfG_three, resV_tmp, resV_cell, pLoad_agg ag38 sz38, rd_set, cellsAt, List.getD_cons_zero, List.getD_cons_succ, Nat.zero_add, Nat.reduceAdd, lv_bool, lv_int, lv_str, allLive, Bool.and_true, cellsAt, List.getD_cons_zero, List.getD_cons_succ, Nat.zero_add, Nat.reduceAdd, lv_bool, lv_int, lv_str, allLive, Bool.and_true]
                        rw [if_pos hb15]
                        rfl
                      · try simp only [Bool.not_eq_false'] at hb15
                        rw [if_neg (by rw [hb15]; decide)]
                        refine awp_skip ?_
                        change Awp _ _ _ _ _ _ _
                        refine awp_seq ?_
                        refine awp_rseq [0, 1, 6, 14, 197] (by rfl) fun K hK => ?_
                        simp +decide only [aOps_nil, ev, absV, absS, putD, Slots.put, Slots.get, Slots.keep, if_true, if_false, true_and, ↓ap_move, pop_move, ↓ap_binOp, pop_binOp, isNilC_tmp, cond_false, pBinX_int, pI_sub, isNilC_int, pI_gtr]
                        try simp (disch := omega) only [wrap_i64]
                        apply hK; clear hK K
                        refine awp_cond (b := _) rfl (fun hb16 => ?_) (fun hb16 => ?_)
                        · try simp only [decide_eq_true_eq] at hb16
                          refine awp_rseq [6, 7, 8] (by rfl) fun K hK => ?_
                          simp +decide only [ev, absV, absS, putD, Slots.put, Slots.get, if_false, true_and, ↓ap_build, ↓pop_buildL, bld38_, evP, List.map_nil]
                          refine aOps_store (by rfl) (by rfl) (by repeat (first | exact AHeap.set_same _ _ _ | assumption | refine (AHeap.set_ne _ _ (by first | assumption | exact Ne.symm (by assumption))).trans ?_)) sz38 (by rfl) (by rfl) (by first | exact Nat.le_refl _ | decide | (simp; done) | (simp; omega)) (Nat.zero_le _) (by rfl) ?_
                          simp only [AHeap.set_set, AVal.cells]
                          simp +decide only [aOps_nil, ev, absV, absS, putD, Slots.put, Slots.get, Slots.keep, if_true, if_false, true_and, ↓ap_assign, pop_assign, setAt, List.set_cons_zero, List.set_cons_succ, Nat.zero_add, Nat.reduceAdd]
                          apply hK; clear hK K
                          refine awp_ret ?_
                          try simp only [thenA_ret]
                          refine retA_ret h (by repeat (first | exact Sub.refl _ | assumption | refine Sub.trans_set ?_ (by assumption))) (?_) ?_
                          · simp +decide only [resPre, resV_tmp, resV_cell, Slots.get, if_true, if_false, and_true, resV_tmp, resV_cell, pLoad_agg ag38 sz38, rd_set, cellsAt, List.getD_cons_zero, List.getD_cons_succ, Nat.zero_add, Nat.reduceAdd, lv_bool, lv_int, lv_str, allLive, Bool.and_true, cellsAt, List.getD_cons_zero, List.getD_cons_succ, Nat.zero_add, Nat.reduceAdd, lv_bool, lv_int, lv_str, allLive, Bool.and_true]
                          
                          simp +decide only [Slots.get, if_true, if_false, and_true, resOfG_three, resV_tmp, resV_cell, pLoad_agg ag38 sz38, rd_set, cellsAt, List.getD_cons_zero, List.getD_cons_succ, Nat.zero_add, Nat.reduceAdd, lv_bool, lv_int, lv_str, allLive, Bool.and_true, cellsAt, List.getD_cons_zero, List.getD_cons_succ, Nat.zero_add, Nat.reduceAdd, lv_bool, lv_int, lv_str, allLive, Bool.and_true]
                          rw [if_pos (by omega)]
                          rfl
                        · try simp only [decide_eq_false_iff_not] at hb16
                          rw [if_neg (by omega)]
                          refine awp_skip ?_
                          change Awp _ _ _ _ _ _ _
                          refine awp_rseq [6, 7, 8] (by rfl) fun K hK => ?_
                          simp +decide only [ev, putD, Slots.put, Slots.get, if_true, if_false, true_and, ↓ap_move, pop_move, ↓ap_slice, pop_slice, evO, pSliceS_ii Tryz.underlying9, pSliceS, bndA_int, Int.toNat_natCast, Nat.add_sub_cancel_left]
                          repeat (with_reducible refine And.intro ?_ ?_; · first | trivial | omega | (intro hg; simp only [Bool.and_eq_true, Bool.or_eq_true, Bool.not_eq_true', Bool.and_eq_false_iff, Bool.or_eq_false_iff, Bool.not_eq_false', decide_eq_true_eq, decide_eq_false_iff_not, eqNil] at hg; omega) )
                          refine aOps_callV (V := .str (foldE ((s.drop i).take n))) (by rfl) (by rfl) (c_rfold w₀ _ _ (htw n)) ?_
                          simp +decide only [ev, absV, absS, putD, Slots.put, Slots.get, if_true, if_false, true_and, ↓ap_build, ↓pop_buildL, bld38_0_1, evP, List.map_cons, List.map_nil, ↓ap_move, pop_move]
                          refine aOps_store (by rfl) (by rfl) (by repeat (first | exact AHeap.set_same _ _ _ | assumption | refine (AHeap.set_ne _ _ (by first | assumption | exact Ne.symm (by assumption))).trans ?_)) sz38 (by rfl) (by rfl) (by first | exact Nat.le_refl _ | decide | (simp; done) | (simp; omega)) (Nat.zero_le _) (by rfl) ?_
                          simp only [AHeap.set_set, AVal.cells]
                          simp +decide only [aOps_nil, ev, absV, absS, putD, Slots.put, Slots.get, Slots.keep, if_true, if_false, true_and, ↓ap_assign, pop_assign, setAt, List.set_cons_zero, List.set_cons_succ, Nat.zero_add, Nat.reduceAdd]
                          apply hK; clear hK K
                          refine awp_ret ?_
                          try simp only [thenA_ret]
                          refine retA_ret h (by repeat (first | exact Sub.refl _ | assumption | refine Sub.trans_set ?_ (by assumption))) (?_) ?_
                          · simp +decide only [resPre, resV_tmp, resV_cell, Slots.get, if_true, if_false, and_true, resV_tmp, resV_cell, pLoad_agg ag38 sz38, rd_set, cellsAt, List.getD_cons_zero, List.getD_cons_succ, Nat.zero_add, Nat.reduceAdd, lv_bool, lv_int, lv_str, allLive, Bool.and_true, cellsAt, List.getD_cons_zero, List.getD_cons_succ, Nat.zero_add, Nat.reduceAdd, lv_bool, lv_int, lv_str, allLive, Bool.and_true]
                          
                          simp +decide only [Slots.get, if_true, if_false, and_true, resOfG_three, resV_tmp, resV_cell, pLoad_agg ag38 sz38, rd_set, cellsAt, List.getD_cons_zero, List.getD_cons_succ, Nat.zero_add, Nat.reduceAdd, lv_bool, lv_int, lv_str, allLive, Bool.and_true, cellsAt, List.getD_cons_zero, List.getD_cons_succ, Nat.zero_add, Nat.reduceAdd, lv_bool, lv_int, lv_str, allLive, Bool.and_true]
                          rfl
                  · try simp only [Bool.or_eq_false_iff] at hb13
                    have hw : ¬ (wordyB (peekE s i) = true ∧ peekE s i ≠ 45) := fun q => by
                      have := (word_or (peekE s i)).1 q
                      rw [hb13.1, hb13.2] at this
                      cases this
                    rw [if_neg hw]
                    refine awp_skip ?_
                    change Awp _ _ _ _ _ _ _
                    refine awp_seq ?_
                    refine awp_rseq [0, 1, 6, 242] (by kernel_rfl) fun K hK => ?_
                    refine aOps_hide fun O hO => ?_
                    have gd_5 : nthDst O 5 = some 211 := by rw [hO]; rfl
                    have gd_12 : nthDst O 12 = some 218 := by rw [hO]; rfl
                    have gd_20 : nthDst O 20 = some 226 := by rw [hO]; rfl
                    have gd_28 : nthDst O 28 = some 234 := by rw [hO]; rfl
                    clear hO
                    refine aOps_chunk 13 fun K' hK' => ?_
                    simp only [List.take_succ_cons, List.take_zero]
                    simp +decide only [aOps_nil, ev, absV, absS, putD, Slots.put, Slots.get, if_true, if_false, true_and, ↓ap_move, pop_move, ↓ap_binOp, pop_binOp, isNilC_int, cond_false, pBinX_int, pI_add, ↓ap_len, pop_len, pLen_str Tryz.underlying9, isNilC_tmp, pI_lss, ↓ag_move, agP, agQ_some, gKnown_bool, guardB_bool_true, cv_cv, implies_true, ↓ag_binOp, cv_binl, cp_binl, ↓ag_slice, pop_slice, evO, pSliceS_ii Tryz.underlying9, pSliceS, bndA_int, cv_slice, cp_slice, cv_slicelo, cp_slicelo, cv_slicehi, cp_slicehi, isNilC_str, pBinX_str, pS_eql, Int.toNat_natCast, w1, w2, z2, ← htwo, gd_5]
                    repeat (with_reducible refine And.intro ?_ ?_; · first | trivial | omega | (intro hg; simp only [decide_eq_true_eq] at hg; omega) )
                    apply hK'; clear hK' K'
                    simp only [List.drop_succ_cons, List.drop_zero]
                    refine aOps_chunk 13 fun K' hK' => ?_
                    simp only [List.take_succ_cons, List.take_zero]
                    simp +decide only [aOps_nil, ev, absV, absS, putD, Slots.put, Slots.get, if_true, if_false, true_and, ↓ag_move, pop_move, agP, agQ_some, gKnown_bool, gKnown_cond, guardB_cond, guardB_bool_true, guardB_bool_false, cv_cv, implies_true, ↓ag_binOp, pop_binOp, isNilC_int, cond_false, cv_binl, cp_binl, pBinX_int, pI_add, ↓ag_slice, pop_slice, evO, pSliceS_ii Tryz.underlying9, pSliceS, bndA_int, cv_slice, cp_slice, cv_slicelo, cp_slicelo, cv_slicehi, cp_slicehi, isNilC_str, pBinX_str, pS_eql, ↓ag_pick, pop_pick, pPick_bool, cp_nest2, pickV_or, cv_pick, cp_pick, Int.toNat_natCast, w2, z2, ← htwo, gd_5, gd_12, gd_20]
                    repeat (with_reducible refine And.intro ?_ ?_; · first | trivial | omega | (intro hg; simp only [Bool.and_eq_true, Bool.not_eq_true', Bool.or_eq_false_iff, decide_eq_true_eq, decide_eq_false_iff_not] at hg; omega) )
                    apply hK'; clear hK' K'
                    simp only [List.drop_succ_cons, List.drop_zero]
                    simp +decide only [aOps_nil, ev, absV, absS, putD, Slots.put, Slots.get, Slots.keep, if_true, if_false, true_and, ↓ag_binOp, pop_binOp, agP, agQ_some, gKnown_bool, gKnown_cond, guardB_cond, guardB_bool_true, guardB_bool_false, cv_cv, implies_true, isNilC_str, cond_false, cv_binl, cp_binl, pBinX_str, pS_eql, ↓ag_pick, pop_pick, pPick_bool, pickV_cond_l, cp_nest2, pickV_and, pickV_or, cv_pick, cp_pick, ↓ag_move, pop_move, isNilC_int, pBinX_int, pI_add, ↓ag_slice, pop_slice, evO, pSliceS_ii Tryz.underlying9, pSliceS, bndA_int, cv_slice, cp_slice, cv_slicelo, cp_slicelo, cv_slicehi, cp_slicehi, ↓ap_pick, Int.toNat_natCast, w2, z2, ← htwo, gd_5, gd_20, gd_28]
                    repeat (with_reducible refine And.intro ?_ ?_; · first | trivial | omega | (intro hg; simp only [Bool.and_eq_true, Bool.not_eq_true', Bool.or_eq_false_iff, decide_eq_true_eq, decide_eq_false_iff_not] at hg; omega) )
                    apply hK; clear hK K
                    refine awp_cond (b := _) rfl (fun hb17 => ?_) (fun hb17 => ?_)
                    · try simp only [decide_eq_true_eq, Bool.and_eq_true, Bool.or_eq_true] at hb17
                      have ht : i + 2 ≤ s.length ∧ (s.drop i).take 2 ∈ twos := by
                        refine ⟨by omega, ?_⟩
                        rw [← htwo]
                        rcases hb17.2 with ((q | q) | q) | q <;> subst q <;> decide
                      refine awp_rseq [6, 7, 8] (by rfl) fun K hK => ?_
                      simp +decide only [ev, absV, absS, putD, Slots.put, Slots.get, if_true, if_false, true_and, ↓ap_move, pop_move, ↓ap_binOp, pop_binOp, isNilC_int, cond_false, pBinX_int, pI_add, w2]
                      try simp +decide only [ev, absV, absS, putD, Slots.put, Slots.get, if_true, if_false, true_and, ↓ap_slice, pop_slice, evO, pSliceS_ii Tryz.underlying9, pSliceS, bndA_int, ↓ap_build, ↓pop_buildL, bld38_0_1, evP, List.map_cons, List.map_nil, ↓ap_move, pop_move, ↓ap_binOp, pop_binOp, isNilC_int, cond_false, pBinX_int, pI_add, Int.toNat_natCast, w2, z2, ← htwo]
                      repeat (with_reducible refine And.intro ?_ ?_; · first | trivial | omega | (intro hg; simp only [Bool.and_eq_true, Bool.or_eq_true, Bool.not_eq_true', Bool.and_eq_false_iff, Bool.or_eq_false_iff, Bool.not_eq_false', decide_eq_true_eq, decide_eq_false_iff_not, eqNil] at hg; omega) )
                      refine aOps_store (by rfl) (by rfl) (by repeat (first | exact AHeap.set_same _ _ _ | assumption | refine (AHeap.set_ne _ _ (by first | assumption | exact Ne.symm (by assumption))).trans ?_)) sz38 (by rfl) (by rfl) (by first | exact Nat.le_refl _ | decide | (simp; done) | (simp; omega)) (Nat.zero_le _) (by rfl) ?_
                      simp only [AHeap.set_set, AVal.cells]
                      simp +decide only [aOps_nil, ev, absV, absS, putD, Slots.put, Slots.get, Slots.keep, if_true, if_false, true_and, ↓ap_assign, pop_assign, setAt, List.set_cons_zero, List.set_cons_succ, Nat.zero_add, Nat.reduceAdd]
                      apply hK; clear hK K
                      refine awp_ret ?_
                      try simp only [thenA_ret]
                      refine retA_ret h (by repeat (first | exact Sub.refl _ | assumption | refine Sub.trans_set ?_ (by assumption))) (?_) ?_
                      · simp +decide only [resPre, resV_tmp, resV_cell, Slots.get, if_true, if_false, and_true, resV_tmp, resV_cell, pLoad_agg ag38 sz38, rd_set, cellsAt, List.getD_cons_zero, List.getD_cons_succ, Nat.zero_add, Nat.reduceAdd, lv_bool, lv_int, lv_str, allLive, Bool.and_true, cellsAt, List.getD_cons_zero, List.getD_cons_succ, Nat.zero_add, Nat.reduceAdd, lv_bool, lv_int, lv_str, allLive, Bool.and_true]
                      
                      simp +decide only [Slots.get, if_true, if_false, and_true, resOfG_three, resV_tmp, resV_cell, pLoad_agg ag38 sz38, rd_set, cellsAt, List.getD_cons_zero, List.getD_cons_succ, Nat.zero_add, Nat.reduceAdd, lv_bool, lv_int, lv_str, allLive, Bool.and_true, cellsAt, List.getD_cons_zero, List.getD_cons_succ, Nat.zero_add, Nat.reduceAdd, lv_bool, lv_int, lv_str, allLive, Bool.and_true]
                      rw [sign_two ht.1 ht.2]
                      unfold Tok.takeE
                      rw [← htwo]
                      rfl
                    · try simp only [decide_eq_false_iff_not, Bool.and_eq_false_iff, Bool.or_eq_false_iff] at hb17
                      have ht : ¬ (i + 2 ≤ s.length ∧ (s.drop i).take 2 ∈ twos) := by
                        rw [← htwo]
                        rintro ⟨q1, q2⟩
                        rcases hb17 with z | z
                        · omega
                        · simp only [twos, List.mem_cons, List.not_mem_nil, or_false] at q2
                          rcases q2 with q | q | q | q
                          · exact z.1.1.1 q
                          · exact z.1.1.2 q
                          · exact z.1.2 q
                          · exact z.2 q
                      obtain ⟨oc, hoc⟩ : ∃ oc, oc = ones.contains (peekE s i) := ⟨_, rfl⟩
                      clear hb17
                      refine awp_skip ?_
                      change Awp _ _ _ _ _ _ _
                      refine awp_seq ?_
                      refine awp_rseq [0, 1, 6, 254] (by rfl) fun K hK => ?_
                      simp +decide only [ev, putD, Slots.put, Slots.get, if_true, if_false, true_and, ↓ap_move, pop_move, ↓ap_index, pop_index, pIndex_str Tryz.underlying9, Int.toNat_natCast, hgi]
                      repeat (with_reducible refine And.intro ?_ ?_; · first | trivial | omega | (intro hg; simp only [Bool.and_eq_true, Bool.or_eq_true, Bool.not_eq_true', Bool.and_eq_false_iff, Bool.or_eq_false_iff, Bool.not_eq_false', decide_eq_true_eq, decide_eq_false_iff_not, eqNil] at hg; omega) )
                      refine aOps_callV (V := .bool oc) (by rfl) (by rfl) (by rw [hoc]; exact c_in w₀ _ (peekE s i) ones (by decide)) ?_
                      simp +decide only [aOps_nil, putD, Slots.put, Slots.keep, if_true, if_false]
                      apply hK; clear hK K
                      refine awp_cond (b := _) rfl (fun hb18 => ?_) (fun hb18 => ?_)
                      · skip
                        refine awp_rseq [6, 7, 8] (by rfl) fun K hK => ?_
                        simp +decide only [ev, absV, absS, putD, Slots.put, Slots.get, if_true, if_false, true_and, ↓ap_move, pop_move, ↓ap_binOp, pop_binOp, isNilC_int, cond_false, pBinX_int, pI_add, w1]
                        try simp +decide only [ev, absV, absS, putD, Slots.put, Slots.get, if_true, if_false, true_and, ↓ap_slice, pop_slice, evO, pSliceS_ii Tryz.underlying9, pSliceS, bndA_int, ↓ap_build, ↓pop_buildL, bld38_0_1, evP, List.map_cons, List.map_nil, ↓ap_move, pop_move, ↓ap_binOp, pop_binOp, isNilC_int, cond_false, pBinX_int, pI_add, Int.toNat_natCast, w1, z1]
                        repeat (with_reducible refine And.intro ?_ ?_; · first | trivial | omega | (intro hg; simp only [Bool.and_eq_true, Bool.or_eq_true, Bool.not_eq_true', Bool.and_eq_false_iff, Bool.or_eq_false_iff, Bool.not_eq_false', decide_eq_true_eq, decide_eq_false_iff_not, eqNil] at hg; omega) )
                        refine aOps_store (by rfl) (by rfl) (by repeat (first | exact AHeap.set_same _ _ _ | assumption | refine (AHeap.set_ne _ _ (by first | assumption | exact Ne.symm (by assumption))).trans ?_)) sz38 (by rfl) (by rfl) (by first | exact Nat.le_refl _ | decide | (simp; done) | (simp; omega)) (Nat.zero_le _) (by rfl) ?_
                        simp only [AHeap.set_set, AVal.cells]
                        simp +decide only [aOps_nil, ev, absV, absS, putD, Slots.put, Slots.get, Slots.keep, if_true, if_false, true_and, ↓ap_assign, pop_assign, setAt, List.set_cons_zero, List.set_cons_succ, Nat.zero_add, Nat.reduceAdd]
                        apply hK; clear hK K
                        refine awp_ret ?_
                        try simp only [thenA_ret]
                        refine retA_ret h (by repeat (first | exact Sub.refl _ | assumption | refine Sub.trans_set ?_ (by assumption))) (?_) ?_
                        · simp +decide only [resPre, resV_tmp, resV_cell, Slots.get, if_true, if_false, and_true, resV_tmp, resV_cell, pLoad_agg ag38 sz38, rd_set, cellsAt, List.getD_cons_zero, List.getD_cons_succ, Nat.zero_add, Nat.reduceAdd, lv_bool, lv_int, lv_str, allLive, Bool.and_true, cellsAt, List.getD_cons_zero, List.getD_cons_succ, Nat.zero_add, Nat.reduceAdd, lv_bool, lv_int, lv_str, allLive, Bool.and_true]
                        
                        simp +decide only [Slots.get, if_true, if_false, and_true, resOfG_three, resV_tmp, resV_cell, pLoad_agg ag38 sz38, rd_set, cellsAt, List.getD_cons_zero, List.getD_cons_succ, Nat.zero_add, Nat.reduceAdd, lv_bool, lv_int, lv_str, allLive, Bool.and_true, cellsAt, List.getD_cons_zero, List.getD_cons_succ, Nat.zero_add, Nat.reduceAdd, lv_bool, lv_int, lv_str, allLive, Bool.and_true]
                        rw [sign_one hi ht (by rw [hgi, ← hoc]; exact hb18)]
                        rfl
                      · skip
                        refine awp_skip ?_
                        change Awp _ _ _ _ _ _ _
                        refine awp_rseq [6, 7, 8] (by rfl) fun K hK => ?_
                        simp +decide only [ev, absV, absS, putD, Slots.put, Slots.get, if_false, true_and, ↓ap_build, ↓pop_buildL, bld38_, evP, List.map_nil]
                        refine aOps_store (by rfl) (by rfl) (by repeat (first | exact AHeap.set_same _ _ _ | assumption | refine (AHeap.set_ne _ _ (by first | assumption | exact Ne.symm (by assumption))).trans ?_)) sz38 (by rfl) (by rfl) (by first | exact Nat.le_refl _ | decide | (simp; done) | (simp; omega)) (Nat.zero_le _) (by rfl) ?_
                        simp only [AHeap.set_set, AVal.cells]
                        simp +decide only [aOps_nil, ev, absV, absS, putD, Slots.put, Slots.get, Slots.keep, if_true, if_false, true_and, ↓ap_assign, pop_assign, setAt, List.set_cons_zero, List.set_cons_succ, Nat.zero_add, Nat.reduceAdd]
                        apply hK; clear hK K
                        refine awp_ret ?_
                        refine retA_ret h (by repeat (first | exact Sub.refl _ | assumption | refine Sub.trans_set ?_ (by assumption))) (?_) ?_
                        · simp +decide only [resPre, resV_tmp, resV_cell, Slots.get, if_true, if_false, and_true, resV_tmp, resV_cell, pLoad_agg ag38 sz38, rd_set, cellsAt, List.getD_cons_zero, List.getD_cons_succ, Nat.zero_add, Nat.reduceAdd, lv_bool, lv_int, lv_str, allLive, Bool.and_true, cellsAt, List.getD_cons_zero, List.getD_cons_succ, Nat.zero_add, Nat.reduceAdd, lv_bool, lv_int, lv_str, allLive, Bool.and_true]
                        
                        simp +decide only [Slots.get, if_true, if_false, and_true, resOfG_three, resV_tmp, resV_cell, pLoad_agg ag38 sz38, rd_set, cellsAt, List.getD_cons_zero, List.getD_cons_succ, Nat.zero_add, Nat.reduceAdd, lv_bool, lv_int, lv_str, allLive, Bool.and_true, cellsAt, List.getD_cons_zero, List.getD_cons_succ, Nat.zero_add, Nat.reduceAdd, lv_bool, lv_int, lv_str, allLive, Bool.and_true]
                        rw [sign_no hi ht (by rw [hgi, ← hoc]; exact hb18)]
                        rfl
end Go.Proofs.YtmadddihphkmoaaGreatDoor

/-
  Contracts: Scan of the reference.
  Conditions: none.
-/
namespace Go.Proofs.YtmadddihphkmoaaGreatDoor
open Go.AM
open Go.Proofs
open Go.Col
open Go.Tok
open Go.RowKit (Below)
set_option maxRecDepth 100000

/-- What the reference's Scan computes. -/
def refGo : List CardC → List TokC → List TokC × FaultC
  | [], l => (l, okF)
  | c :: r, l => if (cardR c 0 l).2 ≠ okF then ([], (cardR c 0 l).2) else refGo r (cardR c 0 l).1
def lenSum (cs : List CardC) : Nat := (cs.map fun c => c.text.length).sum
theorem cardR_skip {c : CardC} {i : Nat} {l : List TokC} (hi : i < c.text.length) (h : skp c.text (picE l).1 i) : cardR c i l = cardR c (i + 1) l := by
  have e : skipE c.text (picE l).1 i = skipE c.text (picE l).1 (i + 1) := by rw [skipE_step c.text (picE l).1 i, if_neg (by omega), if_pos h]
  rw [cardR_step c i l, cardR_step c (i + 1) l, e]
theorem cardR_tok {c : CardC} {i : Nat} {l : List TokC} (hi : i < c.text.length) (h : ¬ skp c.text (picE l).1 i) : cardR c i l =
    if errE (nextE c.text i l) l.length ≠ 0 then (l, ⟨errE (nextE c.text i l) l.length, (atE c i).1, (atE c i).2.1⟩)
    else cardR c (i + (nextE c.text i l).n) (l ++ [tokAt c i (nextE c.text i l)]) := by
  have e : skipE c.text (picE l).1 i = i := by rw [skipE_step c.text (picE l).1 i, if_neg (by omega), if_neg h]
  rw [cardR_step c i l, e, if_neg (by omega)]
theorem cardR_end {c : CardC} {i : Nat} {l : List TokC} (hi : c.text.length ≤ i) : cardR c i l = (l, okF) := by
  have := skipE_ge c.text (picE l).1 i
  rw [cardR_step c i l, if_pos (by omega)]
theorem refGo_next {cs : List CardC} {i : Nat} (hi : i < cs.length) (l : List TokC) : refGo (cs.drop i) l = if (cardR (cs.getD i ⟨false, [], []⟩) 0 l).2 ≠ okF then ([], (cardR (cs.getD i ⟨false, [], []⟩) 0 l).2) else refGo (cs.drop (i + 1)) (cardR (cs.getD i ⟨false, [], []⟩) 0 l).1 := by
  rw [List.drop_eq_getElem_cons hi, refGo]
  simp [List.getD, hi]
theorem lenSum_take {cs : List CardC} {i : Nat} (hi : i < cs.length) : lenSum (cs.take (i + 1)) = lenSum (cs.take i) + (cs.getD i ⟨false, [], []⟩).text.length := by
  unfold lenSum
  rw [List.take_add_one, List.getElem?_eq_getElem hi, List.map_append, List.sum_append]
  simp [List.getD, hi]
theorem lenSum_le (cs : List CardC) (i : Nat) : lenSum (cs.take i) ≤ lenSum cs := by
  conv => rhs; rw [← List.take_append_drop i cs]
  unfold lenSum
  rw [List.map_append, List.sum_append]
  omega
theorem sep_in (b : UInt8) : [44, 59].contains b = sepB b := by
  rw [Bool.eq_iff_iff]
  simp [sepB]
structure RfSG where
  i : Nat
  l : List TokC
  tb : Option Buf
structure RfSOk (B : AHeap) (cs : List CardC) (g : RfSG) : Prop where
  ok : bufOk B 5 g.tb
  eq : bufC g.tb = (g.l.map tokC).flatten
  i : g.i ≤ cs.length
  go : refGo (cs.drop g.i) g.l = refGo cs []
  len : g.l.length ≤ lenSum (cs.take g.i)
structure RfTOk (B : AHeap) (c : CardC) (R : List TokC × FaultC) (N : Nat) (g : RfSG) : Prop where
  ok : bufOk B 5 g.tb
  eq : bufC g.tb = (g.l.map tokC).flatten
  i : g.i ≤ c.text.length
  go : cardR c g.i g.l = R
  len : g.l.length ≤ N + g.i
set_option maxHeartbeats 2000000 in
theorem c_refScan (w₀ : World) (h : AHeap) (v : AVal) (cs : List CardC) (hc : IsCards w₀ h v cs) (hn : cs.length ≤ 4611686018427387904) (hml : ∀ c ∈ cs, c.marks.length ≤ 4611686018427387904) (hL : lenSum cs ≤ 65535) :
    ACall Tryz.prog w₀ 13 [v] h (fun r h' => ∃ tb, r = .tuple [bufV 5 tb, faultA (refGo cs []).2] ∧ bufOk h 5 tb ∧ bufC tb = ((refGo cs []).1.map tokC).flatten ∧ h' = bufH h tb) := by
  have hlv := hc.liveT
  have hln := hc.lenT
  refine acall_intro (n := 92) (rs := [.tmp 2, .cell 3 31]) Tryz.func13 rfl rfl rfl rfl (Nat.le_of_ble_eq_true rfl) ?_
  simp only [initSlots]
  refine awp_rseq [0, 3] (by rfl) fun K hK => ?_
  simp +decide only [ev, absV, absS, putD, Slots.put, if_false, true_and, ↓ap_assign, pop_assign]
  refine aOps_alloc ze31 (cs := [.int .i64 0, .int .i64 0, .int .i64 0]) (by rfl) fun k0q1 hk0q1 => ?_
  try have hf_0q1 : h k0q1 = none := by first | assumption | (simp only [AHeap.set_none] at hk0q1; simp only [hk0q1])
  simp +decide only [aOps_nil, putD, Slots.put, Slots.keep, if_true, if_false]
  apply hK; clear hK K
  refine awp_rseq [0, 3, 4] (by rfl) fun K hK => ?_
  simp +decide only [aOps_nil, ev, absV, absS, putD, Slots.put, Slots.keep, if_true, if_false, true_and, ↓ap_assign, pop_assign]
  apply hK; clear hK K
  refine awp_seq ?_
  refine awp_rseq [0, 3, 4, 5] (by rfl) fun K hK => ?_
  simp +decide only [aOps_nil, ev, absV, absS, putD, Slots.put, Slots.keep, if_true, if_false, true_and, ↓ap_assign, pop_assign]
  obtain ⟨B, hB⟩ : ∃ B, B = h.set k0q1 ⟨[.int .i64 0, .int .i64 0, .int .i64 0], 0⟩ := ⟨_, rfl⟩
  have hBs : Sub h B := by rw [hB]; exact Sub.set hk0q1
  have hBk : B k0q1 = some ⟨[.int .i64 0, .int .i64 0, .int .i64 0], 0⟩ := by rw [hB]; exact AHeap.set_same _ _ _
  rw [← hB]
  apply hK; clear hK K
  refine awp_block ?_
  refine awp_loopG [0, 3, 4, 5] (fun g : RfSG => [(0, v), (3, .ptr (.own k0q1) 0), (4, bufV 5 g.tb), (5, .int .i64 g.i)]) (fun g : RfSG => bufH B g.tb) (fun g : RfSG => RfSOk B cs g) (fun g : RfSG => cs.length - g.i) ⟨0, [], none⟩ (by rfl) (Sub.refl _) ⟨trivial, rfl, Nat.zero_le _, rfl, Nat.zero_le _⟩ ?_
  rintro ⟨i, l, tb⟩ ⟨i1, i2, i3, i4, i5⟩
  simp only at i1 i2 i3 i4 i5 ⊢
  have hSb : Sub h (bufH B tb) := hBs.trans (Sub.buf i1)
  have hbl := bufV_live 5 tb
  refine awp_seq ?_
  refine awp_rseq [0, 3, 4, 5, 18] (by rfl) fun K hK => ?_
  simp +decide only [aOps_nil, ev, putD, Slots.put, Slots.get, Slots.keep, if_true, if_false, true_and, ↓ap_move, pop_move, ↓ap_len, pop_len, ↓ap_binOp, pop_binOp, isNilC_tmp, cond_false, pBinX_int, pI_lss, hln]
  apply hK; clear hK K
  refine awp_cond (b := _) rfl (fun hb1 => ?_) (fun hb1 => ?_)
  · try simp only [decide_eq_true_eq] at hb1
    have hi : i < cs.length := by omega
    obtain ⟨lc, o, cp, rfl⟩ := hc.openT (by omega)
    obtain ⟨mv, e3, e0, e1, e2⟩ := cardT_nth hc hi
    obtain ⟨c, hcc⟩ : ∃ c, c = cs.getD i ⟨false, [], []⟩ := ⟨_, rfl⟩
    have hnext := refGo_next hi l
    have hsum := lenSum_take hi
    have hsle := lenSum_le cs (i + 1)
    rw [← hcc] at e0 e1 e3 hnext hsum
    rw [i4] at hnext
    have hcm := hml c (by rw [hcc, List.getD, List.getElem?_eq_getElem hi]; exact List.getElem_mem hi)
    have hmv := e3.live
    have e1' := rd_subT e1 rfl hSb
    obtain ⟨N, hN⟩ : ∃ N, N = lenSum (cs.take i) := ⟨_, rfl⟩
    rw [← hN] at hsum i5
    rw [hsum] at hsle
    refine awp_skip ?_
    change Awp _ _ _ _ _ _ _
    refine awp_seq ?_
    refine awp_block ?_
    refine awp_rseq [0, 3, 4, 5, 6] (by rfl) fun K hK => ?_
    simp +decide only [aOps_nil, ev, putD, Slots.put, Slots.get, Slots.keep, if_true, if_false, true_and, ↓ap_move, pop_move, ↓ap_indexAddrL, apL_mk, pIndexAddr_slice Tryz.underlying40 sz48, ↓ap_fieldAddr, pop_fieldAddr, fa48_1, ↓ap_loadL, pLoad_one ag9, ↓ap_assign, pop_assign, lv_str, e1', Int.toNat_natCast]
    repeat (with_reducible refine And.intro ?_ ?_; · first | trivial | omega | (intro hg; simp only [Bool.and_eq_true, Bool.or_eq_true, Bool.not_eq_true', Bool.and_eq_false_iff, Bool.or_eq_false_iff, Bool.not_eq_false', decide_eq_true_eq, decide_eq_false_iff_not, eqNil] at hg; omega) )
    apply hK; clear hK K
    refine awp_rseq [0, 3, 4, 5, 6, 7] (by rfl) fun K hK => ?_
    simp +decide only [aOps_nil, ev, absV, absS, putD, Slots.put, Slots.keep, if_true, if_false, true_and, ↓ap_assign, pop_assign]
    apply hK; clear hK K
    refine awp_block ?_
    refine awp_loopG [0, 3, 4, 5, 6, 7] (fun g : RfSG => [(0, .slice lc o cs.length cp), (3, .ptr (.own k0q1) 0), (4, bufV 5 g.tb), (5, .int .i64 i), (6, .str c.text), (7, .int .i64 g.i)]) (fun g : RfSG => bufH B g.tb) (fun g : RfSG => RfTOk B c (cardR c 0 l) N g) (fun g : RfSG => c.text.length - g.i) ⟨0, l, tb⟩ (by rfl) (Sub.refl _) ⟨i1, i2, Nat.zero_le _, rfl, i5⟩ ?_
    rintro ⟨j, l1, tb1⟩ ⟨j1, j2, j3, j4, j5⟩
    simp only at j1 j2 j3 j4 j5 ⊢
    refine awp_seq ?_
    refine awp_rseq [0, 3, 4, 5, 6, 7, 29] (by rfl) fun K hK => ?_
    simp +decide only [aOps_nil, ev, putD, Slots.put, Slots.get, Slots.keep, if_true, if_false, true_and, ↓ap_move, pop_move, ↓ap_len, pop_len, pLen_str Tryz.underlying9, ↓ap_binOp, pop_binOp, isNilC_tmp, cond_false, pBinX_int, pI_lss]
    apply hK; clear hK K
    refine awp_cond (b := _) rfl (fun hb2 => ?_) (fun hb2 => ?_)
    · try simp only [decide_eq_true_eq] at hb2
      have hj : j < c.text.length := by omega
      refine awp_skip ?_
      change Awp _ _ _ _ _ _ _
      refine awp_block ?_
      refine awp_seq ?_
      obtain ⟨H1, hH1⟩ : ∃ H1, H1 = bufH B tb1 := ⟨_, rfl⟩
      have hs_H1 : Sub h H1 := by rw [hH1]; exact hBs.trans (Sub.buf j1)
      have eb_0q1 : H1 k0q1 = some ⟨[.int .i64 0, .int .i64 0, .int .i64 0], 0⟩ := by rw [hH1]; exact bufAt j1 hBk
      have htk : IsL w₀ H1 5 (bufV 5 tb1) (l1.map tokC) := IsL.buf j1 (by decide) j2 tokC_wide (by rw [hH1]; exact Sub.refl _)
      have hbl1 := bufV_live 5 tb1
      have hmc : IsL w₀ H1 3 mv (c.marks.map markC) := e3.mono hs_H1
      have e0' := rd_subT e0 rfl hs_H1
      have e1'' := rd_subT e1 rfl hs_H1
      have e2' := rd_subT e2 hmv hs_H1
      have hgj : c.text.getD j 0 = peekE c.text j := (peekE_lt hj).symm
      have hbl : ∀ g : AHeap, ACall Tryz.prog w₀ 31 [.str c.text, .int .i64 ((j : Int) + 1)] g (fun v h' => v = .bool (decide (peekE c.text ((j : Int) + 1) = 32)) ∧ h' = g) := fun g => c_blank w₀ g c.text (j + 1) (by omega) (by omega)
      have e32 : decide (((peekE c.text j).toNat : Int) = 32) = decide (peekE c.text j = 32) := decide_eq_decide.2 (iff_of_eq (u8_eq _ 32))
      show Awp _ _ _ _ _ _ (bufH B tb1)
      rw [← hH1]
      refine awp_rseq [0, 3, 4, 5, 6, 7, 8] (by rfl) fun K hK => ?_
      simp +decide only [ev, putD, Slots.put, Slots.get, if_true, if_false, true_and, ↓ap_move, pop_move]
      refine aOps_callV (V := .tuple [.bool (picE l1).1, .bool (picE l1).2]) (by rfl) (by rfl) (c_rpic w₀ _ _ l1 (htk.mono (by repeat (first | exact Sub.refl _ | assumption | refine Sub.set_both ?_ _ _ | refine Sub.trans_set ?_ (by repeat (first | assumption | refine (AHeap.set_ne _ _ (by first | assumption | exact Ne.symm (by assumption))).trans ?_))))) (by omega)) ?_
      simp +decide only [aOps_nil, ev, putD, Slots.put, Slots.get, Slots.keep, if_true, if_false, true_and, ↓ap_move, pop_move, ↓ap_extract, pop_extract, pExt_tuple, List.length_cons, List.length_nil, List.getD_cons_zero, List.getD_cons_succ, ↓ap_assign, pop_assign, List.getD_cons_zero, List.getD_cons_succ, Nat.zero_add, Nat.reduceAdd]
      apply hK; clear hK K
      refine awp_rseq [0, 3, 4, 5, 6, 7, 54] (by rfl) fun K hK => ?_
      simp +decide only [ev, absV, absS, putD, Slots.put, Slots.get, if_true, if_false, true_and, ↓ap_move, pop_move, ↓ap_index, pop_index, pIndex_str Tryz.underlying9, ↓ap_binOp, pop_binOp, isNilC_int, cond_false, pBinX_int, pI_eql, ↓ag_move, agP, agQ_some, nthDst, gKnown_bool, gKnown_cond, guardB_cond, guardB_bool_true, guardB_bool_false, cv_cv, implies_true, ↓ag_unOp, pop_unOp, pU_not, cv_un, cp_un, ↓ag_index, cv_indexl, cv_indexr, cp_indexl, cp_indexr, Int.toNat_natCast, hgj, e32]
      repeat (with_reducible refine And.intro ?_ ?_; · first | trivial | omega | (intro hg; simp only [Bool.and_eq_true, Bool.or_eq_true, Bool.not_eq_true', Bool.and_eq_false_iff, Bool.or_eq_false_iff, Bool.not_eq_false', decide_eq_true_eq, decide_eq_false_iff_not, eqNil] at hg; omega) )
      (refine aOps_gcall (V := .bool (sepB (peekE c.text j))) (f := _) (cap := _) (xs := _) (by first | rfl | (simp +decide only [gv, nthDst, Slots.get, if_true, if_false, gKnown_cond])) (fun hg => ⟨rfl, ?_⟩) (fun hg => by rw [← sep_in]; exact c_in w₀ _ _ [44, 59] (by decide)) ?_; · (simp +decide only [gv, nthDst, Slots.get, if_true, if_false, guardB_bool_true, guardB_cond] at hg; simp +decide only [evs, ev, Slots.get, if_true, if_false, hg, condV_true, List.append_nil, List.map_cons, List.map_nil, absV, absS] <;> try rfl))
      simp +decide only [ev, absV, absS, putD, Slots.put, Slots.get, if_true, if_false, true_and, gv, nthDst, guardB_bool_true, guardB_bool_false, guardB_cond, ↓ag_pick, pop_pick, agP, agQ_some, gKnown_bool, gKnown_cond, cv_cv, implies_true, pPick_bool, cp_nest1, pickV_and, cv_pick, cp_pick, ↓ag_move, pop_move, ↓ag_binOp, pop_binOp, isNilC_int, cond_false, cv_binl, cp_binl, pBinX_int, pI_add]
      try simp (disch := omega) only [wrap_i64]
      (refine aOps_gcall (V := .bool (decide (peekE c.text ((j : Int) + 1) = 32))) (f := _) (cap := _) (xs := _) (by first | rfl | (simp +decide only [gv, nthDst, Slots.get, if_true, if_false, gKnown_cond])) (fun hg => ⟨rfl, ?_⟩) (fun hg => hbl _) ?_; · (simp +decide only [gv, nthDst, Slots.get, if_true, if_false, guardB_bool_true, guardB_cond] at hg; simp +decide only [evs, ev, Slots.get, if_true, if_false, hg, condV_true, List.append_nil, List.map_cons, List.map_nil] <;> try rfl))
      simp +decide only [aOps_nil, ev, absV, absS, putD, Slots.put, Slots.get, Slots.keep, if_true, if_false, true_and, gv, nthDst, guardB_bool_true, guardB_bool_false, guardB_cond, ↓ag_pick, pop_pick, agP, agQ_some, gKnown_bool, implies_true, pPick_bool, pickV_cond_r, cp_nest1, pickV_and, pickV_or, cv_pick, cp_pick, ↓ap_pick]
      apply hK; clear hK K
      refine awp_cond (b := _) rfl (fun hb3 => ?_) (fun hb3 => ?_)
      · try simp only [decide_eq_true_eq, Bool.not_eq_true', Bool.and_eq_true, Bool.or_eq_true] at hb3
        have hsk : skp c.text (picE l1).1 j := by
          unfold skp
          rcases hb3 with q | q
          · exact .inl q
          · exact .inr ⟨q.1.1, q.1.2, q.2⟩
        rw [cardR_skip hj hsk] at j4
        refine awp_rseq [0, 3, 4, 5, 6, 7] (by rfl) fun K hK => ?_
        simp +decide only [aOps_nil, ev, absV, absS, putD, Slots.put, Slots.get, Slots.keep, if_true, if_false, true_and, ↓ap_move, pop_move, ↓ap_binOp, pop_binOp, isNilC_int, cond_false, pBinX_int, pI_add, ↓ap_assign, pop_assign]
        try simp (disch := omega) only [wrap_i64]
        apply hK; clear hK K
        refine awp_exit ?_
        first
        | exact ⟨⟨j + 1, l1, tb1⟩, rfl, by rw [hH1]; exact Sub.refl _, ⟨j1, j2, hj, j4, by simp only; omega⟩, by simp only; omega⟩
        | exact ⟨⟨j + t.n, l1 ++ [tokAt c j t], tb2⟩, by rw [hk]; rfl, Sub.refl _, ⟨o1, by rw [o2, List.map_append]; rfl, hn1, j4, by simp only [List.length_append, List.length_cons, List.length_nil]; omega⟩, by simp only; omega⟩
      · try simp only [decide_eq_false_iff_not, Bool.not_eq_false', Bool.and_eq_false_iff, Bool.or_eq_false_iff] at hb3
        have hsk : ¬ skp c.text (picE l1).1 j := by
          unfold skp
          rintro (q | ⟨q1, q2, q3⟩)
          · exact hb3.1 q
          · rcases hb3.2 with (z | z) | z
            · rw [q1] at z; cases z
            · rw [q2] at z; cases z
            · exact z q3
        have h32 : peekE c.text j ≠ 32 := hb3.1
        clear hb3
        rw [cardR_tok hj hsk] at j4
        obtain ⟨t, ht⟩ : ∃ t, t = nextE c.text j l1 := ⟨_, rfl⟩
        rw [← ht] at j4
        have hee : errE t l1.length = t.e := by unfold errE; rw [if_neg (fun q => by omega)]
        rw [hee] at j4
        obtain ⟨k, hk⟩ : ∃ k, k = (if t.e = 0 then ((j + t.n : Nat) : Int) else 0) := ⟨_, rfl⟩
        refine awp_skip ?_
        change Awp _ _ _ _ _ _ _
        refine awp_rseq [0, 3, 4, 5, 6, 7, 10] (by rfl) fun K hK => ?_
        simp +decide only [ev, putD, Slots.put, Slots.get, if_true, if_false, true_and, ↓ap_move, pop_move, ↓ap_indexAddrL, apL_mk, pIndexAddr_slice Tryz.underlying40 sz48, ↓ap_loadL, pLoad_agg ag48 sz48, cellsAt, lv_bool, lv_str, allLive, Bool.and_true, e0', e1'', e2', hmv, Int.toNat_natCast]
        repeat (with_reducible refine And.intro ?_ ?_; · first | trivial | omega | (intro hg; simp only [Bool.and_eq_true, Bool.or_eq_true, Bool.not_eq_true', Bool.and_eq_false_iff, Bool.or_eq_false_iff, Bool.not_eq_false', decide_eq_true_eq, decide_eq_false_iff_not, eqNil] at hg; omega) )
        refine aOps_callV (V := .tuple [posA (atE c j).1 (atE c j).2.1, .int .i64 (atE c j).2.2]) (by rfl) (by rfl) (c_At w₀ _ c mv j (hmc.mono (by repeat (first | exact Sub.refl _ | assumption | refine Sub.set_both ?_ _ _ | refine Sub.trans_set ?_ (by repeat (first | assumption | refine (AHeap.set_ne _ _ (by first | assumption | exact Ne.symm (by assumption))).trans ?_))))) hcm (by omega) (by omega)) ?_
        simp +decide only [ev, putD, Slots.put, Slots.get, if_true, if_false, true_and, ↓ap_move, pop_move, ↓ap_extract, pop_extract, pExt_tuple, List.length_cons, List.length_nil, List.getD_cons_zero, List.getD_cons_succ, List.getD_cons_zero, List.getD_cons_succ, Nat.zero_add, Nat.reduceAdd, posA]
        refine aOps_alloc ze29 (cs := [.int .i64 0, .int .i64 0]) (by rfl) fun k11q9 hk11q9 => ?_
        have hn_11q9 : H1 k11q9 = none := by first | assumption | (simp only [AHeap.set_none] at hk11q9; simp only [hk11q9])
        have hf_11q9 : h k11q9 = none := Sub.none hs_H1 hn_11q9
        have ne_11q9_0q1 : k11q9 ≠ k0q1 := AHeap.ne_some hn_11q9 eb_0q1
        refine aOps_store (by rfl) (by rfl) (by repeat (first | exact AHeap.set_same _ _ _ | assumption | refine (AHeap.set_ne _ _ (by first | assumption | exact Ne.symm (by assumption))).trans ?_)) sz29 (by rfl) (by rfl) (by first | exact Nat.le_refl _ | decide | (simp; done) | (simp; omega)) (Nat.zero_le _) (by rfl) ?_
        simp only [AHeap.set_set, AVal.cells]
        simp +decide only [aOps_nil, ev, putD, Slots.put, Slots.get, Slots.keep, if_true, if_false, true_and, ↓ap_assign, pop_assign, setAt, List.set_cons_zero, List.set_cons_succ, Nat.zero_add]
        apply hK; clear hK K
        refine awp_rseq [0, 3, 4, 5, 6, 10, 12, 13, 14] (by rfl) fun K hK => ?_
        simp +decide only [ev, putD, Slots.put, Slots.get, if_true, if_false, true_and, ↓ap_move, pop_move]
        refine aOps_callV (V := .tuple [nxA t, .int .i64 k, .int .i64 t.e]) (by rfl) (by rfl) (by rw [hk, ht]; exact c_token w₀ _ c.text j _ l1 (htk.mono (by repeat (first | exact Sub.refl _ | assumption | refine Sub.set_both ?_ _ _ | refine Sub.trans_set ?_ (by repeat (first | assumption | refine (AHeap.set_ne _ _ (by first | assumption | exact Ne.symm (by assumption))).trans ?_))))) (by omega) h32 (by omega)) ?_
        simp +decide only [ev, putD, Slots.put, Slots.get, if_true, if_false, true_and, ↓ap_move, pop_move, ↓ap_extract, pop_extract, pExt_tuple, List.length_cons, List.length_nil, List.getD_cons_zero, List.getD_cons_succ, List.getD_cons_zero, List.getD_cons_succ, Nat.zero_add, Nat.reduceAdd, nxA]
        refine aOps_alloc ze38 (cs := [.int .u8 0, .str [], .int .i64 0, .int .i64 0, .bool false]) (by rfl) fun k12q8 hk12q8 => ?_
        have ne_12q8_11q9 : k12q8 ≠ k11q9 := by simp only [AHeap.set_none] at hk12q8; simp only [hk12q8, ne_eq, not_false_eq_true]
        have hn_12q8 : H1 k12q8 = none := by first | assumption | (simp only [AHeap.set_none] at hk12q8; simp only [hk12q8])
        have hf_12q8 : h k12q8 = none := Sub.none hs_H1 hn_12q8
        have ne_12q8_0q1 : k12q8 ≠ k0q1 := AHeap.ne_some hn_12q8 eb_0q1
        refine aOps_store (by rfl) (by rfl) (by repeat (first | exact AHeap.set_same _ _ _ | assumption | refine (AHeap.set_ne _ _ (by first | assumption | exact Ne.symm (by assumption))).trans ?_)) sz38 (by rfl) (by rfl) (by first | exact Nat.le_refl _ | decide | (simp; done) | (simp; omega)) (Nat.zero_le _) (by rfl) ?_
        simp only [AHeap.set_set, AVal.cells]
        simp +decide only [aOps_nil, ev, putD, Slots.put, Slots.get, Slots.keep, if_true, if_false, true_and, ↓ap_assign, pop_assign, setAt, List.set_cons_zero, List.set_cons_succ, Nat.zero_add, Nat.reduceAdd]
        apply hK; clear hK K
        refine awp_seq ?_
        refine awp_rseq [0, 3, 4, 5, 6, 10, 12, 13, 14, 75] (by rfl) fun K hK => ?_
        simp +decide only [aOps_nil, ev, absV, absS, putD, Slots.put, Slots.get, Slots.keep, if_true, if_false, true_and, ↓ap_move, pop_move, ↓ap_binOp, pop_binOp, isNilC_int, cond_false, pBinX_int, pI_neq]
        apply hK; clear hK K
        refine awp_cond (b := _) rfl (fun hb4 => ?_) (fun hb4 => ?_)
        · try simp only [decide_eq_false_iff_not, Bool.not_eq_true'] at hb4
          rw [if_pos hb4] at j4
          have hres : refGo cs [] = ([], ⟨t.e, (atE c j).1, (atE c j).2.1⟩) := by
            rw [hnext, ← j4, if_pos]
            intro e
            exact hb4 (congrArg FaultC.e e)
          refine awp_dseq_tail 4 [2, 3] mixed (by kernel_rfl) (by rfl) (by rfl) fun K hK => ?_
          simp +decide only [ev, absV, absS, putD, Slots.put, Slots.get, if_true, if_false, true_and, ↓ap_move, pop_move, ↓ap_loadL, apL_mk, pLoad_agg ag29 sz29, ↓ap_build, ↓pop_buildL, bld31_0_1, evP, List.map_cons, List.map_nil, ↓ap_assign, pop_assign, rd_ne', ne_eq, not_false_eq_true, ne_12q8_11q9.symm, rd_any, cellsAt, List.getD_cons_zero, List.getD_cons_succ, Nat.zero_add, lv_int, allLive, Bool.and_true]
          refine aOps_store (by rfl) (by rfl) (by repeat (first | exact AHeap.set_same _ _ _ | assumption | refine (AHeap.set_ne _ _ (by first | assumption | exact Ne.symm (by assumption))).trans ?_)) sz31 (by rfl) (by rfl) (by first | exact Nat.le_refl _ | decide | (simp; done) | (simp; omega)) (Nat.zero_le _) (by rfl) ?_
          simp only [AVal.cells]
          simp +decide only [aOps_nil, ev, putD, Slots.get, Slots.keep, if_true, if_false, setAt, List.set_cons_zero, List.set_cons_succ, Nat.zero_add, Nat.reduceAdd]
          apply hK; clear hK K
          refine awp_ret ?_
          try simp only [thenA_ret, inBlockA_ret]
          refine retA_ret h (by repeat (first | exact Sub.refl _ | assumption | refine Sub.set_both ?_ _ _ | refine Sub.trans_set ?_ (by repeat (first | assumption | refine (AHeap.set_ne _ _ (by first | assumption | exact Ne.symm (by assumption))).trans ?_)))) (?_) ?_
          · simp +decide only [resPre, resV_tmp, resV_cell, Slots.get, if_true, if_false, and_true, resV_tmp, resV_cell, pLoad_agg ag31 sz31, rd_set, cellsAt, List.getD_cons_zero, List.getD_cons_succ, Nat.zero_add, Nat.reduceAdd, lv_int, allLive, Bool.and_true, cellsAt, List.getD_cons_zero, List.getD_cons_succ, Nat.zero_add, Nat.reduceAdd, lv_int, allLive, Bool.and_true]
          
          simp +decide only [Slots.get, if_true, if_false, resOfG_two, resV_tmp, resV_cell, pLoad_agg ag31 sz31, rd_set, cellsAt, List.getD_cons_zero, List.getD_cons_succ, Nat.zero_add, Nat.reduceAdd, lv_int, allLive, Bool.and_true, cellsAt, List.getD_cons_zero, List.getD_cons_succ, Nat.zero_add, Nat.reduceAdd, lv_int, allLive, Bool.and_true, faultA]
          exact ⟨none, by rw [hres]; rfl, trivial, by rw [hres]; rfl, rfl⟩
        · try simp only [decide_eq_true_eq, Bool.not_eq_false'] at hb4
          have hte : t.e = 0 := by simpa using hb4
          rw [if_neg (by rw [hte]; simp)] at j4
          rw [if_pos hte] at hk
          have hnk : NxOk c.text j t := by
            rw [ht] at hte ⊢
            exact next_ok hj (by rwa [peekE_lt hj] at h32) hte
          have hn0 := hnk.n0
          have hn1 := hnk.n1
          refine awp_skip ?_
          change Awp _ _ _ _ _ _ _
          refine awp_rseq [0, 3, 4, 5, 6, 10, 12, 13] (by rfl) fun K hK => ?_
          simp +decide only [ev, putD, Slots.put, Slots.get, if_true, if_false, true_and, ↓ap_loadL, apL_mk, pLoad_agg ag29 sz29, ↓ap_fieldAddr, pop_fieldAddr, fa38_2, rd_ne', ne_eq, not_false_eq_true, ne_12q8_11q9.symm, rd_any, cellsAt, List.getD_cons_zero, List.getD_cons_succ, Nat.zero_add, lv_int, allLive, Bool.and_true]
          refine aOps_store (by rfl) (by rfl) (by repeat (first | exact AHeap.set_same _ _ _ | assumption | refine (AHeap.set_ne _ _ (by first | assumption | exact Ne.symm (by assumption))).trans ?_)) sz29 (by rfl) (by rfl) (by first | exact Nat.le_refl _ | decide | (simp; done) | (simp; omega)) (Nat.zero_le _) (by rfl) ?_
          simp only [AHeap.set_set, AVal.cells]
          simp +decide only [aOps_nil, ev, putD, Slots.get, Slots.keep, if_true, if_false, setAt, List.set_cons_zero, List.set_cons_succ, Nat.reduceAdd]
          apply hK; clear hK K
          refine awp_rseq [0, 3, 4, 5, 6, 12, 13] (by rfl) fun K hK => ?_
          simp +decide only [ev, absV, absS, putD, Slots.put, Slots.get, if_true, if_false, true_and, ↓ap_fieldAddr, pop_fieldAddr, fa29_1, ↓ap_loadL, apL_mk, pLoad_one ag3, ↓ap_binOp, pop_binOp, isNilC_int, cond_false, pBinX_int, pI_lss, fa38_3, rd_ne', ne_eq, not_false_eq_true, ne_12q8_11q9.symm, rd_any, List.getD_cons_zero, List.getD_cons_succ, Nat.zero_add, lv_int]
          refine aOps_store (by rfl) (by rfl) (by repeat (first | exact AHeap.set_same _ _ _ | assumption | refine (AHeap.set_ne _ _ (by first | assumption | exact Ne.symm (by assumption))).trans ?_)) sz4 (by rfl) (by rfl) (by first | exact Nat.le_refl _ | decide | (simp; done) | (simp; omega)) (Nat.zero_le _) (by rfl) ?_
          simp only [AHeap.set_set, AVal.cells]
          simp +decide only [aOps_nil, ev, putD, Slots.get, Slots.keep, if_true, if_false, setAt, List.set_cons_zero, List.set_cons_succ]
          apply hK; clear hK K
          refine awp_rseq [0, 3, 4, 5, 6, 13] (by rfl) fun K hK => ?_
          simp +decide only [ev, putD, Slots.put, Slots.get, if_true, if_false, true_and, ↓ap_move, pop_move, ↓ap_loadL, apL_mk, pLoad_agg ag38 sz38, rd_any, cellsAt, List.getD_cons_zero, List.getD_cons_succ, Nat.zero_add, Nat.reduceAdd, lv_bool, lv_int, lv_str, allLive, Bool.and_true]
          refine aOps_buildSlice (cs := tokC (tokAt c j t)) (by kernel_rfl) fun k17q2 hk17q2 => ?_
          have ne_17q2_11q9 : k17q2 ≠ k11q9 := by simp only [AHeap.set_none] at hk17q2; simp only [hk17q2, ne_eq, not_false_eq_true]
          have ne_17q2_12q8 : k17q2 ≠ k12q8 := by simp only [AHeap.set_none] at hk17q2; simp only [hk17q2, ne_eq, not_false_eq_true]
          have hn_17q2 : H1 k17q2 = none := by first | assumption | (simp only [AHeap.set_none] at hk17q2; simp only [hk17q2])
          have hf_17q2 : h k17q2 = none := Sub.none hs_H1 hn_17q2
          have ne_17q2_0q1 : k17q2 ≠ k0q1 := AHeap.ne_some hn_17q2 eb_0q1
          refine aOps_appendL (es := 5) (zs := l1.map tokC) (xs := [tokC (tokAt c j t)]) (h₀ := B) (b := tb1) (by rfl) (by rfl) Tryz.underlying25 Tryz.underlying25 (fun k e => by cases e) sz38 by38 ze38 (by rfl) (by decide) (by rfl) j1 j2 tokC_wide (by rw [show bufH B tb1 = H1 from hH1.symm]; exact (by repeat (first | exact Sub.refl _ | assumption | refine Sub.set_both ?_ _ _ | refine Sub.trans_set ?_ (by repeat (first | assumption | refine (AHeap.set_ne _ _ (by first | assumption | exact Ne.symm (by assumption))).trans ?_))))) (by rfl) (IsL.own (AHeap.set_same _ _ _) (by simp [tokC]) (by rfl) (by rfl) (.exact 1) (Nat.le_refl _)) (by rfl) (by simp; omega) (by simp; omega) fun tb2 h17 o1 o2 o3 => ?_
          simp +decide only [aOps_nil, ev, putD, Slots.put, Slots.get, Slots.keep, if_true, if_false, true_and, ↓ap_assign, pop_assign]
          apply hK; clear hK K
          refine Awp.forget (h' := bufH B tb2) o3 ?_
          refine awp_r [0, 3, 4, 5, 6, 7] (by rfl) ?_
          simp +decide only [aOps_nil, ev, putD, Slots.put, Slots.get, Slots.keep, if_true, if_false, true_and, ↓ap_move, pop_move, ↓ap_assign, pop_assign, faultA]
          try simp only [thenA_normal, inBlockA_normal]
          first
          | exact ⟨⟨j + 1, l1, tb1⟩, rfl, by rw [hH1]; exact Sub.refl _, ⟨j1, j2, hj, j4, by simp only; omega⟩, by simp only; omega⟩
          | exact ⟨⟨j + t.n, l1 ++ [tokAt c j t], tb2⟩, by rw [hk]; rfl, Sub.refl _, ⟨o1, by rw [o2, List.map_append]; rfl, hn1, j4, by simp only [List.length_append, List.length_cons, List.length_nil]; omega⟩, by simp only; omega⟩
    · try simp only [decide_eq_false_iff_not] at hb2
      have hje : c.text.length ≤ j := by omega
      rw [cardR_end hje] at j4
      rw [← j4, if_neg (by simp)] at hnext
      refine awp_exit ?_
      change Awp _ _ _ _ _ _ _
      refine awp_r [0, 3, 4, 5] (by rfl) ?_
      simp +decide only [aOps_nil, ev, absV, absS, putD, Slots.put, Slots.get, Slots.keep, if_true, if_false, true_and, ↓ap_move, pop_move, ↓ap_binOp, pop_binOp, isNilC_int, cond_false, pBinX_int, pI_add, ↓ap_assign, pop_assign, faultA]
      try simp (disch := omega) only [wrap_i64]
      try simp only [thenA_normal]
      exact ⟨⟨i + 1, l1, tb1⟩, rfl, Sub.refl _, ⟨j1, j2, hi, hnext.symm, by simp only; rw [hsum]; omega⟩, by simp only; omega⟩
  · try simp only [decide_eq_false_iff_not] at hb1
    have hres : refGo cs [] = (l, okF) := by rw [← i4, List.drop_eq_nil_of_le (by omega)]; rfl
    have r0 := fun o => rd_own w₀ (bufAt i1 hBk) o
    refine awp_exit ?_
    change Awp _ _ _ _ _ _ _
    refine awp_rseq [2, 3] (by rfl) fun K hK => ?_
    simp +decide only [ev, absV, absS, putD, Slots.put, Slots.get, if_true, if_false, true_and, ↓ap_move, pop_move, ↓ap_build, ↓pop_buildL, bld31_, evP, List.map_nil, ↓ap_assign, pop_assign]
    refine aOps_store (v := .agg [.int .i64 0, .int .i64 0, .int .i64 0]) (by rfl) (by rfl) (bufAt i1 hBk) sz31 (by rfl) (by rfl) (by simp []) (Nat.zero_le _) (by rfl) ?_
    simp only [setAt, AVal.cells, List.set_cons_zero, List.set_cons_succ, Nat.zero_add, Nat.reduceAdd]
    rw [set_same_self (bufAt i1 hBk)]
    simp +decide only [aOps_nil, putD, Slots.keep, if_true, if_false]
    apply hK; clear hK K
    refine awp_ret ?_
    refine retA_retE (?_) ?_
    · simp +decide only [resPre, resV_tmp, resV_cell, Slots.get, if_true, if_false, and_true, resV_tmp, resV_cell, pLoad_agg ag31 sz31, cellsAt, List.getD_cons_zero, List.getD_cons_succ, Nat.zero_add, Nat.reduceAdd, lv_int, allLive, Bool.and_true, cellsAt, List.getD_cons_zero, List.getD_cons_succ, Nat.zero_add, Nat.reduceAdd, lv_int, allLive, Bool.and_true, r0]
    
    simp +decide only [Slots.get, if_true, if_false, resOfG_two, resV_tmp, resV_cell, pLoad_agg ag31 sz31, cellsAt, List.getD_cons_zero, List.getD_cons_succ, Nat.zero_add, Nat.reduceAdd, lv_int, allLive, Bool.and_true, cellsAt, List.getD_cons_zero, List.getD_cons_succ, Nat.zero_add, Nat.reduceAdd, lv_int, allLive, Bool.and_true, faultA, r0]
    exact ⟨bufH h tb, Sub.bufBoth hBs, tb, by rw [hres]; rfl, i1.sub hBs, by rw [hres]; exact i2, rfl⟩
end Go.Proofs.YtmadddihphkmoaaGreatDoor

/-
  Contracts: space of the package columns; Printable of the package chars.
  Conditions: none.
-/
namespace Go.Proofs.YtmadddihphkmoaaGreatDoor
open Go.AM
open Go.Proofs
open Go.Col
set_option maxRecDepth 100000

end Go.Proofs.YtmadddihphkmoaaGreatDoor

/-
  Contracts: the writer of the package columns.
  Conditions: none.
-/
namespace Go.Proofs.YtmadddihphkmoaaGreatDoor
open Go.AM
open Go.Proofs
open Go.Col
set_option maxRecDepth 100000

end Go.Proofs.YtmadddihphkmoaaGreatDoor

/-
  Contracts: Len of strings.Builder; Write of the package columns.
  Conditions: none.
-/
namespace Go.Proofs.YtmadddihphkmoaaGreatDoor
open Go.AM
open Go.Proofs
open Go.Col
set_option maxRecDepth 100000

end Go.Proofs.YtmadddihphkmoaaGreatDoor

/-
  Contracts: spaces, right, plain, digits, divide of the laws; Open, Squeeze of the reference.
  Conditions: none.
-/
namespace Go.Proofs.YtmadddihphkmoaaGreatDoor
open Go.AM
open Go.Proofs
open Go.Col
set_option maxRecDepth 100000

end Go.Proofs.YtmadddihphkmoaaGreatDoor

/-
  Contracts: read of the laws.
  Conditions: none.
-/
namespace Go.Proofs.YtmadddihphkmoaaGreatDoor
open Go.AM
open Go.Proofs
open Go.Col
set_option maxRecDepth 100000

theorem IsCards.live {w₀ : World} {h : AHeap} {v : AVal} {cs : List CardC} (hc : IsCards w₀ h v cs) : v.live = true := by
  obtain ⟨ps, rfl, h2, h3⟩ := hc
  exact h2.live
theorem IsCards.len {w₀ : World} {h : AHeap} {v : AVal} {cs : List CardC} (hc : IsCards w₀ h v cs) : pLen Tryz.prog 40 v = ⟨True, .int .i64 cs.length⟩ := by
  obtain ⟨ps, rfl, h2, h3⟩ := hc
  have := h2.len Tryz.underlying40
  rw [List.length_map] at this ⊢
  exact this
theorem IsCards.open {w₀ : World} {h : AHeap} {v : AVal} {cs : List CardC} (hc : IsCards w₀ h v cs) (hn : 0 < cs.length) : ∃ l o c, v = .slice l o cs.length c := by
  obtain ⟨ps, rfl, h2, h3⟩ := hc
  obtain ⟨l, o, c, e⟩ := h2.open (fun e => by rw [List.map_eq_nil_iff] at e; subst e; simp at hn)
  rw [List.length_map] at e ⊢
  exact ⟨l, o, c, e⟩
end Go.Proofs.YtmadddihphkmoaaGreatDoor

/-
  Contracts: lives of the laws.
  Conditions: none.
-/
namespace Go.Proofs.YtmadddihphkmoaaGreatDoor
open Go.AM
open Go.Proofs
open Go.Col
set_option maxRecDepth 100000

end Go.Proofs.YtmadddihphkmoaaGreatDoor

/-
  The statement ColumnsLayout, walked.
  Conditions: none.
-/
namespace Go.Proofs.YtmadddihphkmoaaGreatDoor
open Go.AM
open Go.Proofs
open Go.Col
set_option maxRecDepth 100000

end Go.Proofs.YtmadddihphkmoaaGreatDoor

/-
  Plain law: where the bytes of the cards that Read answers stand in the source text.
  Conditions: none.
-/
namespace Go.Proofs.YtmadddihphkmoaaGreatDoor
open Go.AM
open Go.Proofs
open Go.Col
set_option maxRecDepth 100000

/-- A part of a card: where it begins, its bytes. -/
structure PartC where
  line : Int
  col : Int
  str : Str
def partsText : List PartC → Str
  | [] => []
  | p :: ps => p.str ++ partsText ps
def marksFrom : Nat → List PartC → List MarkC
  | _, [] => []
  | n, p :: ps => ⟨n, p.line, p.col⟩ :: marksFrom (n + p.str.length) ps
def posAt : List PartC → Nat → Int × Int
  | [], _ => (0, 0)
  | [p], i => (p.line, p.col + i)
  | p :: q :: ps, i => if i < p.str.length then (p.line, p.col + i) else posAt (q :: ps) (i - p.str.length)
/-- The byte at a place of the source text, lines padded to 72 columns. -/
def byteAt (L : List Str) (line col : Int) : UInt8 := (padE (L.getD (line.toNat - 1) [])).getD (col.toNat - 1) 0
structure PartOk (L : List Str) (p : PartC) : Prop where
  ne : 0 < p.str.length
  low : 1 ≤ p.line
  high : p.line ≤ L.length
  col : 8 ≤ p.col
  fit : p.col + p.str.length ≤ 73
  byte : ∀ j : Nat, j < p.str.length → p.str.getD j 0 = byteAt L p.line (p.col + j)
def Asc (ps : List PartC) : Prop := ps.Pairwise fun p q => p.line < q.line

theorem partsText_append (a b : List PartC) : partsText (a ++ b) = partsText a ++ partsText b := by
  induction a with
  | nil => rfl
  | cons p a ih => simp only [List.cons_append, partsText, ih, List.append_assoc]
theorem marksFrom_append : ∀ (a b : List PartC) (n : Nat), marksFrom n (a ++ b) = marksFrom n a ++ marksFrom (n + (partsText a).length) b
  | [], b, n => rfl
  | p :: a, b, n => by
    simp only [List.cons_append, marksFrom, partsText, List.length_append]
    rw [marksFrom_append a b, Nat.add_assoc]
theorem marksFrom_above : ∀ (ps : List PartC) (n : Nat), ∀ m ∈ marksFrom n ps, (n : Int) ≤ m.frm
  | [], n, m, h => by cases h
  | p :: ps, n, m, h => by
    rcases List.mem_cons.1 h with rfl | h
    · exact Int.le_refl _
    · have := marksFrom_above ps _ m h
      omega
theorem atGo_above {i : Int} : ∀ (ms : List MarkC) (p : Int × Int), (∀ m ∈ ms, i < m.frm) → atGo i ms p = p
  | [], p, _ => rfl
  | m :: ms, p, h => by
    rw [atGo, if_neg (by have := h m (by simp); omega)]
    exact atGo_above ms p fun x hx => h x (by simp [hx])
theorem at_parts : ∀ (ps : List PartC) (n i : Nat) (p0 : Int × Int), ps ≠ [] → atGo ((n + i : Nat) : Int) (marksFrom n ps) p0 = posAt ps i
  | [], _, _, _, h => absurd rfl h
  | [p], n, i, p0, _ => by
    show (if ((n : Int)) ≤ ((n + i : Nat) : Int) then (p.line, p.col + ((n + i : Nat) : Int) - (n : Int)) else p0) = (p.line, p.col + (i : Int))
    rw [if_pos (by omega)]
    congr 1
    omega
  | p :: q :: ps, n, i, p0, _ => by
    rw [marksFrom, atGo, if_pos (show ((n : Nat) : Int) ≤ ((n + i : Nat) : Int) by omega), posAt]
    by_cases hi : i < p.str.length
    · rw [if_pos hi, atGo_above _ _ (fun m hm => by have := marksFrom_above _ _ m hm; omega)]
      show (p.line, p.col + ((n + i : Nat) : Int) - (n : Int)) = _
      congr 1
      omega
    · rw [if_neg hi, show n + i = (n + p.str.length) + (i - p.str.length) by omega]
      exact at_parts (q :: ps) (n + p.str.length) (i - p.str.length) _ (by simp)
theorem valid_parts (c : CardC) {L : List Str} : ∀ (ps : List PartC) (n : Nat) (b : Int), b < n → n + (partsText ps).length ≤ c.text.length → (∀ p ∈ ps, PartOk L p) → validC.go c b (marksFrom n ps) = true
  | [], _, _, _, _, _ => rfl
  | p :: ps, n, b, hb, hn, hp => by
    have h := hp p (by simp)
    have h1 := h.ne
    have h2 := h.low
    have h3 := h.col
    have h4 := h.fit
    simp only [partsText, List.length_append] at hn
    rw [marksFrom, validC.go, Bool.and_eq_true]
    refine ⟨decide_eq_true ⟨hb, by simp only; omega, h2, h3, by simp only; omega⟩, ?_⟩
    exact valid_parts c ps _ _ (by simp only; omega) (by omega) fun q hq => hp q (by simp [hq])
/-- A card and its parts. -/
structure CardOk (L : List Str) (c : CardC) (ps : List PartC) : Prop where
  text : c.text = partsText ps
  marks : c.marks = marksFrom 0 ps
  parts : ∀ p ∈ ps, PartOk L p
  asc : Asc ps
theorem CardOk.valid {L : List Str} {c : CardC} {ps : List PartC} (h : CardOk L c ps) (hn : ps ≠ []) : validC c = true := by
  cases ps with
  | nil => exact absurd rfl hn
  | cons p ps =>
    have hm := h.marks
    rw [validC_eq (by rw [hm, marksFrom]; simp)]
    rw [Bool.and_eq_true]
    refine ⟨?_, ?_⟩
    · rw [hm, marksFrom]; rfl
    · rw [hm]; exact valid_parts c (p :: ps) 0 (-1) (by omega) (by rw [h.text]; omega) h.parts
theorem CardOk.at {L : List Str} {c : CardC} {ps : List PartC} (h : CardOk L c ps) (hn : ps ≠ []) {k : Nat} (hk : k ≤ c.text.length) : atE c k = ((posAt ps k).1, (posAt ps k).2, 0) := by
  unfold atE
  rw [if_pos ⟨h.valid hn, by omega, by omega⟩, h.marks]
  have := at_parts ps 0 k (0, 0) hn
  rw [Nat.zero_add] at this
  rw [this]
/-! ### What Read collects -/
theorem addC_ok {L : List Str} {c : CardC} {ps : List PartC} (h : CardOk L c ps) {line col : Int} {text : Str} (hp : ∀ t, t <+: text → 0 < t.length → PartOk L ⟨line, col, t⟩) (ha : ∀ p ∈ ps, p.line < line) :
    ∃ qs, CardOk L (addC c line col text) (ps ++ qs) ∧ (∀ q ∈ qs, q.line = line) ∧ qs.length ≤ 1 ∧ (trimR text ≠ [] → text ≠ [] → qs ≠ []) := by
  obtain ⟨t, ht⟩ : ∃ t, t = if oddQ (c.text ++ text) then text else trimR text := ⟨_, rfl⟩
  have hpre : t <+: text := by
    rw [ht]
    split
    · exact List.prefix_refl _
    · unfold trimR
      exact List.reverse_suffix.1 (by rw [List.reverse_reverse]; exact List.dropWhile_suffix _)
  have hc : addC c line col text = ⟨c.left, c.text ++ t, if t = [] then c.marks else c.marks ++ [⟨c.text.length, line, col⟩]⟩ := by unfold addC; rw [ht]
  by_cases h0 : t = []
  · refine ⟨[], ?_, by simp, by simp, fun h1 h2 => ?_⟩
    · rw [hc, h0, if_pos rfl, List.append_nil, List.append_nil]
      exact ⟨h.text, h.marks, h.parts, h.asc⟩
    · rw [h0] at ht
      split at ht
      · exact absurd ht.symm h2
      · exact absurd ht.symm h1
  · refine ⟨[⟨line, col, t⟩], ?_, by simp, by simp, by simp⟩
    rw [hc, if_neg h0]
    refine ⟨?_, ?_, ?_, ?_⟩
    · simp only [partsText_append, partsText, List.append_nil, h.text]
    · simp only [marksFrom_append, marksFrom, Nat.zero_add, h.marks, h.text]
    · intro p hq
      rcases List.mem_append.1 hq with hq | hq
      · exact h.parts p hq
      · rw [List.mem_singleton.1 hq]
        exact hp t hpre (List.length_pos_iff.2 h0)
    · refine List.pairwise_append.2 ⟨h.asc, List.pairwise_singleton _ _, fun p hq q hr => ?_⟩
      rw [List.mem_singleton.1 hr]
      exact ha p hq
/-- Cards with their parts, ahead of a line. -/
structure RdOk (L : List Str) (n : Nat) (x : Rd) (ys : List (CardC × List PartC)) : Prop where
  cards : x.cards = ys.map (·.1)
  ok : ∀ y ∈ ys, CardOk L y.1 y.2
  ne : ∀ y ∈ ys, y.2 ≠ []
  asc : Asc (ys.flatMap (·.2))
  low : ∀ y ∈ ys, ∀ p ∈ y.2, p.line < n
theorem RdOk.next {L : List Str} {n : Nat} {x : Rd} {ys : List (CardC × List PartC)} (h : RdOk L n x ys) : RdOk L (n + 1) x ys :=
  ⟨h.cards, h.ok, h.ne, h.asc, fun y hy p hp => by have := h.low y hy p hp; omega⟩
/-- What a counting row gives. -/
structure RowOk (L : List Str) (n : Nat) (r : RowC) : Prop where
  line : r.line = n
  part : ∀ (d : Nat) (t : Str), t <+: r.text.drop d → 0 < t.length → PartOk L ⟨n, r.col + d, t⟩
  ne : r.text ≠ []
  trim : trimR r.text ≠ []
theorem RdOk.flat {L : List Str} {n : Nat} {x : Rd} {ys : List (CardC × List PartC)} (h : RdOk L n x ys) : ∀ p ∈ ys.flatMap (fun y => y.2), p.line < (n : Int) := by
  intro p hp
  obtain ⟨y, hy, hp⟩ := List.mem_flatMap.1 hp
  exact h.low y hy p hp
theorem add_new {L : List Str} {n : Nat} {x : Rd} {ys : List (CardC × List PartC)} (h : RdOk L n x ys) {r : RowC} (hr : RowOk L n r) (b : Bool) : ∃ zs, RdOk L (n + 1) (addE { x with cards := x.cards ++ [⟨b, [], []⟩] } r.line r.col r.text) zs := by
  have h0 : CardOk L ⟨b, [], []⟩ [] := ⟨rfl, rfl, by simp, .nil⟩
  obtain ⟨qs, q1, q2, q3, q4⟩ := addC_ok h0 (line := r.line) (col := r.col) (text := r.text) (fun t ht hl => by have := hr.part 0 t ht hl; rw [hr.line]; simpa using this) (by simp)
  rw [addE_last (x := { x with cards := x.cards ++ [⟨b, [], []⟩] }) rfl]
  rw [List.nil_append] at q1
  have hl : ∀ q ∈ qs, q.line = n := fun q hq => by rw [q2 q hq, hr.line]
  refine ⟨ys ++ [(addC ⟨b, [], []⟩ r.line r.col r.text, qs)], ?_, ?_, ?_, ?_, ?_⟩
  · simp only [List.map_append, h.cards, List.map_cons, List.map_nil]
  · intro y hy
    rcases List.mem_append.1 hy with hy | hy
    · exact h.ok y hy
    · rw [List.mem_singleton.1 hy]; exact q1
  · intro y hy
    rcases List.mem_append.1 hy with hy | hy
    · exact h.ne y hy
    · rw [List.mem_singleton.1 hy]; exact q4 hr.trim hr.ne
  · rw [List.flatMap_append]
    refine List.pairwise_append.2 ⟨h.asc, by simp only [List.flatMap_cons, List.flatMap_nil, List.append_nil]; exact q1.asc, fun p hp q hq => ?_⟩
    simp only [List.flatMap_cons, List.flatMap_nil, List.append_nil] at hq
    rw [hl q hq]
    exact h.flat p hp
  · intro y hy p hp
    rcases List.mem_append.1 hy with hy | hy
    · have := h.low y hy p hp; omega
    · rw [List.mem_singleton.1 hy] at hp
      rw [hl p hp]; omega
theorem add_more {L : List Str} {n : Nat} {x : Rd} {ys : List (CardC × List PartC)} (h : RdOk L n x ys) (hn : x.cards ≠ []) {line col : Int} {text : Str} (hl : line = n) (hp : ∀ t, t <+: text → 0 < t.length → PartOk L ⟨line, col, t⟩) : ∃ zs, RdOk L (n + 1) (addE x line col text) zs := by
  rcases List.eq_nil_or_concat ys with e | ⟨zs, y, e⟩
  · exact absurd (by rw [h.cards, e]; rfl) hn
  · rw [List.concat_eq_append] at e
    subst e
    obtain ⟨c, ps⟩ := y
    have hc : x.cards = zs.map (·.1) ++ [c] := by rw [h.cards]; simp
    have hy := h.ok (c, ps) (by simp)
    obtain ⟨qs, q1, q2, q3, q4⟩ := addC_ok hy (line := line) (col := col) (text := text) hp (fun p hp => by rw [hl]; exact h.low (c, ps) (by simp) p hp)
    rw [addE_last hc]
    have hql : ∀ q ∈ qs, q.line = n := fun q hq => by rw [q2 q hq, hl]
    refine ⟨zs ++ [(addC c line col text, ps ++ qs)], ?_, ?_, ?_, ?_, ?_⟩
    · simp
    · intro y hy
      rcases List.mem_append.1 hy with hy | hy
      · exact h.ok y (by simp [hy])
      · rw [List.mem_singleton.1 hy]; exact q1
    · intro y hy
      rcases List.mem_append.1 hy with hy | hy
      · exact h.ne y (by simp [hy])
      · rw [List.mem_singleton.1 hy]
        have := h.ne (c, ps) (by simp)
        simp only at this ⊢
        intro e
        exact this (List.append_eq_nil_iff.1 e).1
    · have ha := h.asc
      have hf := h.flat
      simp only [List.flatMap_append, List.flatMap_cons, List.flatMap_nil, List.append_nil] at ha hf ⊢
      rw [← List.append_assoc]
      refine List.pairwise_append.2 ⟨ha, (List.pairwise_append.1 q1.asc).2.1, fun p hp q hq => ?_⟩
      rw [hql q hq]
      exact hf p hp
    · intro y hy p hp
      rcases List.mem_append.1 hy with hy | hy
      · have := h.low y (by simp [hy]) p hp; omega
      · rw [List.mem_singleton.1 hy] at hp
        simp only at hp
        rcases List.mem_append.1 hp with hp | hp
        · have := h.low (c, ps) (by simp) p hp; omega
        · rw [hql p hp]; omega
theorem take_ok {L : List Str} {n : Nat} {x : Rd} {ys : List (CardC × List PartC)} (h : RdOk L n x ys) {r : RowC} (hr : RowOk L n r) (hf : (takeE x r).2 = okF) : ∃ zs, RdOk L (n + 1) (takeE x r).1 zs := by
  have hb : ∀ {a b c : Int}, a ≠ 0 → ¬ ((⟨a, b, c⟩ : FaultC) = okF) := fun ha e => ha (congrArg FaultC.e e)
  unfold takeE at hf ⊢
  split at hf
  · exact absurd hf (hb (by decide))
  · rename_i c1
    rw [if_neg c1]
    split at hf
    · rename_i c2
      rw [if_pos c2]
      exact add_new h hr _
    · rename_i c2
      rw [if_neg c2]
      split at hf
      · exact absurd hf (hb (by decide))
      · rename_i c3
        rw [if_neg c3]
        split at hf
        · exact absurd hf (hb (by decide))
        · rename_i c4
          rw [if_neg c4]
          split at hf
          · rename_i c5
            rw [if_pos c5]
            exact add_more h c3 hr.line (fun t ht hl => by have := hr.part 1 t ht hl; rw [hr.line]; simpa using this)
          · rename_i c5
            rw [if_neg c5]
            exact add_more h c3 hr.line (fun t ht hl => by have := hr.part 0 t ht hl; rw [hr.line]; simpa using this)
end Go.Proofs.YtmadddihphkmoaaGreatDoor

/-
  Plain: the reference's Scan against Scan on what Read reads.
  Conditions: none.
-/
namespace Go.Proofs.YtmadddihphkmoaaGreatDoor
open Go.AM
open Go.Proofs
open Go.Col
open Go.Tok
open Go.RowKit (Below)
set_option maxRecDepth 100000

end Go.Proofs.YtmadddihphkmoaaGreatDoor

