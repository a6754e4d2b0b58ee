/-
  Texts of this proof, joined: TkQ, BmB, TkW, TkX, TkY, TkZ, TlA, TlB, TlC, CoK, CoL, CoM, CoN, CoO, CoP, CoQ, CoR, TlD, TmA, CoS, CoT, CoV, CoW, TnC, TnA, TlE, TnB, TnF, LwR, LwS.
  Conditions: none.
-/
import Derived.Test.YtmadddihphkmoaaGreatDoorLd
import Derived.Test.YtmadddihphkmoaaGreatDoorLb
import Derived.Test.YtmadddihphkmoaaGreatDoorLc
import Derived.Test.YtmadddihphkmoaaGreatDoorProg
import Derived.WalkKit
import Derived.ProofKit
import Derived.OpenShut
import Derived.ShutString
import Derived.ChangeOld
import Derived.Below
import Derived.Deep.Strs
import Derived.Handed
import Derived.HandedShaped
import Derived.Shelf.Vars
import Derived.Test.YtmadddihphkmoaaGreatDoorRows
import Derived.Lib.LaidTab
import Derived.MakeChecks
set_option linter.unusedSimpArgs false
set_option linter.unnecessarySimpa false
set_option linter.unusedVariables false
/-
  Contracts: show, lives of the laws.
  Conditions: none.
-/
namespace Go.Proofs.YtmadddihphkmoaaGreatDoor
open Go.AM
open Go.Proofs
open Go.Col
open Go.Tok
open Go.RowKit (Below)
set_option maxRecDepth 100000

def lettE : Str := [63, 87, 78, 81, 80, 83, 46, 61]
def showGo : List TokC → Str → Str
  | [], out => out
  | t :: r, out => if 7 < t.kind.toNat then [63] else showGo r (out ++ [lettE.getD t.kind.toNat 0] ++ t.text ++ [124])
def showE (s : Str) : Str × FaultC := (showGo (sourceE (sp 11 ++ s) false).1 [], (sourceE (sp 11 ++ s) false).2)
theorem showGo_next {l : List TokC} {i : Nat} (hi : i < l.length) (out : Str) : showGo (l.drop i) out = if 7 < (l.getD i badT).kind.toNat then [63] else showGo (l.drop (i + 1)) (out ++ [lettE.getD (l.getD i badT).kind.toNat 0] ++ (l.getD i badT).text ++ [124]) := by
  rw [List.drop_eq_getElem_cons hi, showGo]
  simp [List.getD, hi]
theorem lett_cut (k : Nat) (h : k ≤ 7) : (lettE.drop k).take (k + 1 - k) = [lettE.getD k 0] := by
  have : k = 0 ∨ k = 1 ∨ k = 2 ∨ k = 3 ∨ k = 4 ∨ k = 5 ∨ k = 6 ∨ k = 7 := by omega
  rcases this with q | q | q | q | q | q | q | q <;> subst q <;> rfl
theorem tok_at {w₀ : World} {h : AHeap} {lc : AM.Loc} {o : Nat} {c : Cap} {l : List TokC} (ht : IsL w₀ h 5 (.slice lc o l.length c) (l.map tokC)) {i : Nat} (hi : i < l.length) :
    rd w₀ h lc (o + i * 5) = .int .u8 (l.getD i badT).kind.toNat ∧ rd w₀ h lc (o + i * 5 + 1) = .str (l.getD i badT).text ∧ rd w₀ h lc (o + i * 5 + 2) = .int .i64 (l.getD i badT).line ∧ rd w₀ h lc (o + i * 5 + 3) = .int .i64 (l.getD i badT).col ∧ rd w₀ h lc (o + i * 5 + 4) = .bool (l.getD i badT).left := by
  have he := ht.elem (i := i) (by rw [List.length_map]; exact hi)
  rw [getD_map badT hi] at he
  simp only [cellsAt, tokC, List.cons.injEq, and_true] at he
  exact he
theorem tok_open {w₀ : World} {h : AHeap} {v : AVal} {l : List TokC} (ht : IsL w₀ h 5 v (l.map tokC)) (hn : 0 < l.length) : ∃ lc o c, v = .slice lc o l.length c := by
  obtain ⟨lc, o, c, e⟩ := ht.open (fun e => by rw [List.map_eq_nil_iff] at e; subst e; simp at hn)
  rw [List.length_map] at e
  exact ⟨lc, o, c, e⟩
theorem tok_len {w₀ : World} {h : AHeap} {v : AVal} {l : List TokC} (ht : IsL w₀ h 5 v (l.map tokC)) : pLen Tryz.prog 25 v = ⟨True, .int .i64 l.length⟩ := by
  have := ht.len Tryz.underlying25
  rwa [List.length_map] at this
structure ShG where
  i : Nat
  out : Str
theorem c_show (w₀ : World) (hm : MaxL w₀) (h : AHeap) (s : Str) (hl : s.length ≤ 1000000) : ACall Tryz.prog w₀ 18 [.str s] h (fun v h' => v = .tuple [.str (showE s).1, faultA (showE s).2] ∧ h' = h) := by
  have hsp : (sp 11 ++ s).length ≤ 9223372036854775807 := by simp [sp]; omega
  obtain ⟨z1, z2⟩ := source_small (sp 11 ++ s) false
  refine acall_intro (n := 50) (rs := [.tmp 2, .cell 3 31]) Tryz.func18 rfl rfl rfl rfl (Nat.le_of_ble_eq_true rfl) ?_
  simp only [initSlots]
  -- region 0  law.go:58
  refine awp_rseq [0, 3] (by rfl) fun K hK => ?_
  simp (decide := true) only [ev, absV, absS, putD, Slots.put, if_false, true_and, ↓ap_assign, pop_assign]
  refine aOps_alloc ze31 (cs := [.int .i64 0, .int .i64 0, .int .i64 0]) (by rfl) fun k0q1 hk0q1 => ?_
  try have hf_0q1 : h k0q1 = none := by first | assumption | (simp only [AHeap.set_none] at hk0q1; simp only [hk0q1])
  simp (decide := true) only [aOps_nil, putD, Slots.put, Slots.keep, if_true, if_false]
  apply hK; clear hK K
  -- region 1  law.go:59
  refine awp_rseq [3, 4, 5] (by rfl) fun K hK => ?_
  simp (decide := true) only [ev, absV, absS, putD, Slots.put, Slots.get, if_true, if_false, true_and, ↓ap_move, pop_move, ↓ap_binOp, pop_binOp, isNilC_tmp, cond_false, pBinX_str, pS_add]
  repeat (with_reducible refine And.intro ?_ ?_; · first | trivial | omega | (intro hg; simp only [Bool.and_eq_true, Bool.or_eq_true, Bool.not_eq_true', Bool.and_eq_false_iff, Bool.or_eq_false_iff, Bool.not_eq_false', decide_eq_true_eq, decide_eq_false_iff_not, eqNil] at hg; omega) | (simp only [List.length_cons, List.length_nil]; omega))
  refine aOps_call (by rfl) (by rfl) (c_Source w₀ hm _ (sp 11 ++ s) false hsp) fun x1q2 h1q2 hx1q2 => ?_
  obtain ⟨tv, hv1, htv, hs1⟩ := hx1q2.toks (w₀ := w₀)
  obtain ⟨R, hR⟩ : ∃ R, R = sourceE (sp 11 ++ s) false := ⟨_, rfl⟩
  have hsE : showE s = (showGo R.1 [], R.2) := by rw [hR]; rfl
  rw [← hR] at htv hv1 z1 z2
  obtain ⟨l, hl'⟩ : ∃ l, l = R.1 := ⟨_, rfl⟩
  obtain ⟨v, hv⟩ : ∃ v, v = capL tv := ⟨_, rfl⟩
  rw [← hl'] at htv hsE z1 z2
  rw [← hv] at htv hv1
  rw [hv1]
  have hs_h1q2 : Sub h h1q2 := Sub.trans (by repeat (first | exact Sub.refl _ | assumption | refine Sub.trans_set ?_ (by assumption))) hs1
  have hr_h1q2 := hs_h1q2
  have eb_0q1 := hs1 k0q1 _ (by repeat (first | exact AHeap.set_same _ _ _ | assumption | refine (AHeap.set_ne _ _ (by first | assumption | exact Ne.symm (by assumption))).trans ?_))
  simp (decide := true) only [ev, putD, Slots.put, Slots.get, if_true, if_false, true_and, ↓ap_move, pop_move, ↓ap_extract, pop_extract, pExt_tuple, List.length_cons, List.length_nil, List.getD_cons_zero, List.getD_cons_succ, List.getD_cons_zero, List.getD_cons_succ, Nat.zero_add, Nat.reduceAdd, faultA]
  refine aOps_alloc ze31 (cs := [.int .i64 0, .int .i64 0, .int .i64 0]) (by rfl) fun k1q6 hk1q6 => ?_
  have hn_1q6 : h1q2 k1q6 = none := by first | assumption | (simp only [AHeap.set_none] at hk1q6; simp only [hk1q6])
  have hf_1q6 : h k1q6 = none := Sub.none hs_h1q2 hn_1q6
  have ne_1q6_0q1 : k1q6 ≠ k0q1 := AHeap.ne_some hn_1q6 eb_0q1
  simp (decide := true) only [ev, putD, Slots.put, Slots.get, if_true, if_false, true_and, ↓ap_assign, pop_assign]
  refine aOps_store (by rfl) (by rfl) (by repeat (first | exact AHeap.set_same _ _ _ | assumption | refine (AHeap.set_ne _ _ (by first | assumption | exact Ne.symm (by assumption))).trans ?_)) sz31 (by rfl) (by rfl) (by first | exact Nat.le_refl _ | decide | (simp; done) | (simp; omega)) (Nat.zero_le _) (by rfl) ?_
  simp only [AHeap.set_set, AVal.cells]
  simp (decide := true) only [aOps_nil, ev, putD, Slots.get, Slots.keep, if_true, if_false, setAt, List.set_cons_zero, List.set_cons_succ, Nat.zero_add, Nat.reduceAdd]
  apply hK; clear hK K
  -- region 2  law.go:60
  refine awp_rseq [3, 4, 5, 6] (by rfl) fun K hK => ?_
  simp (decide := true) only [aOps_nil, ev, absV, absS, putD, Slots.put, Slots.keep, if_true, if_false, true_and, ↓ap_assign, pop_assign]
  apply hK; clear hK K
  refine awp_seq ?_
  -- region 3  law.go:61
  refine awp_rseq [3, 4, 5, 6, 7] (by rfl) fun K hK => ?_
  simp (decide := true) only [aOps_nil, ev, absV, absS, putD, Slots.put, Slots.keep, if_true, if_false, true_and, ↓ap_assign, pop_assign]
  apply hK; clear hK K
  refine awp_block ?_
  refine awp_loopG [3, 4, 5, 6, 7] (fun g : ShG => [(3, .ptr (.own k0q1) 0), (4, v), (5, .ptr (.own k1q6) 0), (6, .str g.out), (7, .int .i64 g.i)]) (fun g : ShG => h1q2.set k1q6 ⟨[.int .i64 R.2.e, .int .i64 R.2.line, .int .i64 R.2.col], 0⟩) (fun g : ShG => g.i ≤ l.length ∧ showGo (l.drop g.i) g.out = showGo l [] ∧ g.out.length ≤ g.i * 83886170) (fun g : ShG => l.length - g.i) ⟨0, []⟩ (by rfl) (Sub.refl _) ⟨Nat.zero_le _, rfl, Nat.zero_le _⟩ ?_
  rintro ⟨i, out⟩ ⟨i1, i2, i3⟩
  simp only at i1 i2 i3 ⊢
  have hlv := htv.live
  have hlen := tok_len htv
  refine awp_seq ?_
  -- region 4  law.go:61
  refine awp_rseq [3, 4, 5, 6, 7, 17] (by rfl) fun K hK => ?_
  simp (decide := true) only [aOps_nil, ev, putD, Slots.put, Slots.get, Slots.keep, if_true, if_false, true_and, ↓ap_move, pop_move, ↓ap_len, pop_len, ↓ap_binOp, pop_binOp, isNilC_tmp, cond_false, pBinX_int, pI_lss, hlen]
  apply hK; clear hK K
  refine awp_cond (b := _) rfl (fun hb1 => ?_) (fun hb1 => ?_)
  · try simp only [decide_eq_true_eq] at hb1
    have hi : i < l.length := by omega
    obtain ⟨lc, o, c, rfl⟩ := tok_open htv (by omega)
    have hS : Sub h1q2 (h1q2.set k1q6 ⟨[.int .i64 R.2.e, .int .i64 R.2.line, .int .i64 R.2.col], 0⟩) := Sub.set hn_1q6
    obtain ⟨e0, e1, _, _, _⟩ := tok_at (htv.mono hS) hi
    obtain ⟨t, ht⟩ : ∃ t, t = l.getD i badT := ⟨_, rfl⟩
    have hnx := showGo_next hi out
    have htb := z2 t (by rw [ht, List.getD, List.getElem?_eq_getElem hi]; exact List.getElem_mem hi)
    have hob : out.length ≤ 65536 * 83886170 := Nat.le_trans i3 (Nat.mul_le_mul_right _ (by omega))
    rw [← ht] at e0 e1 hnx
    rw [i2] at hnx
    refine awp_skip ?_
    change Awp _ _ _ _ _ _ _
    refine awp_seq ?_
    refine awp_block ?_
    refine awp_seq ?_
    -- region 6  law.go:62
    refine awp_rseq [3, 4, 5, 6, 7, 25] (by rfl) fun K hK => ?_
    simp (decide := true) only [aOps_nil, ev, absV, absS, putD, Slots.put, Slots.get, Slots.keep, if_true, if_false, true_and, ↓ap_move, pop_move, ↓ap_indexAddrL, apL_mk, pIndexAddr_slice Tryz.underlying25 sz38, ↓ap_fieldAddr, pop_fieldAddr, fa38_0, ↓ap_loadL, pLoad_one ag36, ↓ap_binOp, pop_binOp, isNilC_int, cond_false, pBinX_int, pI_gtr, lv_int, Int.toNat_natCast, Nat.add_zero, e0]
    repeat (with_reducible refine And.intro ?_ ?_; · first | trivial | omega | (intro hg; simp only [Bool.and_eq_true, Bool.or_eq_true, Bool.not_eq_true', Bool.and_eq_false_iff, Bool.or_eq_false_iff, Bool.not_eq_false', decide_eq_true_eq, decide_eq_false_iff_not, eqNil] at hg; omega) | (simp only [List.length_append, List.length_map, List.length_range, List.length_replicate, List.length_take, List.length_drop, List.length_cons, List.length_nil, List.length_set, List.length_reverse]; omega))
    apply hK; clear hK K
    refine awp_cond (b := _) rfl (fun hb2 => ?_) (fun hb2 => ?_)
    · try simp only [decide_eq_true_eq] at hb2
      rw [if_pos (by omega)] at hnx
      -- region 7  law.go:63
      refine awp_dseq_tail 2 [2, 3] mixed (by kernel_rfl) (by rfl) (by rfl) fun K hK => ?_
      simp (decide := true) only [ev, absV, absS, putD, Slots.put, Slots.get, if_true, if_false, true_and, ↓ap_loadL, apL_mk, pLoad_agg ag31 sz31, ↓ap_assign, pop_assign, rd_any, cellsAt, List.getD_cons_zero, List.getD_cons_succ, Nat.zero_add, Nat.reduceAdd, lv_int, allLive, Bool.and_true]
      refine aOps_store (by rfl) (by rfl) (by repeat (first | exact AHeap.set_same _ _ _ | assumption | refine (AHeap.set_ne _ _ (by first | assumption | exact Ne.symm (by assumption))).trans ?_)) sz31 (by rfl) (by rfl) (by first | exact Nat.le_refl _ | decide | (simp; done) | (simp; omega)) (Nat.zero_le _) (by rfl) ?_
      simp only [AVal.cells]
      simp (decide := true) only [aOps_nil, ev, putD, Slots.get, Slots.keep, if_true, if_false, setAt, List.set_cons_zero, List.set_cons_succ, Nat.zero_add, Nat.reduceAdd]
      apply hK; clear hK K
      refine awp_ret ?_
      try simp only [thenA_ret, inBlockA_ret]
      refine retA_ret h (by repeat (first | exact Sub.refl _ | assumption | refine Sub.trans_set ?_ (by assumption))) (?_) ?_
      · simp (decide := true) only [resPre, resV_tmp, resV_cell, Slots.get, if_true, if_false, and_true, resV_tmp, resV_cell, pLoad_agg ag31 sz31, rd_set, cellsAt, List.getD_cons_zero, List.getD_cons_succ, Nat.zero_add, Nat.reduceAdd, lv_int, allLive, Bool.and_true, cellsAt, List.getD_cons_zero, List.getD_cons_succ, Nat.zero_add, Nat.reduceAdd, lv_int, allLive, Bool.and_true]
      
      simp (decide := true) only [Slots.get, if_true, if_false, and_true, resOfG_two, resV_tmp, resV_cell, pLoad_agg ag31 sz31, rd_set, cellsAt, List.getD_cons_zero, List.getD_cons_succ, Nat.zero_add, Nat.reduceAdd, lv_int, allLive, Bool.and_true, cellsAt, List.getD_cons_zero, List.getD_cons_succ, Nat.zero_add, Nat.reduceAdd, lv_int, allLive, Bool.and_true, faultA]
      rw [hsE, hnx]
    · try simp only [decide_eq_false_iff_not] at hb2
      have hk7 : t.kind.toNat ≤ 7 := by omega
      rw [if_neg (by omega)] at hnx
      have hcut : (List.drop t.kind.toNat ([63, 87, 78, 81, 80, 83, 46, 61] : Str)).take (((t.kind.toNat : Int) + 1).toNat - t.kind.toNat) = [lettE.getD t.kind.toNat 0] := by
        rw [show ((t.kind.toNat : Int) + 1).toNat = t.kind.toNat + 1 by omega]
        exact lett_cut _ hk7
      refine awp_skip ?_
      change Awp _ _ _ _ _ _ _
      -- region 8  law.go:65
      refine awp_draw_all mixed (by kernel_rfl) (by rfl) (by rfl) ?_
      simp (decide := true) only [ev, absV, absS, putD, Slots.put, Slots.get, if_true, if_false, true_and, ↓ap_move, pop_move, ↓ap_indexAddrL, apL_mk, pIndexAddr_slice Tryz.underlying25 sz38, ↓ap_fieldAddr, pop_fieldAddr, fa38_0, ↓ap_loadL, pLoad_one ag36, ↓ap_binOp, pop_binOp, isNilC_int, cond_false, pBinX_int, pI_add, lv_int, faultA, Int.toNat_natCast, Nat.add_zero, e0]
      try simp (disch := omega) only [wrap_u8]
      try simp (decide := true) only [aOps_nil, ev, absV, absS, putD, Slots.put, Slots.get, if_true, if_false, true_and, ↓ap_slice, pop_slice, evO, pSliceS_ii Tryz.underlying9, pSliceS, bndA_int, ↓ap_binOp, pop_binOp, isNilC_tmp, cond_false, pBinX_str, pS_add, ↓ap_move, pop_move, ↓ap_indexAddrL, apL_mk, pIndexAddr_slice Tryz.underlying25 sz38, ↓ap_fieldAddr, pop_fieldAddr, fa38_1, ↓ap_loadL, pLoad_one ag9, isNilC_str, ↓ap_assign, pop_assign, lv_str, Int.toNat_natCast, e1]
      rw [hcut]
      repeat (with_reducible refine And.intro ?_ ?_; · first | trivial | omega | (simp only [List.length_append, List.length_cons, List.length_nil]; omega))
      change Awp _ _ _ _ _ _ _
      -- region 5  law.go:61
      refine awp_r [3, 4, 5, 6, 7] (by rfl) ?_
      simp (decide := true) only [aOps_nil, ev, absV, absS, putD, Slots.put, Slots.get, Slots.keep, if_true, if_false, true_and, ↓ap_move, pop_move, ↓ap_binOp, pop_binOp, isNilC_int, cond_false, pBinX_int, pI_add, ↓ap_assign, pop_assign]
      try simp (disch := omega) only [wrap_i64]
      try simp only [thenA_normal]
      exact ⟨⟨i + 1, out ++ [lettE.getD t.kind.toNat 0] ++ t.text ++ [124]⟩, rfl, Sub.refl _, ⟨hi, hnx.symm, by simp only [List.length_append, List.length_cons, List.length_nil]; omega⟩, by simp only; omega⟩
  · try simp only [decide_eq_false_iff_not] at hb1
    refine awp_exit ?_
    change Awp _ _ _ _ _ _ _
    -- region 9  law.go:67
    refine awp_dseq_tail 3 [2, 3] mixed (by kernel_rfl) (by rfl) (by rfl) fun K hK => ?_
    simp (decide := true) only [ev, putD, Slots.put, Slots.get, if_true, if_false, true_and, ↓ap_move, pop_move, ↓ap_loadL, apL_mk, pLoad_agg ag31 sz31, ↓ap_assign, pop_assign, rd_any, cellsAt, List.getD_cons_zero, List.getD_cons_succ, Nat.zero_add, Nat.reduceAdd, lv_int, allLive, Bool.and_true]
    refine aOps_store (by rfl) (by rfl) (by repeat (first | exact AHeap.set_same _ _ _ | assumption | refine (AHeap.set_ne _ _ (by first | assumption | exact Ne.symm (by assumption))).trans ?_)) sz31 (by rfl) (by rfl) (by first | exact Nat.le_refl _ | decide | (simp; done) | (simp; omega)) (Nat.zero_le _) (by rfl) ?_
    simp only [AVal.cells]
    simp (decide := true) only [aOps_nil, ev, putD, Slots.get, Slots.keep, if_true, if_false, setAt, List.set_cons_zero, List.set_cons_succ, Nat.zero_add, Nat.reduceAdd]
    apply hK; clear hK K
    refine awp_ret ?_
    refine retA_ret h (by repeat (first | exact Sub.refl _ | assumption | refine Sub.trans_set ?_ (by assumption))) (?_) ?_
    · simp (decide := true) only [resPre, resV_tmp, resV_cell, Slots.get, if_true, if_false, and_true, resV_tmp, resV_cell, pLoad_agg ag31 sz31, rd_set, cellsAt, List.getD_cons_zero, List.getD_cons_succ, Nat.zero_add, Nat.reduceAdd, lv_int, allLive, Bool.and_true, cellsAt, List.getD_cons_zero, List.getD_cons_succ, Nat.zero_add, Nat.reduceAdd, lv_int, allLive, Bool.and_true]
    
    simp (decide := true) only [Slots.get, if_true, if_false, and_true, resOfG_two, resV_tmp, resV_cell, pLoad_agg ag31 sz31, rd_set, cellsAt, List.getD_cons_zero, List.getD_cons_succ, Nat.zero_add, Nat.reduceAdd, lv_int, allLive, Bool.and_true, cellsAt, List.getD_cons_zero, List.getD_cons_succ, Nat.zero_add, Nat.reduceAdd, lv_int, allLive, Bool.and_true, faultA]
    rw [hsE, ← i2, List.drop_eq_nil_of_le (by omega)]
    rfl
theorem sh1 : showE [109, 111, 118, 101, 32, 45, 49, 46, 53, 48, 32, 116, 111, 32, 65, 45, 49, 44, 32, 98, 40, 50, 41, 46] = ([87, 77, 79, 86, 69, 124, 78, 45, 49, 46, 53, 48, 124, 87, 84, 79, 124, 87, 65, 45, 49, 124, 87, 66, 124, 83, 40, 124, 78, 50, 124, 83, 41, 124, 46, 46, 124], ⟨0, 0, 0⟩) := by kernel_rfl
theorem sh2 : showE [48, 53, 32, 88, 32, 80, 73, 67, 32, 57, 40, 51, 41, 118, 57, 57, 46] = ([78, 48, 53, 124, 87, 88, 124, 87, 80, 73, 67, 124, 80, 57, 40, 51, 41, 86, 57, 57, 124, 46, 46, 124], ⟨0, 0, 0⟩) := by kernel_rfl
theorem sh3 : showE [65, 32, 45, 32, 49, 32, 42, 42, 32, 46, 53, 32, 60, 61, 32, 34, 66, 34, 34, 67, 34] = ([87, 65, 124, 83, 45, 124, 78, 49, 124, 83, 42, 42, 124, 78, 46, 53, 124, 83, 60, 61, 124, 81, 66, 34, 67, 124], ⟨0, 0, 0⟩) := by kernel_rfl
theorem sh4 : showE [61, 61, 49, 65, 61, 61, 32, 66, 89, 32, 55, 46] = ([61, 61, 61, 124, 87, 49, 65, 124, 61, 61, 61, 124, 87, 66, 89, 124, 78, 55, 124, 46, 46, 124], ⟨0, 0, 0⟩) := by kernel_rfl
theorem sh5 : (showE [88, 32, 65, 45, 44, 32, 89]).2 = ⟨4, 1, 14⟩ := by kernel_rfl
theorem sh6 : (showE [34, 34]).2 = ⟨4, 1, 12⟩ := by kernel_rfl
theorem sh7 : (showE [49, 45, 50]).2 = ⟨4, 1, 12⟩ := by kernel_rfl
theorem sh8 : (showE [80, 73, 67, 32, 46]).2 = ⟨4, 1, 16⟩ := by kernel_rfl
theorem sh9 : (showE [80, 73, 67, 32, 65, 34, 66, 34]).2 = ⟨4, 1, 16⟩ := by kernel_rfl
theorem c_showV (w₀ : World) (hm : MaxL w₀) (h : AHeap) (s : Str) (hl : s.length ≤ 1000000) {a : Str} {f : FaultC} (hs : showE s = (a, f)) : ACall Tryz.prog w₀ 18 [.str s] h (fun v h' => v = .tuple [.str a, faultA f] ∧ h' = h) := by
  have := c_show w₀ hm h s hl
  rw [hs] at this
  exact this
theorem c_showF (w₀ : World) (hm : MaxL w₀) (h : AHeap) (s : Str) (hl : s.length ≤ 1000000) {f : FaultC} (hs : (showE s).2 = f) : ACall Tryz.prog w₀ 18 [.str s] h (fun v h' => v = .tuple [.str (showE s).1, faultA f] ∧ h' = h) := by
  have := c_show w₀ hm h s hl
  rw [hs] at this
  exact this
set_option maxHeartbeats 2000000 in
theorem c_lives03 (w₀ : World) (hm : MaxL w₀) (h : AHeap) : ACall Tryz.prog w₀ 7 [] h (fun v h' => v = .bool true ∧ h' = h) := by
  refine acall_intro (n := 117) (rs := [.tmp 0]) Tryz.func7 rfl rfl rfl rfl (Nat.le_of_ble_eq_true rfl) ?_
  simp only [initSlots]
  -- region 0  law.go:71
  refine awp_rseq [] (by rfl) fun K hK => ?_
  simp (decide := true) only [aOps_nil, ev, absV, absS, putD, Slots.put, Slots.keep, if_false, true_and, ↓ap_assign, pop_assign]
  apply hK; clear hK K
  -- region 1  law.go:72
  refine awp_rseq [1, 2] (by rfl) fun K hK => ?_
  refine aOps_callV (V := .tuple [.str [87, 77, 79, 86, 69, 124, 78, 45, 49, 46, 53, 48, 124, 87, 84, 79, 124, 87, 65, 45, 49, 124, 87, 66, 124, 83, 40, 124, 78, 50, 124, 83, 41, 124, 46, 46, 124], faultA ⟨0, 0, 0⟩]) (by rfl) (by rfl) (c_showV w₀ hm _ _ (by decide) sh1) ?_
  simp (decide := true) only [ev, putD, Slots.put, Slots.get, if_true, if_false, true_and, ↓ap_move, pop_move, ↓ap_extract, pop_extract, pExt_tuple, List.getD_cons_zero, List.getD_cons_succ, List.getD_cons_zero, List.getD_cons_succ, faultA]
  refine aOps_alloc ze31 (cs := [.int .i64 0, .int .i64 0, .int .i64 0]) (by rfl) fun k1q4 hk1q4 => ?_
  try have hf_1q4 : h k1q4 = none := by first | assumption | (simp only [AHeap.set_none] at hk1q4; simp only [hk1q4])
  simp (decide := true) only [ev, putD, Slots.put, Slots.get, if_true, if_false, true_and, ↓ap_assign, pop_assign]
  refine aOps_store (by rfl) (by rfl) (by repeat (first | exact AHeap.set_same _ _ _ | assumption | refine (AHeap.set_ne _ _ (by first | assumption | exact Ne.symm (by assumption))).trans ?_)) sz31 (by rfl) (by rfl) (by first | exact Nat.le_refl _ | decide | (simp; done) | (simp; omega)) (Nat.zero_le _) (by rfl) ?_
  simp only [AHeap.set_set, AVal.cells]
  simp (decide := true) only [aOps_nil, ev, putD, Slots.get, Slots.keep, if_true, if_false, setAt, List.set_cons_zero, List.set_cons_succ, Nat.zero_add, Nat.reduceAdd]
  apply hK; clear hK K
  -- region 2  law.go:73
  refine awp_rseq [1, 2, 3, 4] (by rfl) fun K hK => ?_
  refine aOps_callV (V := .tuple [.str [78, 48, 53, 124, 87, 88, 124, 87, 80, 73, 67, 124, 80, 57, 40, 51, 41, 86, 57, 57, 124, 46, 46, 124], faultA ⟨0, 0, 0⟩]) (by rfl) (by rfl) (c_showV w₀ hm _ _ (by decide) sh2) ?_
  simp (decide := true) only [ev, putD, Slots.put, Slots.get, if_true, if_false, true_and, ↓ap_move, pop_move, ↓ap_extract, pop_extract, pExt_tuple, List.getD_cons_zero, List.getD_cons_succ, List.getD_cons_zero, List.getD_cons_succ, faultA]
  refine aOps_alloc ze31 (cs := [.int .i64 0, .int .i64 0, .int .i64 0]) (by rfl) fun k2q4 hk2q4 => ?_
  have ne_2q4_1q4 : k2q4 ≠ k1q4 := by simp only [AHeap.set_none] at hk2q4; simp only [hk2q4, ne_eq, not_false_eq_true]
  try have hf_2q4 : h k2q4 = none := by first | assumption | (simp only [AHeap.set_none] at hk2q4; simp only [hk2q4])
  simp (decide := true) only [ev, putD, Slots.put, Slots.get, if_true, if_false, true_and, ↓ap_assign, pop_assign]
  refine aOps_store (by rfl) (by rfl) (by repeat (first | exact AHeap.set_same _ _ _ | assumption | refine (AHeap.set_ne _ _ (by first | assumption | exact Ne.symm (by assumption))).trans ?_)) sz31 (by rfl) (by rfl) (by first | exact Nat.le_refl _ | decide | (simp; done) | (simp; omega)) (Nat.zero_le _) (by rfl) ?_
  simp only [AHeap.set_set, AVal.cells]
  simp (decide := true) only [aOps_nil, ev, putD, Slots.get, Slots.keep, if_true, if_false, setAt, List.set_cons_zero, List.set_cons_succ, Nat.zero_add, Nat.reduceAdd]
  apply hK; clear hK K
  -- region 3  law.go:74
  refine awp_rseq [1, 2, 3, 4, 5, 6] (by rfl) fun K hK => ?_
  refine aOps_callV (V := .tuple [.str [87, 65, 124, 83, 45, 124, 78, 49, 124, 83, 42, 42, 124, 78, 46, 53, 124, 83, 60, 61, 124, 81, 66, 34, 67, 124], faultA ⟨0, 0, 0⟩]) (by rfl) (by rfl) (c_showV w₀ hm _ _ (by decide) sh3) ?_
  simp (decide := true) only [ev, putD, Slots.put, Slots.get, if_true, if_false, true_and, ↓ap_move, pop_move, ↓ap_extract, pop_extract, pExt_tuple, List.getD_cons_zero, List.getD_cons_succ, List.getD_cons_zero, List.getD_cons_succ, faultA]
  refine aOps_alloc ze31 (cs := [.int .i64 0, .int .i64 0, .int .i64 0]) (by rfl) fun k3q4 hk3q4 => ?_
  have ne_3q4_1q4 : k3q4 ≠ k1q4 := by simp only [AHeap.set_none] at hk3q4; simp only [hk3q4, ne_eq, not_false_eq_true]
  have ne_3q4_2q4 : k3q4 ≠ k2q4 := by simp only [AHeap.set_none] at hk3q4; simp only [hk3q4, ne_eq, not_false_eq_true]
  try have hf_3q4 : h k3q4 = none := by first | assumption | (simp only [AHeap.set_none] at hk3q4; simp only [hk3q4])
  simp (decide := true) only [ev, putD, Slots.put, Slots.get, if_true, if_false, true_and, ↓ap_assign, pop_assign]
  refine aOps_store (by rfl) (by rfl) (by repeat (first | exact AHeap.set_same _ _ _ | assumption | refine (AHeap.set_ne _ _ (by first | assumption | exact Ne.symm (by assumption))).trans ?_)) sz31 (by rfl) (by rfl) (by first | exact Nat.le_refl _ | decide | (simp; done) | (simp; omega)) (Nat.zero_le _) (by rfl) ?_
  simp only [AHeap.set_set, AVal.cells]
  simp (decide := true) only [aOps_nil, ev, putD, Slots.get, Slots.keep, if_true, if_false, setAt, List.set_cons_zero, List.set_cons_succ, Nat.zero_add, Nat.reduceAdd]
  apply hK; clear hK K
  -- region 4  law.go:75
  refine awp_rseq [1, 2, 3, 4, 5, 6, 7, 8] (by rfl) fun K hK => ?_
  refine aOps_callV (V := .tuple [.str [61, 61, 61, 124, 87, 49, 65, 124, 61, 61, 61, 124, 87, 66, 89, 124, 78, 55, 124, 46, 46, 124], faultA ⟨0, 0, 0⟩]) (by rfl) (by rfl) (c_showV w₀ hm _ _ (by decide) sh4) ?_
  simp (decide := true) only [ev, putD, Slots.put, Slots.get, if_true, if_false, true_and, ↓ap_move, pop_move, ↓ap_extract, pop_extract, pExt_tuple, List.getD_cons_zero, List.getD_cons_succ, List.getD_cons_zero, List.getD_cons_succ, faultA]
  refine aOps_alloc ze31 (cs := [.int .i64 0, .int .i64 0, .int .i64 0]) (by rfl) fun k4q4 hk4q4 => ?_
  have ne_4q4_1q4 : k4q4 ≠ k1q4 := by simp only [AHeap.set_none] at hk4q4; simp only [hk4q4, ne_eq, not_false_eq_true]
  have ne_4q4_2q4 : k4q4 ≠ k2q4 := by simp only [AHeap.set_none] at hk4q4; simp only [hk4q4, ne_eq, not_false_eq_true]
  have ne_4q4_3q4 : k4q4 ≠ k3q4 := by simp only [AHeap.set_none] at hk4q4; simp only [hk4q4, ne_eq, not_false_eq_true]
  try have hf_4q4 : h k4q4 = none := by first | assumption | (simp only [AHeap.set_none] at hk4q4; simp only [hk4q4])
  simp (decide := true) only [ev, putD, Slots.put, Slots.get, if_true, if_false, true_and, ↓ap_assign, pop_assign]
  refine aOps_store (by rfl) (by rfl) (by repeat (first | exact AHeap.set_same _ _ _ | assumption | refine (AHeap.set_ne _ _ (by first | assumption | exact Ne.symm (by assumption))).trans ?_)) sz31 (by rfl) (by rfl) (by first | exact Nat.le_refl _ | decide | (simp; done) | (simp; omega)) (Nat.zero_le _) (by rfl) ?_
  simp only [AHeap.set_set, AVal.cells]
  simp (decide := true) only [aOps_nil, ev, putD, Slots.get, Slots.keep, if_true, if_false, setAt, List.set_cons_zero, List.set_cons_succ, Nat.zero_add, Nat.reduceAdd]
  apply hK; clear hK K
  -- region 5  law.go:76
  refine awp_rseq [1, 2, 3, 4, 5, 6, 7, 8, 10] (by rfl) fun K hK => ?_
  refine aOps_callV (V := .tuple [.str (showE [88, 32, 65, 45, 44, 32, 89]).1, faultA ⟨4, 1, 14⟩]) (by rfl) (by rfl) (c_showF w₀ hm _ _ (by decide) sh5) ?_
  simp (decide := true) only [ev, putD, Slots.put, Slots.get, if_true, if_false, true_and, ↓ap_move, pop_move, ↓ap_extract, pop_extract, pExt_tuple, List.getD_cons_zero, List.getD_cons_succ, List.getD_cons_zero, List.getD_cons_succ, faultA]
  refine aOps_alloc ze31 (cs := [.int .i64 0, .int .i64 0, .int .i64 0]) (by rfl) fun k5q4 hk5q4 => ?_
  have ne_5q4_1q4 : k5q4 ≠ k1q4 := by simp only [AHeap.set_none] at hk5q4; simp only [hk5q4, ne_eq, not_false_eq_true]
  have ne_5q4_2q4 : k5q4 ≠ k2q4 := by simp only [AHeap.set_none] at hk5q4; simp only [hk5q4, ne_eq, not_false_eq_true]
  have ne_5q4_3q4 : k5q4 ≠ k3q4 := by simp only [AHeap.set_none] at hk5q4; simp only [hk5q4, ne_eq, not_false_eq_true]
  have ne_5q4_4q4 : k5q4 ≠ k4q4 := by simp only [AHeap.set_none] at hk5q4; simp only [hk5q4, ne_eq, not_false_eq_true]
  try have hf_5q4 : h k5q4 = none := by first | assumption | (simp only [AHeap.set_none] at hk5q4; simp only [hk5q4])
  simp (decide := true) only [ev, putD, Slots.put, Slots.get, if_true, if_false, true_and, ↓ap_assign, pop_assign]
  refine aOps_store (by rfl) (by rfl) (by repeat (first | exact AHeap.set_same _ _ _ | assumption | refine (AHeap.set_ne _ _ (by first | assumption | exact Ne.symm (by assumption))).trans ?_)) sz31 (by rfl) (by rfl) (by first | exact Nat.le_refl _ | decide | (simp; done) | (simp; omega)) (Nat.zero_le _) (by rfl) ?_
  simp only [AHeap.set_set, AVal.cells]
  simp (decide := true) only [aOps_nil, ev, putD, Slots.get, Slots.keep, if_true, if_false, setAt, List.set_cons_zero, List.set_cons_succ, Nat.zero_add, Nat.reduceAdd]
  apply hK; clear hK K
  -- region 6  law.go:77
  refine awp_rseq [1, 2, 3, 4, 5, 6, 7, 8, 10, 12] (by rfl) fun K hK => ?_
  refine aOps_callV (V := .tuple [.str (showE [34, 34]).1, faultA ⟨4, 1, 12⟩]) (by rfl) (by rfl) (c_showF w₀ hm _ _ (by decide) sh6) ?_
  simp (decide := true) only [ev, putD, Slots.put, Slots.get, if_true, if_false, true_and, ↓ap_move, pop_move, ↓ap_extract, pop_extract, pExt_tuple, List.getD_cons_zero, List.getD_cons_succ, List.getD_cons_zero, List.getD_cons_succ, faultA]
  refine aOps_alloc ze31 (cs := [.int .i64 0, .int .i64 0, .int .i64 0]) (by rfl) fun k6q4 hk6q4 => ?_
  have ne_6q4_1q4 : k6q4 ≠ k1q4 := by simp only [AHeap.set_none] at hk6q4; simp only [hk6q4, ne_eq, not_false_eq_true]
  have ne_6q4_2q4 : k6q4 ≠ k2q4 := by simp only [AHeap.set_none] at hk6q4; simp only [hk6q4, ne_eq, not_false_eq_true]
  have ne_6q4_3q4 : k6q4 ≠ k3q4 := by simp only [AHeap.set_none] at hk6q4; simp only [hk6q4, ne_eq, not_false_eq_true]
  have ne_6q4_4q4 : k6q4 ≠ k4q4 := by simp only [AHeap.set_none] at hk6q4; simp only [hk6q4, ne_eq, not_false_eq_true]
  have ne_6q4_5q4 : k6q4 ≠ k5q4 := by simp only [AHeap.set_none] at hk6q4; simp only [hk6q4, ne_eq, not_false_eq_true]
  try have hf_6q4 : h k6q4 = none := by first | assumption | (simp only [AHeap.set_none] at hk6q4; simp only [hk6q4])
  simp (decide := true) only [ev, putD, Slots.put, Slots.get, if_true, if_false, true_and, ↓ap_assign, pop_assign]
  refine aOps_store (by rfl) (by rfl) (by repeat (first | exact AHeap.set_same _ _ _ | assumption | refine (AHeap.set_ne _ _ (by first | assumption | exact Ne.symm (by assumption))).trans ?_)) sz31 (by rfl) (by rfl) (by first | exact Nat.le_refl _ | decide | (simp; done) | (simp; omega)) (Nat.zero_le _) (by rfl) ?_
  simp only [AHeap.set_set, AVal.cells]
  simp (decide := true) only [aOps_nil, ev, putD, Slots.get, Slots.keep, if_true, if_false, setAt, List.set_cons_zero, List.set_cons_succ, Nat.zero_add, Nat.reduceAdd]
  apply hK; clear hK K
  -- region 7  law.go:78
  refine awp_rseq [1, 2, 3, 4, 5, 6, 7, 8, 10, 12, 14] (by rfl) fun K hK => ?_
  refine aOps_callV (V := .tuple [.str (showE [49, 45, 50]).1, faultA ⟨4, 1, 12⟩]) (by rfl) (by rfl) (c_showF w₀ hm _ _ (by decide) sh7) ?_
  simp (decide := true) only [ev, putD, Slots.put, Slots.get, if_true, if_false, true_and, ↓ap_move, pop_move, ↓ap_extract, pop_extract, pExt_tuple, List.getD_cons_zero, List.getD_cons_succ, List.getD_cons_zero, List.getD_cons_succ, faultA]
  refine aOps_alloc ze31 (cs := [.int .i64 0, .int .i64 0, .int .i64 0]) (by rfl) fun k7q4 hk7q4 => ?_
  have ne_7q4_1q4 : k7q4 ≠ k1q4 := by simp only [AHeap.set_none] at hk7q4; simp only [hk7q4, ne_eq, not_false_eq_true]
  have ne_7q4_2q4 : k7q4 ≠ k2q4 := by simp only [AHeap.set_none] at hk7q4; simp only [hk7q4, ne_eq, not_false_eq_true]
  have ne_7q4_3q4 : k7q4 ≠ k3q4 := by simp only [AHeap.set_none] at hk7q4; simp only [hk7q4, ne_eq, not_false_eq_true]
  have ne_7q4_4q4 : k7q4 ≠ k4q4 := by simp only [AHeap.set_none] at hk7q4; simp only [hk7q4, ne_eq, not_false_eq_true]
  have ne_7q4_5q4 : k7q4 ≠ k5q4 := by simp only [AHeap.set_none] at hk7q4; simp only [hk7q4, ne_eq, not_false_eq_true]
  have ne_7q4_6q4 : k7q4 ≠ k6q4 := by simp only [AHeap.set_none] at hk7q4; simp only [hk7q4, ne_eq, not_false_eq_true]
  try have hf_7q4 : h k7q4 = none := by first | assumption | (simp only [AHeap.set_none] at hk7q4; simp only [hk7q4])
  simp (decide := true) only [ev, putD, Slots.put, Slots.get, if_true, if_false, true_and, ↓ap_assign, pop_assign]
  refine aOps_store (by rfl) (by rfl) (by repeat (first | exact AHeap.set_same _ _ _ | assumption | refine (AHeap.set_ne _ _ (by first | assumption | exact Ne.symm (by assumption))).trans ?_)) sz31 (by rfl) (by rfl) (by first | exact Nat.le_refl _ | decide | (simp; done) | (simp; omega)) (Nat.zero_le _) (by rfl) ?_
  simp only [AHeap.set_set, AVal.cells]
  simp (decide := true) only [aOps_nil, ev, putD, Slots.get, Slots.keep, if_true, if_false, setAt, List.set_cons_zero, List.set_cons_succ, Nat.zero_add, Nat.reduceAdd]
  apply hK; clear hK K
  -- region 8  law.go:79
  refine awp_rseq [1, 2, 3, 4, 5, 6, 7, 8, 10, 12, 14, 16] (by rfl) fun K hK => ?_
  refine aOps_callV (V := .tuple [.str (showE [80, 73, 67, 32, 46]).1, faultA ⟨4, 1, 16⟩]) (by rfl) (by rfl) (c_showF w₀ hm _ _ (by decide) sh8) ?_
  simp (decide := true) only [ev, putD, Slots.put, Slots.get, if_true, if_false, true_and, ↓ap_move, pop_move, ↓ap_extract, pop_extract, pExt_tuple, List.getD_cons_zero, List.getD_cons_succ, List.getD_cons_zero, List.getD_cons_succ, faultA]
  refine aOps_alloc ze31 (cs := [.int .i64 0, .int .i64 0, .int .i64 0]) (by rfl) fun k8q4 hk8q4 => ?_
  have ne_8q4_1q4 : k8q4 ≠ k1q4 := by simp only [AHeap.set_none] at hk8q4; simp only [hk8q4, ne_eq, not_false_eq_true]
  have ne_8q4_2q4 : k8q4 ≠ k2q4 := by simp only [AHeap.set_none] at hk8q4; simp only [hk8q4, ne_eq, not_false_eq_true]
  have ne_8q4_3q4 : k8q4 ≠ k3q4 := by simp only [AHeap.set_none] at hk8q4; simp only [hk8q4, ne_eq, not_false_eq_true]
  have ne_8q4_4q4 : k8q4 ≠ k4q4 := by simp only [AHeap.set_none] at hk8q4; simp only [hk8q4, ne_eq, not_false_eq_true]
  have ne_8q4_5q4 : k8q4 ≠ k5q4 := by simp only [AHeap.set_none] at hk8q4; simp only [hk8q4, ne_eq, not_false_eq_true]
  have ne_8q4_6q4 : k8q4 ≠ k6q4 := by simp only [AHeap.set_none] at hk8q4; simp only [hk8q4, ne_eq, not_false_eq_true]
  have ne_8q4_7q4 : k8q4 ≠ k7q4 := by simp only [AHeap.set_none] at hk8q4; simp only [hk8q4, ne_eq, not_false_eq_true]
  try have hf_8q4 : h k8q4 = none := by first | assumption | (simp only [AHeap.set_none] at hk8q4; simp only [hk8q4])
  simp (decide := true) only [ev, putD, Slots.put, Slots.get, if_true, if_false, true_and, ↓ap_assign, pop_assign]
  refine aOps_store (by rfl) (by rfl) (by repeat (first | exact AHeap.set_same _ _ _ | assumption | refine (AHeap.set_ne _ _ (by first | assumption | exact Ne.symm (by assumption))).trans ?_)) sz31 (by rfl) (by rfl) (by first | exact Nat.le_refl _ | decide | (simp; done) | (simp; omega)) (Nat.zero_le _) (by rfl) ?_
  simp only [AHeap.set_set, AVal.cells]
  simp (decide := true) only [aOps_nil, ev, putD, Slots.get, Slots.keep, if_true, if_false, setAt, List.set_cons_zero, List.set_cons_succ, Nat.zero_add, Nat.reduceAdd]
  apply hK; clear hK K
  -- region 9  law.go:80
  refine awp_rseq [1, 2, 3, 4, 5, 6, 7, 8, 10, 12, 14, 16, 18] (by rfl) fun K hK => ?_
  refine aOps_callV (V := .tuple [.str (showE [80, 73, 67, 32, 65, 34, 66, 34]).1, faultA ⟨4, 1, 16⟩]) (by rfl) (by rfl) (c_showF w₀ hm _ _ (by decide) sh9) ?_
  simp (decide := true) only [ev, putD, Slots.put, Slots.get, if_true, if_false, true_and, ↓ap_move, pop_move, ↓ap_extract, pop_extract, pExt_tuple, List.getD_cons_zero, List.getD_cons_succ, List.getD_cons_zero, List.getD_cons_succ, faultA]
  refine aOps_alloc ze31 (cs := [.int .i64 0, .int .i64 0, .int .i64 0]) (by rfl) fun k9q4 hk9q4 => ?_
  have ne_9q4_1q4 : k9q4 ≠ k1q4 := by simp only [AHeap.set_none] at hk9q4; simp only [hk9q4, ne_eq, not_false_eq_true]
  have ne_9q4_2q4 : k9q4 ≠ k2q4 := by simp only [AHeap.set_none] at hk9q4; simp only [hk9q4, ne_eq, not_false_eq_true]
  have ne_9q4_3q4 : k9q4 ≠ k3q4 := by simp only [AHeap.set_none] at hk9q4; simp only [hk9q4, ne_eq, not_false_eq_true]
  have ne_9q4_4q4 : k9q4 ≠ k4q4 := by simp only [AHeap.set_none] at hk9q4; simp only [hk9q4, ne_eq, not_false_eq_true]
  have ne_9q4_5q4 : k9q4 ≠ k5q4 := by simp only [AHeap.set_none] at hk9q4; simp only [hk9q4, ne_eq, not_false_eq_true]
  have ne_9q4_6q4 : k9q4 ≠ k6q4 := by simp only [AHeap.set_none] at hk9q4; simp only [hk9q4, ne_eq, not_false_eq_true]
  have ne_9q4_7q4 : k9q4 ≠ k7q4 := by simp only [AHeap.set_none] at hk9q4; simp only [hk9q4, ne_eq, not_false_eq_true]
  have ne_9q4_8q4 : k9q4 ≠ k8q4 := by simp only [AHeap.set_none] at hk9q4; simp only [hk9q4, ne_eq, not_false_eq_true]
  try have hf_9q4 : h k9q4 = none := by first | assumption | (simp only [AHeap.set_none] at hk9q4; simp only [hk9q4])
  simp (decide := true) only [ev, putD, Slots.put, Slots.get, if_true, if_false, true_and, ↓ap_assign, pop_assign]
  refine aOps_store (by rfl) (by rfl) (by repeat (first | exact AHeap.set_same _ _ _ | assumption | refine (AHeap.set_ne _ _ (by first | assumption | exact Ne.symm (by assumption))).trans ?_)) sz31 (by rfl) (by rfl) (by first | exact Nat.le_refl _ | decide | (simp; done) | (simp; omega)) (Nat.zero_le _) (by rfl) ?_
  simp only [AHeap.set_set, AVal.cells]
  simp (decide := true) only [aOps_nil, ev, putD, Slots.get, Slots.keep, if_true, if_false, setAt, List.set_cons_zero, List.set_cons_succ, Nat.zero_add, Nat.reduceAdd]
  apply hK; clear hK K
  -- region 10  law.go:81
  refine awp_rseq [1, 2, 3, 4, 5, 6, 7, 8, 10, 12, 14, 16, 18, 19] (by rfl) fun K hK => ?_
  simp (decide := true) only [ev, absV, absS, putD, Slots.put, Slots.get, if_false, true_and, ↓ap_build, ↓pop_buildL, bld31_, evP, List.map_nil]
  refine aOps_alloc ze31 (cs := [.int .i64 0, .int .i64 0, .int .i64 0]) (by rfl) fun k10q1 hk10q1 => ?_
  have ne_10q1_1q4 : k10q1 ≠ k1q4 := by simp only [AHeap.set_none] at hk10q1; simp only [hk10q1, ne_eq, not_false_eq_true]
  have ne_10q1_2q4 : k10q1 ≠ k2q4 := by simp only [AHeap.set_none] at hk10q1; simp only [hk10q1, ne_eq, not_false_eq_true]
  have ne_10q1_3q4 : k10q1 ≠ k3q4 := by simp only [AHeap.set_none] at hk10q1; simp only [hk10q1, ne_eq, not_false_eq_true]
  have ne_10q1_4q4 : k10q1 ≠ k4q4 := by simp only [AHeap.set_none] at hk10q1; simp only [hk10q1, ne_eq, not_false_eq_true]
  have ne_10q1_5q4 : k10q1 ≠ k5q4 := by simp only [AHeap.set_none] at hk10q1; simp only [hk10q1, ne_eq, not_false_eq_true]
  have ne_10q1_6q4 : k10q1 ≠ k6q4 := by simp only [AHeap.set_none] at hk10q1; simp only [hk10q1, ne_eq, not_false_eq_true]
  have ne_10q1_7q4 : k10q1 ≠ k7q4 := by simp only [AHeap.set_none] at hk10q1; simp only [hk10q1, ne_eq, not_false_eq_true]
  have ne_10q1_8q4 : k10q1 ≠ k8q4 := by simp only [AHeap.set_none] at hk10q1; simp only [hk10q1, ne_eq, not_false_eq_true]
  have ne_10q1_9q4 : k10q1 ≠ k9q4 := by simp only [AHeap.set_none] at hk10q1; simp only [hk10q1, ne_eq, not_false_eq_true]
  try have hf_10q1 : h k10q1 = none := by first | assumption | (simp only [AHeap.set_none] at hk10q1; simp only [hk10q1])
  refine aOps_store (by rfl) (by rfl) (by repeat (first | exact AHeap.set_same _ _ _ | assumption | refine (AHeap.set_ne _ _ (by first | assumption | exact Ne.symm (by assumption))).trans ?_)) sz31 (by rfl) (by rfl) (by first | exact Nat.le_refl _ | decide | (simp; done) | (simp; omega)) (Nat.zero_le _) (by rfl) ?_
  simp only [AHeap.set_set, AVal.cells]
  simp (decide := true) only [aOps_nil, ev, putD, Slots.put, Slots.get, Slots.keep, if_true, if_false, setAt, List.set_cons_zero, List.set_cons_succ, Nat.zero_add, Nat.reduceAdd]
  apply hK; clear hK K
  refine awp_seq ?_
  -- region 11  law.go:82
  refine awp_rseq [10, 12, 14, 16, 18, 90] (by kernel_rfl) fun K hK => ?_
  simp (decide := true) only [aOps_nil, ev, absV, absS, putD, Slots.put, Slots.get, Slots.keep, if_true, if_false, true_and, ↓ap_loadL, apL_mk, pLoad_agg ag31 sz31, ↓ap_binOp, pop_binOp, isNilC_tmp, cond_false, pBinX_agg, ne31, ↓ap_move, pop_move, ↓ag_loadL, agQL_some, agL_mk, agP, agQ_some, nthDst, gKnown_bool, guardB_bool_false, implies_true, decide_true, Bool.not_false, Bool.not_true, condV_true, Bool.and_true, ↓ag_binOp, ↓ap_pick, pop_pick, pPick_bool, pickV_and, ↓ag_move, isNilC_str, pBinX_str, pS_neq, rd_ne', ne_eq, not_false_eq_true, ne_2q4_1q4.symm, ne_3q4_1q4.symm, ne_3q4_2q4.symm, ne_4q4_1q4.symm, ne_4q4_2q4.symm, ne_4q4_3q4.symm, ne_5q4_1q4.symm, ne_5q4_2q4.symm, ne_5q4_3q4.symm, ne_5q4_4q4.symm, ne_6q4_1q4.symm, ne_6q4_2q4.symm, ne_6q4_3q4.symm, ne_6q4_4q4.symm, ne_7q4_1q4.symm, ne_7q4_2q4.symm, ne_7q4_3q4.symm, ne_7q4_4q4.symm, ne_8q4_1q4.symm, ne_8q4_2q4.symm, ne_8q4_3q4.symm, ne_8q4_4q4.symm, ne_9q4_1q4.symm, ne_9q4_2q4.symm, ne_9q4_3q4.symm, ne_9q4_4q4.symm, ne_10q1_1q4.symm, ne_10q1_2q4.symm, ne_10q1_3q4.symm, ne_10q1_4q4.symm, rd_any, cellsAt, List.getD_cons_zero, List.getD_cons_succ, Nat.zero_add, Nat.reduceAdd, lv_int, allLive, Bool.and_true]
  apply hK; clear hK K
  refine awp_cond (b := _) rfl (fun hb1 => ?_) (fun hb1 => ?_)
  · exact absurd hb1 (by decide)
  · try simp only at hb1
    refine awp_skip ?_
    change Awp _ _ _ _ _ _ _
    -- region 13  law.go:85
    refine awp_rseq [0] (by kernel_rfl) fun K hK => ?_
    simp (decide := true) only [aOps_nil, ev, absV, absS, putD, Slots.put, Slots.get, Slots.keep, if_true, if_false, true_and, ↓ap_loadL, apL_mk, pLoad_agg ag31 sz31, ↓ap_build, ↓pop_buildL, bld29_0_1, evP, List.map_cons, List.map_nil, bld31_0_1, ↓ap_binOp, pop_binOp, isNilC_tmp, cond_false, pBinX_agg, eq31, ↓ap_move, pop_move, ↓ag_loadL, agQL_some, agL_mk, agP, agQ_some, nthDst, gKnown_bool, guardB_bool_true, implies_true, decide_true, condV_true, Bool.and_true, ↓ag_build, ↓ag_binOp, ↓ap_pick, pop_pick, pPick_bool, pickV_and, ↓ap_assign, pop_assign, rd_ne', ne_eq, not_false_eq_true, ne_6q4_5q4.symm, ne_7q4_5q4.symm, ne_7q4_6q4.symm, ne_8q4_5q4.symm, ne_8q4_6q4.symm, ne_8q4_7q4.symm, ne_9q4_5q4.symm, ne_9q4_6q4.symm, ne_9q4_7q4.symm, ne_9q4_8q4.symm, ne_10q1_5q4.symm, ne_10q1_6q4.symm, ne_10q1_7q4.symm, ne_10q1_8q4.symm, ne_10q1_9q4.symm, rd_any, cellsAt, List.getD_cons_zero, List.getD_cons_succ, Nat.zero_add, Nat.reduceAdd, lv_int, allLive, Bool.and_true]
    apply hK; clear hK K
    refine awp_ret ?_
    refine retA_ret h (by repeat (first | exact Sub.refl _ | assumption | refine Sub.trans_set ?_ (by assumption))) (resPre_tmp (resPre_nil)) ?_
    simp (decide := true) only [Slots.get, if_true, and_true, resOf_one]
    all_goals first | rfl | exact ⟨rfl, rfl⟩ | (simp (decide := true) only [if_true, if_false, *]; done) | (trace_state; fail)
end Go.Proofs.YtmadddihphkmoaaGreatDoor

/-
  An assertion layer over the model's wp, part BB: a long statement, walked piece by piece.
  Conditions: none. Nothing here is about a particular program.
-/
namespace Go.AM
section
variable {P : Program} {w₀ : World} {ops : List Oper} {K : Slots → AHeap → Prop}
end
end Go.AM

/-
  Contracts: the reference's small functions.
  Conditions: none.
-/
namespace Go.Proofs.YtmadddihphkmoaaGreatDoor
open Go.AM
open Go.Proofs
open Go.Col
open Go.Tok
open Go.RowKit (Below)
set_option maxRecDepth 100000

end Go.Proofs.YtmadddihphkmoaaGreatDoor

/-
  Contracts: fold, name, picture, quote of the reference.
  Conditions: none.
-/
namespace Go.Proofs.YtmadddihphkmoaaGreatDoor
open Go.AM
open Go.Proofs
open Go.Col
open Go.Tok
open Go.RowKit (Below)
set_option maxRecDepth 100000

end Go.Proofs.YtmadddihphkmoaaGreatDoor

/-
  Contracts: picture, numeral of the reference.
  Conditions: none.
-/
namespace Go.Proofs.YtmadddihphkmoaaGreatDoor
open Go.AM
open Go.Proofs
open Go.Col
open Go.Tok
open Go.RowKit (Below)
set_option maxRecDepth 100000

end Go.Proofs.YtmadddihphkmoaaGreatDoor

/-
  Contracts: token of the reference.
  Conditions: none.
-/
namespace Go.Proofs.YtmadddihphkmoaaGreatDoor
open Go.AM
open Go.Proofs
open Go.Col
open Go.Tok
open Go.RowKit (Below)
set_option maxRecDepth 100000

end Go.Proofs.YtmadddihphkmoaaGreatDoor

/-
  Plain lemmas for token of the reference: nextE case by case.
  Conditions: none.
-/
namespace Go.Proofs.YtmadddihphkmoaaGreatDoor
open Go.AM
open Go.Proofs
open Go.Col
open Go.Tok
open Go.RowKit (Below)
set_option maxRecDepth 100000

theorem take_one {s : Str} {i : Nat} (h : i < s.length) : (s.drop i).take 1 = [peekE s i] := by
  rw [drop_eq h, peekE_lt h]
  rfl
end Go.Proofs.YtmadddihphkmoaaGreatDoor

/-
  Contracts: token of the reference.
  Conditions: none.
-/
namespace Go.Proofs.YtmadddihphkmoaaGreatDoor
open Go.AM
open Go.Proofs
open Go.Col
open Go.Tok
open Go.RowKit (Below)
set_option maxRecDepth 100000

end Go.Proofs.YtmadddihphkmoaaGreatDoor

/-
  Contracts: Scan of the reference.
  Conditions: none.
-/
namespace Go.Proofs.YtmadddihphkmoaaGreatDoor
open Go.AM
open Go.Proofs
open Go.Col
open Go.Tok
open Go.RowKit (Below)
set_option maxRecDepth 100000

end Go.Proofs.YtmadddihphkmoaaGreatDoor

/-
  Contracts: space of the package columns; Printable of the package chars.
  Conditions: none.
-/
namespace Go.Proofs.YtmadddihphkmoaaGreatDoor
open Go.AM
open Go.Proofs
open Go.Col
set_option maxRecDepth 100000

theorem c_space1 (w₀ : World) (h : AHeap) (k3 k5 k7 : Nat) (s : Str) (q : Bool) (i : Nat) (f : Nat) (h3 : h k3 = some ⟨[.str s], 0⟩) (h5 : h k5 = some ⟨[.bool q], 0⟩) (h7 : h k7 = some ⟨[.int .i64 f], 0⟩) (n53 : k5 ≠ k3) (n73 : k7 ≠ k3) (n75 : k7 ≠ k5) (hi : i < s.length) :
    ACall Tryz.prog w₀ 98 [.int .i64 i, .ptr (.own k3) 0, .ptr (.own k5) 0, .ptr (.own k7) 0] h
      (fun v h' => v = .tuple [] ∧ h' = (h.set k5 ⟨[.bool (if s.getD i 0 = 34 then !q else q)], 0⟩).set k7 ⟨[.int .i64 (if s.getD i 0 = 32 ∧ (if s.getD i 0 = 34 then !q else q) = false ∧ 0 < i then (i : Nat) else f : Nat)], 0⟩) := by
  have r3 := fun o => rd_own w₀ h3 o
  have r5 := fun o => rd_own w₀ h5 o
  have q3 : (h.set k5 ⟨[.bool (!q)], 0⟩) k3 = some ⟨[.str s], 0⟩ := (AHeap.set_ne _ _ n53.symm).trans h3
  have r3' := fun o => rd_own w₀ q3 o
  have hself5 := set_same_self h5
  have h7' := (AHeap.set_ne h ⟨[.bool (!q)], 0⟩ n75).trans h7
  have hself7 := set_same_self h7
  have hself7' := set_same_self h7'
  refine acall_intro (n := 24) (rs := []) Tryz.func98 rfl rfl rfl rfl (Nat.le_of_ble_eq_true rfl) ?_
  simp only [initSlots]
  refine awp_seq ?_
  -- region 0  columns.go:196
  refine awp_rseq [0, 1, 2, 3, 8] (by rfl) fun K hK => ?_
  simp (decide := true) only [aOps_nil, ev, absV, absS, putD, Slots.put, Slots.get, Slots.keep, if_true, if_false, true_and, ↓ap_loadL, apL_mk, pLoad_one ag9, ↓ap_move, pop_move, ↓ap_index, pop_index, pIndex_str Tryz.underlying9, ↓ap_binOp, pop_binOp, isNilC_int, cond_false, pBinX_int, pI_eql, List.getD_cons_zero, Nat.zero_add, Nat.reduceAdd, lv_str, r3, Int.toNat_natCast]
  repeat (with_reducible refine And.intro ?_ ?_; · first | trivial | omega | (intro hg; simp only [Bool.and_eq_true, Bool.or_eq_true, Bool.not_eq_true', Bool.and_eq_false_iff, Bool.or_eq_false_iff, Bool.not_eq_false', decide_eq_true_eq, decide_eq_false_iff_not, eqNil] at hg; omega) )
  apply hK; clear hK K
  refine awp_cond (b := _) rfl (fun hb1 => ?_) (fun hb1 => ?_)
  · try simp only [decide_eq_true_eq] at hb1
    have e34 : s.getD i 0 = 34 := (u8_eq _ 34).mp hb1
    -- region 1  columns.go:197
    refine awp_r [0, 1, 2, 3] (by rfl) ?_
    simp (decide := true) only [ev, putD, Slots.put, Slots.get, if_true, if_false, true_and, ↓ap_loadL, apL_mk, pLoad_one ag4, ↓ap_unOp, pop_unOp, pU_not, List.getD_cons_zero, lv_bool, r5]
    refine aOps_store (v := .bool (!q)) (by rfl) (by rfl) h5 sz4 (by rfl) (by rfl) (by simp) (Nat.zero_le _) (by rfl) ?_
    simp only [setAt, AVal.cells, List.set_cons_zero]
    simp (decide := true) only [aOps_nil, putD, Slots.keep, if_true, if_false]
    change Awp _ _ _ _ _ _ _
    -- region 2  columns.go:199
    refine awp_rseq [0, 3, 22] (by rfl) fun K hK => ?_
    simp (decide := true) only [aOps_nil, ev, absV, absS, putD, Slots.put, Slots.get, Slots.keep, if_true, if_false, true_and, ↓ap_loadL, apL_mk, pLoad_one ag9, ↓ap_move, pop_move, ↓ap_index, pop_index, pIndex_str Tryz.underlying9, ↓ap_binOp, pop_binOp, isNilC_int, cond_false, pBinX_int, pI_eql, ↓ag_loadL, agQL_some, agL_mk, agP, agQ_some, nthDst, gKnown_bool, guardB_bool_true, implies_true, Bool.not_not, pLoad_one ag4, ↓ag_unOp, pop_unOp, pU_not, cv_un, cp_un, ↓ap_pick, pop_pick, pPick_bool, pickV_cond_l, pickV_and, ↓ag_move, ↓ag_binOp, cv_binl, cp_binl, pI_gtr, rd_any, List.getD_cons_zero, lv_bool, lv_str, r3', Int.toNat_natCast]
    repeat (with_reducible refine And.intro ?_ ?_; · first | trivial | omega | (intro hg; simp only [Bool.and_eq_true, Bool.or_eq_true, Bool.not_eq_true', Bool.and_eq_false_iff, Bool.or_eq_false_iff, Bool.not_eq_false', decide_eq_true_eq, decide_eq_false_iff_not, eqNil] at hg; omega) )
    apply hK; clear hK K
    refine awp_cond (b := _) rfl (fun hb2 => ?_) (fun hb2 => ?_)
    · try simp only [decide_eq_true_eq, Bool.and_eq_true] at hb2
      -- region 3  columns.go:200
      refine awp_r [] (by rfl) ?_
      simp (decide := true) only [ev, putD, Slots.put, Slots.get, if_true, if_false, true_and, ↓ap_move, pop_move]
      skip
      first
      | refine aOps_store (v := .int .i64 i) (by rfl) (by rfl) h7 sz3 (by rfl) (by rfl) (by simp) (Nat.zero_le _) (by rfl) ?_
      | refine aOps_store (v := .int .i64 i) (by rfl) (by rfl) h7' sz3 (by rfl) (by rfl) (by simp) (Nat.zero_le _) (by rfl) ?_
      simp only [setAt, AVal.cells, List.set_cons_zero]
      simp (decide := true) only [aOps_nil, putD, Slots.keep, if_false]
      refine retA_end _ (Sub.refl _) (resPre_nil) ?_
      simp (decide := true) only [true_and, resOf_nil]
      rw [if_pos e34, if_pos ⟨(u8_eq _ 32).mp hb2.1.1, by rw [hb2.1.2]; rfl, by omega⟩]
    · try simp only [decide_eq_false_iff_not, Bool.and_eq_false_iff] at hb2
      refine awp_skip ?_
      refine retA_end _ (Sub.refl _) (resPre_nil) ?_
      simp (decide := true) only [true_and, resOf_nil]
      rw [if_pos e34, if_neg, hself7']
      rintro ⟨a, b, c⟩
      rcases hb2 with (e | e) | e
      · exact e ((u8_eq _ 32).mpr a)
      · rw [e] at b; cases b
      · omega
  · try simp only [decide_eq_false_iff_not] at hb1
    have e34 : ¬ s.getD i 0 = 34 := fun e => hb1 ((u8_eq _ 34).mpr e)
    refine awp_skip ?_
    change Awp _ _ _ _ _ _ _
    -- region 2  columns.go:199
    refine awp_rseq [0, 3, 22] (by rfl) fun K hK => ?_
    simp (decide := true) only [aOps_nil, ev, absV, absS, putD, Slots.put, Slots.get, Slots.keep, if_true, if_false, true_and, ↓ap_loadL, apL_mk, pLoad_one ag9, ↓ap_move, pop_move, ↓ap_index, pop_index, pIndex_str Tryz.underlying9, ↓ap_binOp, pop_binOp, isNilC_int, cond_false, pBinX_int, pI_eql, ↓ag_loadL, agQL_some, agL_mk, agP, agQ_some, nthDst, gKnown_bool, guardB_bool_true, implies_true, pLoad_one ag4, ↓ag_unOp, pop_unOp, pU_not, cv_un, cp_un, ↓ap_pick, pop_pick, pPick_bool, pickV_cond_l, pickV_and, ↓ag_move, ↓ag_binOp, cv_binl, cp_binl, pI_gtr, List.getD_cons_zero, lv_bool, lv_str, r3, r5, Int.toNat_natCast]
    repeat (with_reducible refine And.intro ?_ ?_; · first | trivial | omega | (intro hg; simp only [Bool.and_eq_true, Bool.or_eq_true, Bool.not_eq_true', Bool.and_eq_false_iff, Bool.or_eq_false_iff, Bool.not_eq_false', decide_eq_true_eq, decide_eq_false_iff_not, eqNil] at hg; omega) )
    apply hK; clear hK K
    refine awp_cond (b := _) rfl (fun hb3 => ?_) (fun hb3 => ?_)
    · try simp only [decide_eq_true_eq, Bool.not_eq_true', Bool.and_eq_true] at hb3
      -- region 3  columns.go:200
      refine awp_r [] (by rfl) ?_
      simp (decide := true) only [ev, putD, Slots.put, Slots.get, if_true, if_false, true_and, ↓ap_move, pop_move]
      skip
      first
      | refine aOps_store (v := .int .i64 i) (by rfl) (by rfl) h7 sz3 (by rfl) (by rfl) (by simp) (Nat.zero_le _) (by rfl) ?_
      | refine aOps_store (v := .int .i64 i) (by rfl) (by rfl) h7' sz3 (by rfl) (by rfl) (by simp) (Nat.zero_le _) (by rfl) ?_
      simp only [setAt, AVal.cells, List.set_cons_zero]
      simp (decide := true) only [aOps_nil, putD, Slots.keep, if_false]
      refine retA_end _ (Sub.refl _) (resPre_nil) ?_
      simp (decide := true) only [true_and, resOf_nil]
      rw [if_neg e34, if_pos ⟨(u8_eq _ 32).mp hb3.1.1, hb3.1.2, by omega⟩, hself5]
    · try simp only [decide_eq_false_iff_not, Bool.not_eq_false', Bool.and_eq_false_iff] at hb3
      refine awp_skip ?_
      refine retA_end _ (Sub.refl _) (resPre_nil) ?_
      simp (decide := true) only [true_and, resOf_nil]
      rw [if_neg e34, if_neg, hself5, hself7]
      rintro ⟨a, b, c⟩
      rcases hb3 with (e | e) | e
      · exact e ((u8_eq _ 32).mpr a)
      · rw [e] at b; cases b
      · omega

theorem spaceGo_step {s : Str} {i n : Nat} {q : Bool} {f : Nat} (hi : i < s.length) (hn : i ≤ n) : spaceGo (s.drop i) i n q f = spaceGo (s.drop (i + 1)) (i + 1) n (if s.getD i 0 = 34 then !q else q) (if s.getD i 0 = 32 ∧ (if s.getD i 0 = 34 then !q else q) = false ∧ 0 < i then i else f) := by
  rw [List.drop_eq_getElem_cons hi, spaceGo, if_neg (by omega)]
  simp only [List.getD, List.getElem?_eq_getElem hi, Option.getD_some]
theorem spaceGo_stop {s : Str} {i n : Nat} {q : Bool} {f : Nat} (h : n < i ∨ s.length ≤ i) : spaceGo (s.drop i) i n q f = f := by
  rcases h with h | h
  · cases s.drop i with
    | nil => rfl
    | cons b l => rw [spaceGo, if_pos h]
  · rw [List.drop_of_length_le h]
    rfl
structure SpG where
  i : Nat
  q : Bool
  f : Nat
theorem c_space (w₀ : World) (h : AHeap) (s : Str) (n : Nat) (q : Bool) (hl : s.length ≤ 4611686018427387904) (hn : n ≤ 1099511627776) : ACall Tryz.prog w₀ 72 [.str s, .int .i64 n, .bool q] h (fun v h' => v = .int .i64 (spaceE s n q) ∧ h' = h) := by
  refine acall_intro (n := 26) (rs := [.tmp 6]) Tryz.func72 rfl rfl rfl rfl (Nat.le_of_ble_eq_true rfl) ?_
  simp only [initSlots]
  -- region 0  columns.go:193
  refine awp_rseq [1, 3, 5] (by rfl) fun K hK => ?_
  refine aOps_box (by rfl) (by rfl) (by rfl) fun k0q0 hk0q0 => ?_
  try have hf_0q0 : h k0q0 = none := by first | assumption | (simp only [AHeap.set_none] at hk0q0; simp only [hk0q0])
  skip
  refine aOps_box (by rfl) (by rfl) (by rfl) fun k0q1 hk0q1 => ?_
  have ne_0q1_0q0 : k0q1 ≠ k0q0 := by simp only [AHeap.set_none] at hk0q1; simp only [hk0q1, ne_eq, not_false_eq_true]
  try have hf_0q1 : h k0q1 = none := by first | assumption | (simp only [AHeap.set_none] at hk0q1; simp only [hk0q1])
  skip
  simp (decide := true) only [aOps_nil, ev, absV, absS, putD, Slots.put, Slots.get, Slots.keep, if_true, if_false, true_and, ↓ap_assign, pop_assign, AVal.cells, Nat.zero_add, Nat.reduceAdd]
  apply hK; clear hK K
  -- region 1  columns.go:194
  refine awp_rseq [1, 3, 5, 7] (by rfl) fun K hK => ?_
  refine aOps_alloc ze3 (cs := [.int .i64 0]) (by rfl) fun k1q0 hk1q0 => ?_
  have ne_1q0_0q0 : k1q0 ≠ k0q0 := by simp only [AHeap.set_none] at hk1q0; simp only [hk1q0, ne_eq, not_false_eq_true]
  have ne_1q0_0q1 : k1q0 ≠ k0q1 := by simp only [AHeap.set_none] at hk1q0; simp only [hk1q0, ne_eq, not_false_eq_true]
  try have hf_1q0 : h k1q0 = none := by first | assumption | (simp only [AHeap.set_none] at hk1q0; simp only [hk1q0])
  refine aOps_store (by rfl) (by rfl) (by repeat (first | exact AHeap.set_same _ _ _ | assumption | refine (AHeap.set_ne _ _ (by first | assumption | exact Ne.symm (by assumption))).trans ?_)) sz3 (by rfl) (by rfl) (by first | exact Nat.le_refl _ | decide | (simp; done) | (simp; omega)) (Nat.zero_le _) (by rfl) ?_
  simp only [AHeap.set_set, AVal.cells]
  simp (decide := true) only [aOps_nil, ev, absV, absS, putD, Slots.put, Slots.keep, if_true, if_false, setAt, List.set_cons_zero]
  apply hK; clear hK K
  -- region 2  columns.go:195
  refine awp_rseq [1, 3, 7, 8] (by rfl) fun K hK => ?_
  simp (decide := true) only [aOps_nil, ev, putD, Slots.put, Slots.get, Slots.keep, if_true, if_false, true_and, ↓ap_makeFunc, pop_makeFunc, evs, List.map_cons, List.map_nil, ↓ap_assign, pop_assign]
  apply hK; clear hK K
  refine awp_seq ?_
  -- region 3  columns.go:203
  refine awp_rseq [1, 3, 7, 8, 9] (by rfl) fun K hK => ?_
  simp (decide := true) only [aOps_nil, ev, absV, absS, putD, Slots.put, Slots.keep, if_true, if_false, true_and, ↓ap_assign, pop_assign]
  apply hK; clear hK K
  refine awp_block ?_
  refine awp_loopG [1, 3, 7, 8, 9] (fun g : SpG => [(1, .int .i64 n), (3, .ptr (.own k0q0) 0), (7, .ptr (.own k1q0) 0), (8, .func 98 [.ptr (.own k0q0) 0, .ptr (.own k0q1) 0, .ptr (.own k1q0) 0]), (9, .int .i64 g.i)]) (fun g : SpG => ((h.set k0q0 ⟨[.str s], 0⟩).set k0q1 ⟨[.bool g.q], 0⟩).set k1q0 ⟨[.int .i64 g.f], 0⟩) (fun g : SpG => g.i ≤ s.length ∧ g.i ≤ n + 1 ∧ spaceGo (s.drop g.i) g.i n g.q g.f = spaceE s n q) (fun g : SpG => s.length - g.i) ⟨0, q, 0⟩ (by rfl) (Sub.refl _) ⟨Nat.zero_le _, Nat.zero_le _, rfl⟩ ?_
  rintro ⟨i, q', f⟩ ⟨hi, hin, hg⟩
  simp only at hi hin hg ⊢
  refine awp_seq ?_
  -- region 4  columns.go:203
  refine awp_rseq [1, 3, 7, 8, 9, 19] (by rfl) fun K hK => ?_
  simp (decide := true) only [aOps_nil, ev, absV, absS, putD, Slots.put, Slots.get, Slots.keep, if_true, if_false, true_and, ↓ap_move, pop_move, ↓ap_binOp, pop_binOp, isNilC_tmp, cond_false, pBinX_int, pI_leq, ↓ag_move, agP, agQ_some, nthDst, gKnown_bool, guardB_bool_true, implies_true, ↓ag_loadL, agQL_some, agL_mk, pLoad_one ag9, ↓ag_len, pop_len, pLen_str Tryz.underlying9, cv_len, cp_len, ↓ag_binOp, cv_binl, cv_binr, cp_binl, cp_binr, pI_lss, ↓ap_pick, pop_pick, pPick_bool, pickV_cond_l, pickV_and, rd_ne', ne_eq, not_false_eq_true, ne_0q1_0q0.symm, ne_1q0_0q0.symm, rd_any, List.getD_cons_zero, lv_str]
  apply hK; clear hK K
  refine awp_cond (b := _) rfl (fun hb1 => ?_) (fun hb1 => ?_)
  · try simp only [decide_eq_true_eq, Bool.and_eq_true] at hb1
    have hi' : i < s.length := by omega
    refine awp_skip ?_
    change Awp _ _ _ _ _ _ _
    refine awp_seq ?_
    refine awp_block ?_
    -- region 6  columns.go:204
    refine awp_r [1, 3, 7, 8, 9] (by rfl) ?_
    simp (decide := true) only [ev, putD, Slots.put, Slots.get, if_true, if_false, true_and, ↓ap_move, pop_move]
    refine aOps_call (by rfl) (by rfl) (c_space1 w₀ _ k0q0 k0q1 k1q0 s q' i f (by repeat (first | exact AHeap.set_same _ _ _ | assumption | refine (AHeap.set_ne _ _ (by first | assumption | exact Ne.symm (by assumption))).trans ?_)) (by repeat (first | exact AHeap.set_same _ _ _ | assumption | refine (AHeap.set_ne _ _ (by first | assumption | exact Ne.symm (by assumption))).trans ?_)) (by repeat (first | exact AHeap.set_same _ _ _ | assumption | refine (AHeap.set_ne _ _ (by first | assumption | exact Ne.symm (by assumption))).trans ?_)) (by assumption) (by assumption) (by assumption) hi') fun x6q2 h6q2 hx6q2 => ?_
    obtain ⟨rfl, rfl⟩ := hx6q2
    simp (decide := true) only [aOps_nil, putD, Slots.put, Slots.keep, if_true, if_false]
    change Awp _ _ _ _ _ _ _
    -- region 5  columns.go:203
    refine awp_r [1, 3, 7, 8, 9] (by rfl) ?_
    simp (decide := true) only [aOps_nil, ev, absV, absS, putD, Slots.put, Slots.get, Slots.keep, if_true, if_false, true_and, ↓ap_move, pop_move, ↓ap_binOp, pop_binOp, isNilC_int, cond_false, pBinX_int, pI_add, ↓ap_assign, pop_assign]
    try simp (disch := omega) only [wrap_i64]
    try simp only [thenA_normal]
    refine ⟨⟨i + 1, _, _⟩, rfl, ?_, ⟨hi', by simp only; omega, by simp only; rw [← hg, spaceGo_step hi' (by omega)]⟩, by simp only; omega⟩
    rw [AHeap.set_comm _ _ _ ne_1q0_0q1.symm, AHeap.set_set, AHeap.set_set]
    exact Sub.refl _
  · try simp only [decide_eq_false_iff_not, Bool.and_eq_false_iff] at hb1
    refine awp_exit ?_
    change Awp _ _ _ _ _ _ _
    -- region 7  columns.go:206
    refine awp_rseq [6] (by rfl) fun K hK => ?_
    simp (decide := true) only [aOps_nil, ev, putD, Slots.put, Slots.get, Slots.keep, if_true, if_false, true_and, ↓ap_loadL, apL_mk, pLoad_one ag3, ↓ap_assign, pop_assign, rd_any, List.getD_cons_zero, lv_int]
    apply hK; clear hK K
    refine awp_ret ?_
    refine retA_ret h (by repeat (first | exact Sub.refl _ | assumption | refine Sub.trans_set ?_ (by assumption))) (resPre_tmp (resPre_nil)) ?_
    simp (decide := true) only [Slots.get, if_true, and_true, resOf_one]
    rw [← hg, spaceGo_stop (by omega)]

/-! ### Printable -/
theorem c_prt1 (w₀ : World) (h : AHeap) (b : UInt8) : ACall Tryz.prog w₀ 69 [.int .u8 b.toNat] h (fun v h' => v = .bool (okB b) ∧ h' = h) := by
  refine acall_intro (n := 9) (rs := [.tmp 2]) Tryz.func69 rfl rfl rfl rfl (Nat.le_of_ble_eq_true rfl) ?_
  simp only [initSlots]
  -- region 0  chars.go:43
  refine awp_rseq [0] (by rfl) fun K hK => ?_
  simp (decide := true) only [aOps_nil, ev, absV, absS, putD, Slots.put, Slots.keep, if_true, if_false, true_and, ↓ap_assign, pop_assign]
  apply hK; clear hK K
  -- region 1  chars.go:43
  refine awp_rseq [2] (by rfl) fun K hK => ?_
  simp (decide := true) only [aOps_nil, ev, absV, absS, putD, Slots.put, Slots.get, Slots.keep, if_true, if_false, true_and, ↓ap_move, pop_move, ↓ap_binOp, pop_binOp, isNilC_int, cond_false, pBinX_int, pI_geq, ↓ag_move, agP, agQ_some, nthDst, gKnown_bool, guardB_bool_true, implies_true, ↓ag_binOp, cv_binl, cp_binl, pI_leq, ↓ap_pick, pop_pick, pPick_bool, pickV_cond_l, pickV_and, ↓ap_assign, pop_assign]
  apply hK; clear hK K
  refine awp_ret ?_
  refine retA_ret _ (Sub.refl _) (resPre_tmp (resPre_nil)) ?_
  simp (decide := true) only [Slots.get, if_true, and_true, resOf_one]
  unfold okB
  congr 1
  rw [Bool.eq_iff_iff]
  simp only [Bool.and_eq_true, decide_eq_true_eq]
  omega
theorem c_all (w₀ : World) (h : AHeap) (s : Str) (hl : s.length ≤ 4611686018427387904) : ACall Tryz.prog w₀ 68 [.str s, .func 69 []] h (fun v h' => v = .bool (s.all okB) ∧ h' = h) := by
  refine acall_intro (n := 18) (rs := [.tmp 4]) Tryz.func68 rfl rfl rfl rfl (Nat.le_of_ble_eq_true rfl) ?_
  simp only [initSlots]
  -- region 0  chars.go:21
  refine awp_rseq [0, 1] (by rfl) fun K hK => ?_
  simp (decide := true) only [aOps_nil, ev, absV, absS, putD, Slots.put, Slots.keep, if_true, if_false, true_and, ↓ap_assign, pop_assign]
  apply hK; clear hK K
  refine awp_seq ?_
  -- region 1  chars.go:22
  refine awp_rseq [0, 1, 7, 8] (by rfl) fun K hK => ?_
  simp (decide := true) only [aOps_nil, ev, absV, absS, putD, Slots.put, Slots.get, Slots.keep, if_true, if_false, true_and, ↓ap_move, pop_move, ↓ap_len, pop_len, pLen_str Tryz.underlying9]
  apply hK; clear hK K
  refine awp_block ?_
  refine awp_loopG [0, 1, 7, 8] (fun i : Nat => [(0, .str s), (1, .func 69 []), (7, .int .i64 s.length), (8, .int .i64 i)]) (fun i : Nat => h) (fun i : Nat => i ≤ s.length ∧ (s.drop i).all okB = s.all okB) (fun i : Nat => s.length - i) 0 rfl (Sub.refl _) ⟨Nat.zero_le _, rfl⟩ ?_
  rintro i ⟨hi, hg⟩
  -- region 2  chars.go:22
  refine awp_rseq [0, 1, 7, 8, 9] (by rfl) fun K hK => ?_
  simp (decide := true) only [aOps_nil, ev, putD, Slots.put, Slots.get, Slots.keep, if_true, if_false, true_and, ↓ap_binOp, pop_binOp, isNilC_tmp, cond_false, pBinX_int, pI_lss]
  apply hK; clear hK K
  refine awp_seq (awp_cond (b := _) rfl (fun hb1 => ?_) (fun hb1 => ?_))
  · try simp only [decide_eq_true_eq] at hb1
    have hi' : i < s.length := by omega
    have hd : s.drop i = s.getD i 0 :: s.drop (i + 1) := by rw [List.drop_eq_getElem_cons hi']; simp [List.getD, hi']
    rw [hd, List.all_cons] at hg
    refine awp_skip ?_
    change Awp _ _ _ _ _ _ _
    refine awp_seq ?_
    refine awp_block ?_
    -- region 3  chars.go:22
    refine awp_rseq [0, 1, 5, 7, 8] (by rfl) fun K hK => ?_
    simp (decide := true) only [aOps_nil, ev, putD, Slots.put, Slots.get, Slots.keep, if_true, if_false, true_and, ↓ap_move, pop_move, ↓ap_assign, pop_assign]
    apply hK; clear hK K
    -- region 4  chars.go:23
    refine awp_rseq [0, 1, 7, 8, 16] (by rfl) fun K hK => ?_
    simp (decide := true) only [ev, putD, Slots.put, Slots.get, if_true, if_false, true_and, ↓ap_move, pop_move, ↓ap_index, pop_index, pIndex_str Tryz.underlying9, Int.toNat_natCast]
    repeat (with_reducible refine And.intro ?_ ?_; · first | trivial | omega | (intro hg; simp only [Bool.and_eq_true, Bool.or_eq_true, Bool.not_eq_true', Bool.and_eq_false_iff, Bool.or_eq_false_iff, Bool.not_eq_false', decide_eq_true_eq, decide_eq_false_iff_not, eqNil] at hg; omega) )
    refine aOps_callV (V := .bool (okB (s.getD i 0))) (by rfl) (by rfl) (c_prt1 w₀ _ _) ?_
    simp (decide := true) only [aOps_nil, ev, putD, Slots.put, Slots.get, Slots.keep, if_true, if_false, true_and, ↓ap_unOp, pop_unOp, pU_not]
    apply hK; clear hK K
    refine awp_cond (b := _) rfl (fun hb2 => ?_) (fun hb2 => ?_)
    · try simp only [Bool.not_eq_true'] at hb2
      -- region 5  chars.go:24
      refine awp_rseq [4] (by rfl) fun K hK => ?_
      simp (decide := true) only [aOps_nil, ev, absV, absS, putD, Slots.put, Slots.keep, if_true, if_false, true_and, ↓ap_assign, pop_assign]
      apply hK; clear hK K
      refine awp_ret ?_
      try simp only [thenA_ret, inBlockA_ret]
      refine retA_ret _ (Sub.refl _) (resPre_tmp (resPre_nil)) ?_
      simp (decide := true) only [Slots.get, if_true, and_true, resOf_one]
      rw [← hg, hb2, Bool.false_and]
    · try simp only [Bool.not_eq_false'] at hb2
      refine awp_skip ?_
      change Awp _ _ _ _ _ _ _
      -- region 6  chars.go:22
      refine awp_r [0, 1, 7, 8] (by rfl) ?_
      simp (decide := true) only [aOps_nil, ev, absV, absS, putD, Slots.put, Slots.get, Slots.keep, if_true, if_false, true_and, ↓ap_binOp, pop_binOp, isNilC_int, cond_false, pBinX_int, pI_add, ↓ap_move, pop_move]
      try simp (disch := omega) only [wrap_i64]
      try simp only [thenA_normal]
      refine ⟨i + 1, rfl, Sub.refl _, ⟨hi', ?_⟩, by omega⟩
      rw [← hg, hb2, Bool.true_and]
  · try simp only [decide_eq_false_iff_not] at hb1
    refine awp_exit ?_
    change Awp _ _ _ _ _ _ _
    -- region 7  chars.go:27
    refine awp_rseq [4] (by rfl) fun K hK => ?_
    simp (decide := true) only [aOps_nil, ev, absV, absS, putD, Slots.put, Slots.keep, if_true, if_false, true_and, ↓ap_assign, pop_assign]
    apply hK; clear hK K
    refine awp_ret ?_
    refine retA_ret _ (Sub.refl _) (resPre_tmp (resPre_nil)) ?_
    simp (decide := true) only [Slots.get, if_true, and_true, resOf_one]
    rw [← hg, List.drop_of_length_le (by omega)]
    rfl
theorem c_printable (w₀ : World) (h : AHeap) (s : Str) (hl : s.length ≤ 4611686018427387904) : ACall Tryz.prog w₀ 42 [.str s] h (fun v h' => v = .bool (s.all okB) ∧ h' = h) := by
  refine acall_intro (n := 5) (rs := [.tmp 2]) Tryz.func42 rfl rfl rfl rfl (Nat.le_of_ble_eq_true rfl) ?_
  simp only [initSlots]
  -- region 0  chars.go:42
  refine awp_rseq [0] (by rfl) fun K hK => ?_
  simp (decide := true) only [aOps_nil, ev, absV, absS, putD, Slots.put, Slots.keep, if_true, if_false, true_and, ↓ap_assign, pop_assign]
  apply hK; clear hK K
  -- region 1  chars.go:43
  refine awp_rseq [2] (by rfl) fun K hK => ?_
  simp (decide := true) only [ev, putD, Slots.put, Slots.get, if_true, if_false, true_and, ↓ap_move, pop_move]
  refine aOps_callV (V := .bool (s.all okB)) (by rfl) (by rfl) (c_all w₀ _ s hl) ?_
  simp (decide := true) only [aOps_nil, ev, putD, Slots.put, Slots.get, Slots.keep, if_true, if_false, true_and, ↓ap_assign, pop_assign]
  apply hK; clear hK K
  refine awp_ret ?_
  refine retA_ret _ (Sub.refl _) (resPre_tmp (resPre_nil)) ?_
  simp (decide := true) only [Slots.get, if_true, and_true, resOf_one]
  all_goals first | rfl | exact ⟨rfl, rfl⟩ | (simp (decide := true) only [if_true, if_false, *]; done) | (trace_state; fail)
end Go.Proofs.YtmadddihphkmoaaGreatDoor

/-
  Contracts: the writer of the package columns.
  Conditions: none.
-/
namespace Go.Proofs.YtmadddihphkmoaaGreatDoor
open Go.AM
open Go.Proofs
open Go.Col
set_option maxRecDepth 100000

theorem bldT_writer : BldT 108 3 := ⟨by kernel_rfl, by kernel_rfl, by omega⟩
theorem bldH_rest {h : AHeap} {k : Nat} {rest rest' : List AVal} {e : TypeId} {b : Bld} (hb : b.ok e h k) : (bldH h k rest b).set k ⟨b.head k :: b.slice :: rest', 0⟩ = bldH h k rest' b := by
  cases hbuf : b.buf with
  | none =>
    rw [bldH_nil hbuf, Bld.slice_nil hbuf, AHeap.set_set, bldH_nil hbuf]
  | some q =>
    obtain ⟨h1, h2, h3, h4⟩ := (Bld.ok_some hbuf).1 hb
    rw [bldH_some hbuf, Bld.slice_some hbuf, bldH_some hbuf, AHeap.set_comm _ _ _ h1.symm, AHeap.set_set]
theorem nDigits_le : ∀ (k u : Nat), 1 ≤ k → u < 10 ^ k → Lib.nDigits u ≤ k
  | 0, _, h, _ => by omega
  | 1, u, _, h => by rw [Lib.nDigits_small (by omega)]; exact Nat.le_refl _
  | k + 2, u, _, h => by
    by_cases h10 : u < 10
    · rw [Lib.nDigits_small h10]; omega
    · rw [Lib.nDigits_big h10]
      have := nDigits_le (k + 1) (u / 10) (by omega) (by rw [Nat.pow_succ] at h; omega)
      omega
theorem digs_len (n : Nat) : (digs (n % 1000000)).length ≤ 6 := by
  unfold digs
  rw [Lib.decDigits_length]
  exact nDigits_le 6 _ (by omega) (by omega)
theorem outE_len (n col : Nat) (mark text : Str) : (outE n mark col text).length = 7 + mark.length + (col - 8) + text.length := by
  have := digs_len n
  unfold outE sp
  simp only [List.length_append, List.length_replicate, List.length_cons, List.length_nil]
  omega
theorem c_line (w₀ : World) (ht10 : Tab10 w₀) (h : AHeap) (k : Nat) (n : Nat) (st : Bld) (ht : tyOf k = some 108) (hk : h k = none) (hst : st.ok 5 h k) (mark : Str) (col : Nat) (text : Str) (hn : n ≤ 1099511627776) (hm : mark.length ≤ 10) (hc : 8 ≤ col) (hc2 : col ≤ 100) (htx : text.length ≤ 1099511627776) (hb : st.bytes.length ≤ 1099511627776) :
    ACall Tryz.prog w₀ 71 [.ptr (.own k) 0, .str mark, .int .i64 col, .str text] (bldH h k [.int .i64 n] st)
      (fun v h' => v = .tuple [] ∧ ∃ st' : Bld, st'.ok 5 h k ∧ st'.bytes = st.bytes ++ outE (n + 1) mark col text ∧ h' = bldH h k [.int .i64 (n + 1 : Nat)] st') := by
  have hhead := bldH_head (rest := [.int .i64 n]) hst
  have hhead1 := bldH_head (rest := [.int .i64 (n + 1 : Nat)]) hst
  have r0 := fun o => rd_own w₀ hhead o
  have r1 := fun o => rd_own w₀ hhead1 o
  have hdl := digs_len (n + 1)
  have hsl : (sp (col - 8)).length = col - 8 := by simp [sp]
  refine acall_intro (n := 41) (rs := []) Tryz.func71 rfl rfl rfl rfl (Nat.le_of_ble_eq_true rfl) ?_
  simp only [initSlots]
  -- region 0  columns.go:187
  refine awp_rseq [0, 1, 2, 3] (by rfl) fun K hK => ?_
  simp (decide := true) only [ev, absV, absS, putD, Slots.put, Slots.get, if_true, if_false, true_and, ↓ap_move, pop_move, ↓ap_nilCheck, pop_nilCheck, pNil_ptr, ↓ap_fieldAddr, pop_fieldAddr, fa108_1, ↓ap_loadL, apL_mk, pLoad_one ag3, ↓ap_binOp, pop_binOp, isNilC_int, cond_false, pBinX_int, pI_add, List.getD_cons_zero, List.getD_cons_succ, Nat.zero_add, Nat.reduceAdd, lv_int, r0]
  try simp (disch := omega) only [wrap_i64]
  refine aOps_store (v := .int .i64 (n + 1 : Nat)) (by rfl) (by rfl) hhead sz3 (by rfl) (by rfl) (by simp []) (Nat.zero_le _) (by rfl) ?_
  simp only [setAt, AVal.cells, List.set_cons_zero, List.set_cons_succ]
  rw [bldH_rest hst]
  simp (decide := true) only [aOps_nil, putD, Slots.keep, if_true, if_false]
  apply hK; clear hK K
  -- region 1  columns.go:188
  refine awp_rseq [0, 1, 2, 3, 8] (by rfl) fun K hK => ?_
  simp (decide := true) only [ev, absV, absS, putD, Slots.put, Slots.get, if_true, if_false, true_and, ↓ap_move, pop_move, ↓ap_nilCheck, pop_nilCheck, pNil_ptr, ↓ap_fieldAddr, pop_fieldAddr, fa108_1, ↓ap_loadL, apL_mk, pLoad_one ag3, ↓ap_binOp, pop_binOp, isNilC_int, cond_false, pBinX_int, pI_rem, List.getD_cons_zero, List.getD_cons_succ, Nat.zero_add, lv_int, r1]
  rw [show ((n + 1 : Nat) : Int).tmod 1000000 = (((n + 1) % 1000000 : Nat) : Int) by rw [Int.tmod_eq_emod_of_nonneg (by omega)]; omega]
  refine aOps_callV (V := .str (digs ((n + 1) % 1000000))) (by rfl) (by rfl) ((c_itoa w₀ ht10 _ _ (by omega) (by omega)).val (by rw [Lib.itoa_nonneg]; rfl)) ?_
  simp (decide := true) only [aOps_nil, ev, putD, Slots.put, Slots.get, Slots.keep, if_true, if_false, true_and, ↓ap_assign, pop_assign]
  apply hK; clear hK K
  -- region 2  columns.go:189
  refine awp_draw_anyT 18 mixed (by kernel_rfl) (by rfl) ?_
  simp only [List.take_succ_cons, List.take_zero, List.drop_succ_cons, List.drop_zero]
  simp (decide := true) only [ev, absV, absS, putD, Slots.put, Slots.get, if_true, if_false, true_and, ↓vp_move, pop_move, ↓vp_nilCheck, pop_nilCheck, pNil_ptr, ↓vp_fieldAddr, pop_fieldAddr, fa108_0, ↓vp_len, pop_len, pLen_str Tryz.underlying9, ↓vp_binOp, pop_binOp, isNilC_tmp, cond_false, pBinX_int, pI_sub, Nat.zero_add]
  try simp (disch := omega) only [wrap_i64]
  rw [show (6 : Int) - ((digs ((n + 1) % 1000000)).length : Int) = ((6 - (digs ((n + 1) % 1000000)).length : Nat) : Int) by omega]
  refine vOps_callV (V := .str (List.replicate (6 - (digs ((n + 1) % 1000000)).length) 48)) (by rfl) (by rfl) (c_repeat w₀ _ 48 _ (by omega)) ?_
  simp (decide := true) only [ev, absV, absS, putD, Slots.put, Slots.get, if_true, if_false, true_and, ↓vp_move, pop_move, ↓vp_binOp, pop_binOp, isNilC_tmp, cond_false, pBinX_str, pS_add, isNilC_int, pBinX_int, pI_sub]
  try simp (disch := omega) only [wrap_i64]
  repeat (with_reducible refine And.intro ?_ ?_; · first | trivial | omega | (intro hg; simp only [Bool.and_eq_true, Bool.or_eq_true, Bool.not_eq_true', Bool.and_eq_false_iff, Bool.or_eq_false_iff, Bool.not_eq_false', decide_eq_true_eq, decide_eq_false_iff_not, eqNil] at hg; omega) | (simp only [List.length_append, List.length_replicate]; omega))
  rw [show (col : Int) - 8 = ((col - 8 : Nat) : Int) by omega]
  refine vOps_callV (V := .str (sp (col - 8))) (by rfl) (by rfl) (c_repeat w₀ _ 32 _ (by omega)) ?_
  simp (decide := true) only [vOps_nil, ev, absV, absS, putD, Slots.put, Slots.get, if_true, if_false, true_and, ↓vp_binOp, pop_binOp, isNilC_tmp, cond_false, pBinX_str, pS_add, ↓vp_move, pop_move, isNilC_str]
  repeat (with_reducible refine And.intro ?_ ?_; · first | trivial | omega | (intro hg; simp only [Bool.and_eq_true, Bool.or_eq_true, Bool.not_eq_true', Bool.and_eq_false_iff, Bool.or_eq_false_iff, Bool.not_eq_false', decide_eq_true_eq, decide_eq_false_iff_not, eqNil] at hg; omega) | (simp only [List.length_append, List.length_replicate, List.length_cons, List.length_nil]; omega))
  refine aOps_call (by rfl) (by rfl) (c_WriteString w₀ h k [.int .i64 (n + 1 : Nat)] st 108 bldT_writer ht hk hst _ (by have := outE_len (n + 1) col mark text; unfold outE at this; omega)) fun x2q18 h2q18 hx2q18 => ?_
  obtain ⟨rfl, st', s1, s2, rfl⟩ := hx2q18
  simp (decide := true) only [aOps_nil, putD, Slots.put, if_false]
  refine retA_end _ (Sub.refl _) (resPre_nil) ?_
  simp (decide := true) only [true_and, resOf_nil]
  exact ⟨st', s1, s2, rfl⟩

theorem textE_short {fuel col k : Nat} {mark out s : Str} {q : Bool} (h : s.length ≤ 73 - col - (if q = true then 1 else 0)) : textE (fuel + 1) col mark q k out s = (k + 1, out ++ outE (k + 1) mark col ((if q = true then [34] else []) ++ s)) := by
  rw [textE]
  rw [if_pos h]
theorem textE_space {fuel col k : Nat} {mark out s : Str} {q : Bool} (h : ¬ s.length ≤ 73 - col - (if q = true then 1 else 0)) (h2 : 0 < spaceE s (73 - col - (if q = true then 1 else 0)) q) :
    textE (fuel + 1) col mark q k out s = textE fuel 12 [32] false (k + 1) (out ++ outE (k + 1) mark col ((if q = true then [34] else []) ++ s.take (spaceE s (73 - col - (if q = true then 1 else 0)) q))) (trimL (s.drop (spaceE s (73 - col - (if q = true then 1 else 0)) q))) := by
  rw [textE]
  rw [if_neg h, if_pos h2]
theorem textE_cut {fuel col k : Nat} {mark out s : Str} {q : Bool} (h : ¬ s.length ≤ 73 - col - (if q = true then 1 else 0)) (h2 : ¬ 0 < spaceE s (73 - col - (if q = true then 1 else 0)) q) :
    textE (fuel + 1) col mark q k out s = textE fuel 12 [45] (q != oddQ (s.take (73 - col - (if q = true then 1 else 0)))) (k + 1) (out ++ outE (k + 1) mark col ((if q = true then [34] else []) ++ s.take (73 - col - (if q = true then 1 else 0)))) (s.drop (73 - col - (if q = true then 1 else 0))) := by
  rw [textE]
  rw [if_neg h, if_neg h2]
theorem spaceGo_le : ∀ (s : Str) (i n : Nat) (q : Bool) (f : Nat), f ≤ n → f < i + s.length ∨ f = 0 → spaceGo s i n q f ≤ n ∧ (spaceGo s i n q f < i + s.length ∨ spaceGo s i n q f = 0)
  | [], i, n, q, f, h1, h2 => ⟨h1, h2⟩
  | b :: s, i, n, q, f, h1, h2 => by
    have hf : ∀ (c : Prop) [Decidable c], f ≤ n → i ≤ n → (if c then i else f) ≤ n := fun c _ a b => by by_cases hc : c; rw [if_pos hc]; exact b; rw [if_neg hc]; exact a
    unfold spaceGo
    split
    · exact ⟨h1, h2⟩
    · have := spaceGo_le s (i + 1) n (if b = 34 then !q else q) (if b = 32 ∧ (if b = 34 then !q else q) = false ∧ 0 < i then i else f) (hf _ h1 (by omega)) (by
        simp only [List.length_cons] at h2
        by_cases hc : b = 32 ∧ (if b = 34 then !q else q) = false ∧ 0 < i
        · rw [if_pos hc]; omega
        · rw [if_neg hc]; omega)
      simp only [List.length_cons]
      omega
theorem spaceE_le (s : Str) (n : Nat) (q : Bool) : spaceE s n q ≤ n ∧ spaceE s n q ≤ s.length := by
  have := spaceGo_le s 0 n q 0 (by omega) (.inr rfl)
  unfold spaceE
  omega
structure TxG where
  fuel : Nat
  col : Nat
  mark : Str
  q : Bool
  n : Nat
  st : Bld
  s : Str
structure TxOk (h : AHeap) (k : Nat) (R : Nat × Str) (M : Nat) (g : TxG) : Prop where
  fuel : g.s.length < g.fuel
  col : 8 ≤ g.col ∧ g.col ≤ 12
  mark : g.mark.length = 1
  ok : g.st.ok 5 h k
  eq : textE g.fuel g.col g.mark g.q g.n g.st.bytes g.s = R
  n : g.n + g.s.length ≤ M
  bytes : g.st.bytes.length + 100 * (g.s.length + 1) ≤ 1099511627776
theorem c_text (w₀ : World) (ht10 : Tab10 w₀) (h : AHeap) (k : Nat) (n : Nat) (st : Bld) (ht : tyOf k = some 108) (hk : h k = none) (hst : st.ok 5 h k) (col : Nat) (s : Str) (hc : 8 ≤ col) (hc2 : col ≤ 12) (hn : n + s.length ≤ 1099511627776) (hb : st.bytes.length + 100 * (s.length + 1) ≤ 1099511627776) :
    ACall Tryz.prog w₀ 44 [.ptr (.own k) 0, .int .i64 col, .str s] (bldH h k [.int .i64 n] st)
      (fun v h' => v = .tuple [] ∧ ∃ st' : Bld, st'.ok 5 h k ∧ st'.bytes = (textE (s.length + 1) col [32] false n st.bytes s).2 ∧ h' = bldH h k [.int .i64 (textE (s.length + 1) col [32] false n st.bytes s).1] st') := by
  obtain ⟨R, hR⟩ : ∃ R, R = textE (s.length + 1) col [32] false n st.bytes s := ⟨_, rfl⟩
  rw [← hR]
  refine acall_intro (n := 65) (rs := []) Tryz.func44 rfl rfl rfl rfl (Nat.le_of_ble_eq_true rfl) ?_
  simp only [initSlots]
  -- region 0  columns.go:211
  refine awp_rseq [0, 1, 2, 6, 7] (by rfl) fun K hK => ?_
  simp (decide := true) only [aOps_nil, ev, absV, absS, putD, Slots.put, Slots.keep, if_true, if_false, true_and, ↓ap_assign, pop_assign, Nat.zero_add, Nat.reduceAdd]
  apply hK; clear hK K
  refine awp_block ?_
  refine awp_loopG [0, 1, 2, 6, 7] (fun g : TxG => [(0, .ptr (.own k) 0), (1, .int .i64 g.col), (2, .str g.s), (6, .str g.mark), (7, .bool g.q)]) (fun g : TxG => bldH h k [.int .i64 g.n] g.st) (fun g : TxG => TxOk h k R 1099511627776 g) (fun g : TxG => g.s.length) ⟨s.length + 1, col, [32], false, n, st, s⟩ (by rfl) (Sub.refl _) ⟨by simp, ⟨hc, hc2⟩, rfl, hst, hR.symm, hn, hb⟩ ?_
  rintro ⟨fuel, cl, mk, q, m, sb, t⟩ ⟨g1, g2, g3, g4, g5, g6, g7⟩
  simp only at g1 g2 g3 g4 g5 g6 g7 ⊢
  obtain ⟨f, rfl⟩ : ∃ f, fuel = f + 1 := ⟨fuel - 1, by omega⟩
  obtain ⟨nn, hnn⟩ : ∃ nn, nn = 73 - cl - (if q = true then 1 else 0) := ⟨_, rfl⟩
  obtain ⟨ld, hld⟩ : ∃ ld : Str, ld = if q = true then [34] else [] := ⟨_, rfl⟩
  have hnn2 : 60 ≤ nn ∧ nn ≤ 65 := by rw [hnn]; split <;> omega
  have hld2 : ld.length ≤ 1 := by rw [hld]; split <;> simp
  refine awp_block ?_
  -- region 1  columns.go:213
  refine awp_rseq [0, 1, 2, 6, 7, 8] (by rfl) fun K hK => ?_
  simp (decide := true) only [aOps_nil, ev, absV, absS, putD, Slots.put, Slots.get, Slots.keep, if_true, if_false, true_and, ↓ap_move, pop_move, ↓ap_binOp, pop_binOp, isNilC_tmp, cond_false, pBinX_int, pI_sub, isNilC_int, pI_add, ↓ap_assign, pop_assign]
  try simp (disch := omega) only [wrap_i64]
  apply hK; clear hK K
  -- region 2  columns.go:214
  refine awp_rseq [0, 1, 2, 6, 7, 8, 9] (by rfl) fun K hK => ?_
  simp (decide := true) only [aOps_nil, ev, absV, absS, putD, Slots.put, Slots.keep, if_true, if_false, true_and, ↓ap_assign, pop_assign]
  apply hK; clear hK K
  refine awp_seq ?_
  -- region 3  columns.go:215
  refine awp_rseq [0, 1, 2, 6, 7, 8, 9, 14] (by rfl) fun K hK => ?_
  simp (decide := true) only [aOps_nil, ev, putD, Slots.put, Slots.get, Slots.keep, if_true, if_false, true_and, ↓ap_move, pop_move]
  apply hK; clear hK K
  refine awp_joinT [0, 1, 2, 6, 7, 8, 9] (fun z : Unit => [(0, .ptr (.own k) 0), (1, .int .i64 cl), (2, .str t), (6, .str mk), (7, .bool q), (8, .int .i64 nn), (9, .str ld)]) (fun z : Unit => bldH h k [.int .i64 m] sb) (fun z : Unit => mk.length = 1) ?_ ?_
  · refine awp_cond (b := _) rfl (fun hb1 => ?_) (fun hb1 => ?_)
    · skip
      -- region 4  columns.go:216
      refine awp_rseq [0, 1, 2, 6, 7, 8, 9] (by rfl) fun K hK => ?_
      simp (decide := true) only [aOps_nil, ev, absV, absS, putD, Slots.put, Slots.keep, if_true, if_false, true_and, ↓ap_assign, pop_assign]
      apply hK; clear hK K
      -- region 5  columns.go:217
      refine awp_r [0, 1, 2, 6, 7, 8, 9] (by rfl) ?_
      simp (decide := true) only [aOps_nil, ev, absV, absS, putD, Slots.put, Slots.get, Slots.keep, if_true, if_false, true_and, ↓ap_move, pop_move, ↓ap_binOp, pop_binOp, isNilC_int, cond_false, pBinX_int, pI_sub, ↓ap_assign, pop_assign]
      try simp (disch := omega) only [wrap_i64]
      try simp only [thenA_normal]
      refine ⟨(), ?_, Sub.refl _, g3⟩
      rw [hb1] at hnn hld
      rw [hnn, hld]
      (rw [show (72 : Int) - (cl : Int) + 1 - 1 = ((73 - cl - 1 : Nat) : Int) by omega]; rfl)
    · skip
      refine awp_skip ?_
      try simp only [thenA_normal]
      refine ⟨(), ?_, Sub.refl _, g3⟩
      rw [hb1] at hnn hld
      rw [hnn, hld]
      (rw [show (72 : Int) - (cl : Int) + 1 = ((73 - cl - 0 : Nat) : Int) by omega]; rfl)
  · intro _ _
    refine awp_seq ?_
    -- region 6  columns.go:219
    refine awp_rseq [0, 1, 2, 6, 7, 8, 9, 20] (by rfl) fun K hK => ?_
    simp (decide := true) only [aOps_nil, ev, putD, Slots.put, Slots.get, Slots.keep, if_true, if_false, true_and, ↓ap_move, pop_move, ↓ap_len, pop_len, pLen_str Tryz.underlying9, ↓ap_binOp, pop_binOp, isNilC_tmp, cond_false, pBinX_int, pI_leq]
    apply hK; clear hK K
    refine awp_cond (b := _) rfl (fun hb2 => ?_) (fun hb2 => ?_)
    · try simp only [decide_eq_true_eq] at hb2
      have hsh : t.length ≤ nn := by omega
      -- region 7  columns.go:220
      refine awp_rseq [] (by rfl) fun K hK => ?_
      simp (decide := true) only [ev, putD, Slots.put, Slots.get, if_true, if_false, true_and, ↓ap_move, pop_move, ↓ap_binOp, pop_binOp, isNilC_tmp, cond_false, pBinX_str, pS_add]
      repeat (with_reducible refine And.intro ?_ ?_; · first | trivial | omega | (intro hg; simp only [Bool.and_eq_true, Bool.or_eq_true, Bool.not_eq_true', Bool.and_eq_false_iff, Bool.or_eq_false_iff, Bool.not_eq_false', decide_eq_true_eq, decide_eq_false_iff_not, eqNil] at hg; omega) | (simp only [List.length_append, List.length_map, List.length_range, List.length_replicate, List.length_take, List.length_drop, List.length_cons, List.length_nil, List.length_set, List.length_reverse]; omega))
      refine aOps_call (by rfl) (by rfl) (c_line w₀ ht10 h k m sb ht hk g4 mk cl (ld ++ t) (by omega) (by omega) g2.1 (by omega) (by simp; omega) (by omega)) fun x7q6 h7q6 hx7q6 => ?_
      obtain ⟨rfl, st', s1, s2, rfl⟩ := hx7q6
      rw [textE_short (by rw [← hnn]; exact hsh), ← hld] at g5
      simp (decide := true) only [aOps_nil, putD, Slots.put, Slots.keep, if_false]
      apply hK; clear hK K
      refine awp_ret ?_
      try simp only [thenA_ret, inBlockA_ret]
      refine retA_ret _ (Sub.refl _) (resPre_nil) ?_
      simp (decide := true) only [true_and, resOf_nil]
      exact ⟨st', s1, by rw [s2, ← g5], by rw [← g5]⟩
    · try simp only [decide_eq_false_iff_not] at hb2
      have hsh : ¬ t.length ≤ nn := by omega
      obtain ⟨sl1, sl2⟩ := spaceE_le t nn q
      refine awp_skip ?_
      change Awp _ _ _ _ _ _ _
      refine awp_seq ?_
      -- region 8  columns.go:223
      refine awp_rseq [0, 1, 2, 6, 7, 8, 9, 10] (by rfl) fun K hK => ?_
      simp (decide := true) only [ev, putD, Slots.put, Slots.get, if_true, if_false, true_and, ↓ap_move, pop_move]
      refine aOps_callV (V := .int .i64 (spaceE t nn q)) (by rfl) (by rfl) (c_space w₀ _ t nn q (by omega) (by omega)) ?_
      simp (decide := true) only [aOps_nil, ev, putD, Slots.put, Slots.get, Slots.keep, if_true, if_false, true_and, ↓ap_assign, pop_assign]
      apply hK; clear hK K
      -- region 9  columns.go:223
      refine awp_rseq [0, 1, 2, 6, 7, 8, 9, 10, 33] (by rfl) fun K hK => ?_
      simp (decide := true) only [aOps_nil, ev, absV, absS, putD, Slots.put, Slots.get, Slots.keep, if_true, if_false, true_and, ↓ap_move, pop_move, ↓ap_binOp, pop_binOp, isNilC_int, cond_false, pBinX_int, pI_gtr]
      apply hK; clear hK K
      refine awp_cond (b := _) rfl (fun hb3 => ?_) (fun hb3 => ?_)
      · try simp only [decide_eq_true_eq] at hb3
        have hsp : 0 < spaceE t nn q := by omega
        have hdr : (t.drop ((spaceE t nn q : Nat) : Int).toNat).take ((t.length : Int).toNat - ((spaceE t nn q : Nat) : Int).toNat) = t.drop (spaceE t nn q) := by
          rw [Int.toNat_natCast, Int.toNat_natCast, List.take_of_length_le (by simp)]
        have htl := trimL_le (t.drop (spaceE t nn q))
        have htl2 : (t.drop (spaceE t nn q)).length = t.length - spaceE t nn q := by simp
        rw [hnn] at hsp
        rw [textE_space (by rw [← hnn]; exact hsh) hsp, ← hnn, ← hld] at g5
        rw [← hnn] at hsp
        -- region 10  columns.go:224
        refine awp_rseq [0, 2, 10] (by rfl) fun K hK => ?_
        simp (decide := true) only [ev, putD, Slots.put, Slots.get, if_true, if_false, true_and, ↓ap_move, pop_move, ↓ap_slice, pop_slice, evO, pSliceS_0i Tryz.underlying9, pSliceS, bndA_none, bndA_int, ↓ap_binOp, pop_binOp, isNilC_tmp, cond_false, pBinX_str, pS_add]
        repeat (with_reducible refine And.intro ?_ ?_; · first | trivial | omega | (intro hg; simp only [Bool.and_eq_true, Bool.or_eq_true, Bool.not_eq_true', Bool.and_eq_false_iff, Bool.or_eq_false_iff, Bool.not_eq_false', decide_eq_true_eq, decide_eq_false_iff_not, eqNil] at hg; omega) | (simp only [List.length_take, List.length_drop]; omega))
        refine aOps_call (by rfl) (by rfl) (c_line w₀ ht10 h k m sb ht hk g4 mk cl (ld ++ t.take (spaceE t nn q)) (by omega) (by omega) g2.1 (by omega) (by simp; omega) (by omega)) fun x10q8 h10q8 hx10q8 => ?_
        obtain ⟨-, st', s1, s2, rfl⟩ := hx10q8
        have hol := outE_len (m + 1) cl mk (ld ++ t.take (spaceE t nn q))
        have hlt : (trimL (t.drop (spaceE t nn q))).length < t.length := by omega
        have hg : TxOk h k R 1099511627776 ⟨f, 12, [32], false, m + 1, st', trimL (t.drop (spaceE t nn q))⟩ := by
          refine ⟨by simp only; omega, ⟨by simp only; omega, by simp only; omega⟩, rfl, s1, by rw [s2]; exact g5, by simp only; omega, ?_⟩
          simp only [s2, List.length_append, List.length_take] at hol ⊢
          omega
        simp (decide := true) only [aOps_nil, putD, Slots.put, Slots.keep, if_true, if_false]
        apply hK; clear hK K
        -- region 11  columns.go:225
        refine awp_r [0, 2, 6, 7] (by rfl) ?_
        simp (decide := true) only [ev, putD, Slots.put, Slots.get, if_true, if_false, true_and, ↓ap_move, pop_move, ↓ap_slice, pop_slice, evO, pSliceS_i0 Tryz.underlying9, pSliceS, bndA_none, bndA_int, hdr]
        repeat (with_reducible refine And.intro ?_ ?_; · first | trivial | omega | (intro hg; simp only [Bool.and_eq_true, Bool.or_eq_true, Bool.not_eq_true', Bool.and_eq_false_iff, Bool.or_eq_false_iff, Bool.not_eq_false', decide_eq_true_eq, decide_eq_false_iff_not, eqNil] at hg; omega) | (simp only [List.length_append, List.length_map, List.length_range, List.length_replicate, List.length_take, List.length_drop, List.length_cons, List.length_nil, List.length_set, List.length_reverse]; omega))
        refine aOps_callV (V := .str (trimL (t.drop (spaceE t nn q)))) (by rfl) (by rfl) (c_trimL w₀ _ _) ?_
        simp (decide := true) only [aOps_nil, ev, absV, absS, putD, Slots.put, Slots.get, Slots.keep, if_true, if_false, true_and, ↓ap_assign, pop_assign]
        change Awp _ _ _ _ _ _ _
        -- region 15  columns.go:231
        refine awp_r [0, 1, 2, 6, 7] (by rfl) ?_
        simp (decide := true) only [aOps_nil, ev, absV, absS, putD, Slots.put, Slots.keep, if_true, if_false, true_and, ↓ap_assign, pop_assign]
        try simp only [thenA_normal, inBlockA_normal]
        first
        | exact ⟨⟨f, 12, [32], false, m + 1, st', trimL (t.drop (spaceE t nn q))⟩, rfl, Sub.refl _, hg, hlt⟩
        | exact ⟨⟨f, 12, [45], q != oddQ (t.take nn), m + 1, st', t.drop nn⟩, rfl, Sub.refl _, hg, hlt⟩
      · try simp only [decide_eq_false_iff_not] at hb3
        have hsp : ¬ 0 < spaceE t nn q := by omega
        have hdr : (t.drop (nn : Int).toNat).take ((t.length : Int).toNat - (nn : Int).toNat) = t.drop nn := by
          rw [Int.toNat_natCast, Int.toNat_natCast, List.take_of_length_le (by simp)]
        rw [hnn] at hsp
        rw [textE_cut (by rw [← hnn]; exact hsh) hsp, ← hnn, ← hld] at g5
        -- region 12  columns.go:227
        refine awp_rseq [0, 2, 7, 8] (by rfl) fun K hK => ?_
        simp (decide := true) only [ev, putD, Slots.put, Slots.get, if_true, if_false, true_and, ↓ap_move, pop_move, ↓ap_slice, pop_slice, evO, pSliceS_0i Tryz.underlying9, pSliceS, bndA_none, bndA_int, ↓ap_binOp, pop_binOp, isNilC_tmp, cond_false, pBinX_str, pS_add]
        repeat (with_reducible refine And.intro ?_ ?_; · first | trivial | omega | (intro hg; simp only [Bool.and_eq_true, Bool.or_eq_true, Bool.not_eq_true', Bool.and_eq_false_iff, Bool.or_eq_false_iff, Bool.not_eq_false', decide_eq_true_eq, decide_eq_false_iff_not, eqNil] at hg; omega) | (simp only [List.length_take, List.length_drop]; omega))
        refine aOps_call (by rfl) (by rfl) (c_line w₀ ht10 h k m sb ht hk g4 mk cl (ld ++ t.take nn) (by omega) (by omega) g2.1 (by omega) (by simp; omega) (by omega)) fun x12q8 h12q8 hx12q8 => ?_
        obtain ⟨-, st', s1, s2, rfl⟩ := hx12q8
        have hol := outE_len (m + 1) cl mk (ld ++ t.take nn)
        have hlt : (t.drop nn).length < t.length := by simp; omega
        have hg : TxOk h k R 1099511627776 ⟨f, 12, [45], q != oddQ (t.take nn), m + 1, st', t.drop nn⟩ := by
          refine ⟨by simp only [List.length_drop]; omega, ⟨by simp only; omega, by simp only; omega⟩, rfl, s1, by rw [s2]; exact g5, by simp only [List.length_drop]; omega, ?_⟩
          simp only [s2, List.length_append, List.length_take, List.length_drop] at hol ⊢
          omega
        simp (decide := true) only [aOps_nil, putD, Slots.put, Slots.keep, if_true, if_false]
        apply hK; clear hK K
        -- region 13  columns.go:228
        refine awp_rseq [0, 2, 6, 7, 8] (by rfl) fun K hK => ?_
        simp (decide := true) only [ev, putD, Slots.put, Slots.get, if_true, if_false, true_and, ↓ap_move, pop_move, ↓ap_slice, pop_slice, evO, pSliceS_0i Tryz.underlying9, pSliceS, bndA_none, bndA_int]
        repeat (with_reducible refine And.intro ?_ ?_; · first | trivial | omega | (intro hg; simp only [Bool.and_eq_true, Bool.or_eq_true, Bool.not_eq_true', Bool.and_eq_false_iff, Bool.or_eq_false_iff, Bool.not_eq_false', decide_eq_true_eq, decide_eq_false_iff_not, eqNil] at hg; omega) | (simp only [List.length_append, List.length_map, List.length_range, List.length_replicate, List.length_take, List.length_drop, List.length_cons, List.length_nil, List.length_set, List.length_reverse]; omega))
        refine aOps_callV (V := .bool (oddQ (t.take nn))) (by rfl) (by rfl) (c_open w₀ _ _ (by simp; omega)) ?_
        simp (decide := true) only [aOps_nil, ev, absV, absS, putD, Slots.put, Slots.get, Slots.keep, if_true, if_false, true_and, ↓ap_binOp, pop_binOp, isNilC_tmp, cond_false, pBinX_bne, Tryz.underlying4, ↓ap_assign, pop_assign]
        apply hK; clear hK K
        -- region 14  columns.go:229
        refine awp_r [0, 2, 6, 7] (by rfl) ?_
        simp (decide := true) only [aOps_nil, ev, putD, Slots.put, Slots.get, Slots.keep, if_true, if_false, true_and, ↓ap_move, pop_move, ↓ap_slice, pop_slice, evO, pSliceS_i0 Tryz.underlying9, pSliceS, bndA_none, bndA_int, ↓ap_assign, pop_assign, hdr]
        repeat (with_reducible refine And.intro ?_ ?_; · first | trivial | omega | (intro hg; simp only [Bool.and_eq_true, Bool.or_eq_true, Bool.not_eq_true', Bool.and_eq_false_iff, Bool.or_eq_false_iff, Bool.not_eq_false', decide_eq_true_eq, decide_eq_false_iff_not, eqNil] at hg; omega) | (simp only [List.length_append, List.length_map, List.length_range, List.length_replicate, List.length_take, List.length_drop, List.length_cons, List.length_nil, List.length_set, List.length_reverse]; omega))
        change Awp _ _ _ _ _ _ _
        -- region 15  columns.go:231
        refine awp_r [0, 1, 2, 6, 7] (by rfl) ?_
        simp (decide := true) only [aOps_nil, ev, absV, absS, putD, Slots.put, Slots.keep, if_true, if_false, true_and, ↓ap_assign, pop_assign]
        try simp only [thenA_normal, inBlockA_normal]
        first
        | exact ⟨⟨f, 12, [32], false, m + 1, st', trimL (t.drop (spaceE t nn q))⟩, rfl, Sub.refl _, hg, hlt⟩
        | exact ⟨⟨f, 12, [45], q != oddQ (t.take nn), m + 1, st', t.drop nn⟩, rfl, Sub.refl _, hg, hlt⟩
end Go.Proofs.YtmadddihphkmoaaGreatDoor

/-
  Contracts: Len of strings.Builder; Write of the package columns.
  Conditions: none.
-/
namespace Go.Proofs.YtmadddihphkmoaaGreatDoor
open Go.AM
open Go.Proofs
open Go.Col
set_option maxRecDepth 100000

theorem Bld.slice_len {st : Bld} : st.slice = .nilSlice ∧ st.bytes = [] ∨ ∃ l o c, st.slice = .slice l o st.bytes.length c := by
  cases hb : st.buf with
  | none => exact .inl ⟨Bld.slice_nil hb, Bld.bytes_nil hb⟩
  | some q => exact .inr ⟨.own q.1, 0, .grow 1, by rw [Bld.slice_some (kb := q.1) (l := q.2) hb, Bld.bytes_some (kb := q.1) (l := q.2) hb]⟩
theorem c_bLen (w₀ : World) (h : AHeap) (k : Nat) (rest : List AVal) (st : Bld) (hst : st.ok 5 h k) :
    ACall Tryz.prog w₀ 40 [.ptr (.own k) 0] (bldH h k rest st) (fun v h' => v = .int .i64 st.bytes.length ∧ h' = bldH h k rest st) := by
  have hhead := bldH_head (rest := rest) hst
  have r1 : rd w₀ (bldH h k rest st) (.own k) 1 = st.slice := rd_own w₀ hhead 1
  have hl : pLen Tryz.prog 97 st.slice = ⟨True, .int .i64 st.bytes.length⟩ := by
    rcases Bld.slice_len (st := st) with ⟨e1, e2⟩ | ⟨l, o, c, e⟩
    · rw [e1, e2]; exact pLen_nil Tryz.underlying97
    · rw [e]; exact pLen_slice Tryz.underlying97 _ _ _ _
  refine acall_intro (n := 8) (rs := [.tmp 2]) Tryz.func40 rfl rfl rfl rfl (Nat.le_of_ble_eq_true rfl) ?_
  simp only [initSlots]
  -- region 0  builder.go:51
  refine awp_rseq [0] (by rfl) fun K hK => ?_
  simp (decide := true) only [aOps_nil, ev, absV, absS, putD, Slots.put, Slots.keep, if_true, if_false, true_and, ↓ap_assign, pop_assign]
  apply hK; clear hK K
  -- region 1  builder.go:51
  refine awp_rseq [2] (by rfl) fun K hK => ?_
  simp (decide := true) only [aOps_nil, ev, putD, Slots.put, Slots.get, Slots.keep, if_true, if_false, true_and, ↓ap_move, pop_move, ↓ap_nilCheck, pop_nilCheck, pNil_ptr, ↓ap_fieldAddr, pop_fieldAddr, fa99_1, ↓ap_loadL, apL_mk, pLoad_one ag97, ↓ap_len, pop_len, ↓ap_assign, pop_assign, r1, Bld.slice_live, hl]
  apply hK; clear hK K
  refine awp_ret ?_
  refine retA_ret _ (Sub.refl _) (resPre_tmp (resPre_nil)) ?_
  simp (decide := true) only [Slots.get, if_true, and_true, resOf_one]
  all_goals first | rfl | exact ⟨rfl, rfl⟩ | (simp (decide := true) only [if_true, if_false, *]; done) | (trace_state; fail)
def lineC (l : Bool × Str) : List AVal := [.bool l.1, .str l.2]
theorem Sub.bldH_both {h h' : AHeap} {k : Nat} {rest : List AVal} {b : Bld} (hs : Sub h h') : Sub (bldH h k rest b) (bldH h' k rest b) := by
  cases hbuf : b.buf with
  | none => rw [bldH_nil hbuf, bldH_nil hbuf]; exact Sub.set_both hs _ _
  | some q => rw [bldH_some (kb := q.1) (l := q.2) hbuf, bldH_some (kb := q.1) (l := q.2) hbuf]; exact Sub.set_both (Sub.set_both hs _ _) _ _
theorem Bld.ok_lay {h : AHeap} {k : Nat} {rest : List AVal} {e : TypeId} {b : Bld} (hb : b.ok e h k) {j : Nat} (hj : bldH h k rest b j = none) (c : Blk) : b.ok e (h.set j c) k := by
  cases hbuf : b.buf with
  | none => exact Bld.ok_nil hbuf
  | some q =>
    obtain ⟨h1, h2, h3, h4⟩ := (Bld.ok_some hbuf).1 hb
    refine (Bld.ok_some hbuf).2 ⟨h1, ?_, h3, h4⟩
    rw [AHeap.set_ne _ _ (fun e => by rw [← e, bldH_buf hbuf] at hj; cases hj)]
    exact h2
theorem lineC_at {w₀ : World} {h : AHeap} {ls : List (Bool × Str)} {l : AM.Loc} {o : Nat} {cp : Cap} (hm : IsL w₀ h 2 (.slice l o ls.length cp) (ls.map lineC)) {i : Nat} (hi : i < ls.length) :
    rd w₀ h l (o + i * 2) = .bool (ls.getD i (false, [])).1 ∧ rd w₀ h l (o + i * 2 + 1) = .str (ls.getD i (false, [])).2 := by
  have he := hm.elem (i := i) (by rw [List.length_map]; exact hi)
  rw [getD_map (false, []) hi] at he
  simp only [cellsAt, lineC, List.cons.injEq, and_true] at he
  exact he
theorem textE_n : ∀ (f col : Nat) (mark : Str) (q : Bool) (k : Nat) (out s : Str), (textE f col mark q k out s).1 ≤ k + f
  | 0, _, _, _, _, _, _ => Nat.le_refl _
  | f + 1, col, mark, q, k, out, s => by
    by_cases h : s.length ≤ 73 - col - (if q = true then 1 else 0)
    · rw [textE_short h]; show k + 1 ≤ k + (f + 1); omega
    · by_cases h2 : 0 < spaceE s (73 - col - (if q = true then 1 else 0)) q
      · rw [textE_space h h2]
        have := textE_n f 12 [32] false (k + 1) (out ++ outE (k + 1) mark col ((if q = true then [34] else []) ++ s.take (spaceE s (73 - col - (if q = true then 1 else 0)) q))) (trimL (s.drop (spaceE s (73 - col - (if q = true then 1 else 0)) q)))
        omega
      · rw [textE_cut h h2]
        have := textE_n f 12 [45] (q != oddQ (s.take (73 - col - (if q = true then 1 else 0)))) (k + 1) (out ++ outE (k + 1) mark col ((if q = true then [34] else []) ++ s.take (73 - col - (if q = true then 1 else 0)))) (s.drop (73 - col - (if q = true then 1 else 0)))
        omega
theorem right_parts (s : Str) : rightE s = (!decide (s = []) && s.all okB && !decide (s.getD 0 0 = 32) && !decide (s.getD (s.length - 1) 0 = 32) && !oddQ s) := by
  unfold rightE
  by_cases hs : s = []
  · subst hs; rfl
  · have : s.getLast? = some (s.getD (s.length - 1) 0) := by
      rw [List.getLast?_eq_getElem?, List.getD_eq_getElem?_getD]
      have : s.length - 1 < s.length := by have := List.length_pos_iff.2 hs; omega
      rw [List.getElem?_eq_getElem this]
      rfl
    rw [this]
    simp only [Option.some.injEq]
/-- What Write answers behind the test: the lines' number so far, the output so far. -/
def writeGo : List (Bool × Str) → Nat → Str → Str × Int
  | [], _, out => (out, 0)
  | l :: r, n, out => if 1048576 < (textE (l.2.length + 1) (if l.1 = true then 8 else 12) [32] false n out l.2).2.length then ([], 3) else writeGo r (textE (l.2.length + 1) (if l.1 = true then 8 else 12) [32] false n out l.2).1 (textE (l.2.length + 1) (if l.1 = true then 8 else 12) [32] false n out l.2).2
def writeE (ls : List (Bool × Str)) : Str × Int := if (ls.all fun l => rightE l.2) = true then writeGo ls 0 [] else ([], 1)
theorem drop_getD {α : Type} (d : α) {l : List α} {i : Nat} (hi : i < l.length) : l.drop i = l.getD i d :: l.drop (i + 1) := by
  rw [List.drop_eq_getElem_cons hi]
  simp [List.getD, hi]
structure WrG where
  i : Nat
  n : Nat
  st : Bld
structure WrOk (ls : List (Bool × Str)) (h : AHeap) (k : Nat) (g : WrG) : Prop where
  i : g.i ≤ ls.length
  n : g.n ≤ g.i * 1000002
  ok : g.st.ok 5 h k
  bytes : g.st.bytes.length ≤ 1048576
  eq : writeGo (ls.drop g.i) g.n g.st.bytes = writeGo ls 0 []
theorem c_Write (w₀ : World) (ht10 : Tab10 w₀) (h : AHeap) (ls : List (Bool × Str)) (l : AM.Loc) (o : Nat) (cp : Cap) (hm : IsL w₀ h 2 (.slice l o ls.length cp) (ls.map lineC)) (hl : ls.length ≤ 1000) (ht : ∀ x ∈ ls, x.2.length ≤ 1000000) :
    ACall Tryz.prog w₀ 19 [.slice l o ls.length cp] h (fun v h' => v = .tuple [.str (writeE ls).1, .int .i64 (writeE ls).2] ∧ Sub h h') := by
  refine acall_intro (n := 65) (rs := [.tmp 2, .tmp 3]) Tryz.func19 rfl rfl rfl rfl (Nat.le_of_ble_eq_true rfl) ?_
  simp only [initSlots]
  -- region 0  columns.go:236
  refine awp_rseq [0] (by rfl) fun K hK => ?_
  simp (decide := true) only [aOps_nil, ev, absV, absS, putD, Slots.put, Slots.keep, if_true, if_false, true_and, ↓ap_assign, pop_assign]
  apply hK; clear hK K
  refine awp_seq ?_
  -- region 1  columns.go:237
  refine awp_rseq [0, 10, 11, 12] (by rfl) fun K hK => ?_
  simp (decide := true) only [aOps_nil, ev, absV, absS, putD, Slots.put, Slots.get, Slots.keep, if_true, if_false, true_and, ↓ap_move, pop_move, ↓ap_len, pop_len, pLen_slice Tryz.underlying62]
  apply hK; clear hK K
  refine awp_block ?_
  refine awp_loopG [0, 10, 11, 12] (fun i : Nat => [(0, .slice l o ls.length cp), (10, .slice l o ls.length cp), (11, .int .i64 ls.length), (12, .int .i64 i)]) (fun i : Nat => h) (fun i : Nat => i ≤ ls.length ∧ (ls.all fun x => rightE x.2) = ((ls.drop i).all fun x => rightE x.2)) (fun i : Nat => ls.length - i) 0 (by rfl) (Sub.refl _) ⟨Nat.zero_le _, rfl⟩ ?_
  rintro i ⟨hi, hg⟩
  -- region 2  columns.go:237
  refine awp_rseq [0, 10, 11, 12, 13] (by rfl) fun K hK => ?_
  simp (decide := true) only [aOps_nil, ev, putD, Slots.put, Slots.get, Slots.keep, if_true, if_false, true_and, ↓ap_binOp, pop_binOp, isNilC_tmp, cond_false, pBinX_int, pI_lss]
  apply hK; clear hK K
  refine awp_seq (awp_cond (b := _) rfl (fun hb1 => ?_) (fun hb1 => ?_))
  · try simp only [decide_eq_true_eq] at hb1
    have hi' : i < ls.length := by omega
    obtain ⟨e0, e1⟩ := lineC_at hm hi'
    obtain ⟨x, hx⟩ : ∃ x, x = ls.getD i (false, []) := ⟨_, rfl⟩
    have hxl : x.2.length ≤ 1000000 := by rw [hx, List.getD, List.getElem?_eq_getElem hi']; exact ht _ (List.getElem_mem hi')
    rw [← hx] at e0 e1
    rw [drop_getD (false, []) hi', ← hx, List.all_cons] at hg
    have hn0 : ¬ x.2 = [] → 0 < x.2.length := fun q => List.length_pos_iff.2 q
    refine awp_skip ?_
    change Awp _ _ _ _ _ _ _
    refine awp_seq ?_
    refine awp_block ?_
    -- region 3  columns.go:237
    refine awp_rseq [0, 5, 10, 11, 12] (by rfl) fun K hK => ?_
    simp (decide := true) only [ev, putD, Slots.put, Slots.get, if_true, if_false, true_and, ↓ap_indexAddrL, apL_mk, pIndexAddr_slice Tryz.underlying62 sz61, ↓ap_loadL, pLoad_agg ag61 sz61, cellsAt, lv_bool, lv_str, allLive, cellsAt, e0, e1, Int.toNat_natCast, lv_bool, lv_str, allLive, Bool.and_self]
    repeat (with_reducible refine And.intro ?_ ?_; · first | trivial | omega | (intro hg; simp only [Bool.and_eq_true, Bool.or_eq_true, Bool.not_eq_true', Bool.and_eq_false_iff, Bool.or_eq_false_iff, Bool.not_eq_false', decide_eq_true_eq, decide_eq_false_iff_not, eqNil] at hg; omega) )
    refine aOps_alloc ze61 (cs := [.bool false, .str []]) (by rfl) fun k3q2 hk3q2 => ?_
    try have hf_3q2 : h k3q2 = none := by first | assumption | (simp only [AHeap.set_none] at hk3q2; simp only [hk3q2])
    refine aOps_store (by rfl) (by rfl) (by repeat (first | exact AHeap.set_same _ _ _ | assumption | refine (AHeap.set_ne _ _ (by first | assumption | exact Ne.symm (by assumption))).trans ?_)) sz61 (by rfl) (by rfl) (by first | exact Nat.le_refl _ | decide | (simp; done) | (simp; omega)) (Nat.zero_le _) (by rfl) ?_
    simp only [AHeap.set_set, AVal.cells]
    simp (decide := true) only [aOps_nil, ev, putD, Slots.put, Slots.get, Slots.keep, if_true, if_false, setAt, List.set_cons_zero, List.set_cons_succ, Nat.zero_add]
    apply hK; clear hK K
    -- region 4  columns.go:238
    refine awp_rseq [0, 10, 11, 12, 45] (by kernel_rfl) fun K hK => ?_
    simp (decide := true) only [ev, absV, absS, putD, Slots.put, Slots.get, if_true, if_false, true_and, ↓ap_fieldAddr, pop_fieldAddr, fa61_1, ↓ap_loadL, apL_mk, pLoad_one ag9, ↓ap_binOp, pop_binOp, isNilC_str, cond_false, pBinX_str, pS_eql, ↓ap_move, pop_move, ↓ag_fieldAddr, agP, agQ_some, nthDst, gKnown_bool, guardB_bool_false, implies_true, ↓ag_loadL, agQL_some, agL_mk, agL_ld2, rd_any, List.getD_cons_zero, List.getD_cons_succ, Nat.zero_add, lv_str]
    (refine aOps_gcall (V := .bool (x.2.all okB)) (f := _) (cap := _) (xs := _) (by first | rfl | (simp (decide := true) only [gv, nthDst, Slots.get, if_true, if_false, gKnown_cond, gKnown_bool])) (fun hg => ⟨rfl, ?_⟩) (fun hg => c_printable w₀ _ x.2 (by omega)) ?_; · (simp (decide := true) only [gv, nthDst, Slots.get, if_true, if_false, guardB_bool_false] at hg; simp (decide := true) only [evs, ev, Slots.get, if_true, if_false, hg, condV_true, List.append_nil, List.map_cons, List.map_nil] <;> try rfl))
    simp (decide := true) only [ev, absV, absS, putD, Slots.put, Slots.get, if_true, if_false, true_and, gv, nthDst, guardB_bool_false, ↓ag_unOp, pop_unOp, agP, agQ_some, gKnown_bool, implies_true, pU_not, cv_un, cp_un, ↓ap_pick, pop_pick, pPick_bool, pickV_cond_r, pickV_or, ↓ap_move, pop_move, ↓ag_fieldAddr, pop_fieldAddr, fa61_1, ↓ag_loadL, agQL_some, agL_mk, agL_ld2, pLoad_one ag9, ↓ag_index, pop_index, pIndex_str Tryz.underlying9, cv_indexl, cv_indexr, cp_indexl, cp_indexr, ↓ag_binOp, pop_binOp, isNilC_int, cond_false, cv_binl, cp_binl, pBinX_int, pI_eql, ↓ag_len, pop_len, pLen_str Tryz.underlying9, cv_len, cp_len, pI_sub, rd_any, List.getD_cons_zero, List.getD_cons_succ, Nat.zero_add, lv_str]
    try simp (disch := omega) only [wrap_i64]
    repeat (with_reducible refine And.intro ?_ ?_; · first | trivial | omega | (intro hg; simp only [Bool.not_eq_true', Bool.or_eq_false_iff, Bool.not_eq_false', decide_eq_false_iff_not, eqNil] at hg; omega) )
    (refine aOps_gcall (V := .bool (oddQ x.2)) (f := _) (cap := _) (xs := _) (by first | rfl | (simp (decide := true) only [gv, nthDst, Slots.get, if_true, if_false, gKnown_cond, gKnown_bool])) (fun hg => ⟨rfl, ?_⟩) (fun hg => c_open w₀ _ x.2 (by omega)) ?_; · (simp (decide := true) only [gv, nthDst, Slots.get, if_true, if_false, guardB_bool_false] at hg; simp (decide := true) only [evs, ev, Slots.get, if_true, if_false, hg, condV_true, List.append_nil, List.map_cons, List.map_nil] <;> try rfl))
    simp (decide := true) only [aOps_nil, ev, absV, absS, putD, Slots.put, Slots.get, Slots.keep, if_true, if_false, true_and, gv, nthDst, guardB_bool_false, ↓ap_pick, pop_pick, pPick_bool, pickV_cond_r, pickV_or]
    apply hK; clear hK K
    refine awp_cond (b := _) rfl (fun hb2 => ?_) (fun hb2 => ?_)
    · try simp only [decide_eq_true_eq, Bool.not_eq_true', Bool.or_eq_true] at hb2
      skip
      -- region 5  columns.go:239
      refine awp_rseq [2, 3] (by rfl) fun K hK => ?_
      simp (decide := true) only [aOps_nil, ev, absV, absS, putD, Slots.put, Slots.keep, if_true, if_false, true_and, ↓ap_assign, pop_assign]
      apply hK; clear hK K
      refine awp_ret ?_
      try simp only [thenA_ret, inBlockA_ret]
      refine retA_ret h (by repeat (first | exact Sub.refl _ | assumption | refine Sub.trans_set ?_ (by assumption))) (resPre_tmp (resPre_tmp (resPre_nil))) ?_
      simp (decide := true) only [Slots.get, if_true, if_false, resOf_two]
      have hr : rightE x.2 = false := by
        rw [right_parts]
        cases hq : (!decide (x.2 = []) && x.2.all okB && !decide (x.2.getD 0 0 = 32) && !decide (x.2.getD (x.2.length - 1) 0 = 32) && !oddQ x.2) with
        | false => rfl
        | true =>
          exfalso
          simp only [Bool.and_eq_true, Bool.not_eq_true', decide_eq_false_iff_not] at hq
          obtain ⟨⟨⟨⟨q1, q2⟩, q3⟩, q4⟩, q5⟩ := hq
          rw [show ((x.2.length : Int) - 1).toNat = x.2.length - 1 by omega, Int.toNat_zero] at hb2
          rw [q2, q5] at hb2
          rcases hb2 with (((q | q) | q) | q) | q
          · exact q1 q
          · cases q
          · exact q3 (UInt8.toNat.inj (by have : ((32 : UInt8).toNat) = 32 := rfl; omega))
          · exact q4 (UInt8.toNat.inj (by have : ((32 : UInt8).toNat) = 32 := rfl; omega))
          · cases q
      have hw : writeE ls = ([], 1) := by unfold writeE; rw [hg, hr, Bool.false_and]; rfl
      rw [hw]
      exact ⟨rfl, Sub.refl _⟩
    · try simp only [decide_eq_false_iff_not, Bool.not_eq_false', Bool.or_eq_false_iff] at hb2
      refine awp_skip ?_
      change Awp _ _ _ _ _ _ _
      -- region 6  columns.go:237
      refine awp_r [0, 10, 11, 12] (by rfl) ?_
      simp (decide := true) only [aOps_nil, ev, absV, absS, putD, Slots.put, Slots.get, Slots.keep, if_true, if_false, true_and, ↓ap_binOp, pop_binOp, isNilC_int, cond_false, pBinX_int, pI_add, ↓ap_move, pop_move]
      try simp (disch := omega) only [wrap_i64]
      try simp only [thenA_normal]
      refine ⟨i + 1, rfl, (by repeat (first | exact Sub.refl _ | assumption | refine Sub.set_both ?_ _ _ | refine Sub.trans_set ?_ (by repeat (first | assumption | refine (AHeap.set_ne _ _ (by first | assumption | exact Ne.symm (by assumption))).trans ?_)))), ⟨hi', ?_⟩, by omega⟩
      rw [hg]
      have hr : rightE x.2 = true := by
        rw [right_parts]
        rw [show ((x.2.length : Int) - 1).toNat = x.2.length - 1 by omega, Int.toNat_zero] at hb2
        obtain ⟨⟨⟨⟨q1, q2⟩, q3⟩, q4⟩, q5⟩ := hb2
        rw [q2, q5, decide_eq_false q1, decide_eq_false (fun q => q3 (by rw [q]; rfl)), decide_eq_false (fun q => q4 (by rw [q]; rfl))]
        rfl
      rw [hr, Bool.true_and]
  · try simp only [decide_eq_false_iff_not] at hb1
    have hw : writeE ls = writeGo ls 0 [] := by
      unfold writeE
      rw [hg, List.drop_of_length_le (by omega)]
      rfl
    rw [hw]
    refine awp_exit ?_
    change Awp _ _ _ _ _ _ _
    -- region 7  columns.go:242
    refine awp_aseqT [0, 6] (by decide) (by decide) ze108 (cs := [.nilPtr, .nilSlice, .int .i64 0]) (by rfl) fun k7q0 hk7q0 ht7q0 => ?_
    simp (decide := true) only [Slots.put, Slots.keep, if_true, if_false]
    try have hf_7q0 : h k7q0 = none := by first | assumption | (simp only [AHeap.set_none] at hk7q0; simp only [hk7q0])
    refine awp_seq ?_
    -- region 8  columns.go:243
    refine awp_rseq [6, 47, 48, 49] (by rfl) fun K hK => ?_
    simp (decide := true) only [aOps_nil, ev, absV, absS, putD, Slots.put, Slots.get, Slots.keep, if_true, if_false, true_and, ↓ap_move, pop_move, ↓ap_len, pop_len, pLen_slice Tryz.underlying62]
    apply hK; clear hK K
    refine awp_block ?_
    refine awp_loopG [6, 47, 48, 49] (fun g : WrG => [(6, .ptr (.own k7q0) 0), (47, .slice l o ls.length cp), (48, .int .i64 ls.length), (49, .int .i64 g.i)]) (fun g : WrG => bldH h k7q0 [.int .i64 g.n] g.st) (fun g : WrG => WrOk ls h k7q0 g) (fun g : WrG => ls.length - g.i) ⟨0, 0, .none⟩ (by rfl) (Sub.refl _) ⟨Nat.zero_le _, Nat.zero_le _, Bld.none_ok, by simp [Bld.none, Bld.bytes], rfl⟩ ?_
    rintro ⟨i, n, st⟩ ⟨g1, g2, g3, g4, g5⟩
    simp only at g1 g2 g3 g4 g5 ⊢
    -- region 9  columns.go:243
    refine awp_rseq [6, 47, 48, 49, 50] (by rfl) fun K hK => ?_
    simp (decide := true) only [aOps_nil, ev, putD, Slots.put, Slots.get, Slots.keep, if_true, if_false, true_and, ↓ap_binOp, pop_binOp, isNilC_tmp, cond_false, pBinX_int, pI_lss]
    apply hK; clear hK K
    refine awp_seq (awp_cond (b := _) rfl (fun hb3 => ?_) (fun hb3 => ?_))
    · try simp only [decide_eq_true_eq] at hb3
      have hi' : i < ls.length := by omega
      obtain ⟨e0, e1⟩ := lineC_at (hm.mono (Sub.bldH (rest := [.int .i64 n]) hk7q0 g3)) hi'
      obtain ⟨x, hx⟩ : ∃ x, x = ls.getD i (false, []) := ⟨_, rfl⟩
      have hxl : x.2.length ≤ 1000000 := by rw [hx, List.getD, List.getElem?_eq_getElem hi']; exact ht _ (List.getElem_mem hi')
      rw [← hx] at e0 e1
      rw [drop_getD (false, []) hi', ← hx, writeGo] at g5
      obtain ⟨cl, hcl⟩ : ∃ cl : Nat, cl = if x.1 = true then 8 else 12 := ⟨_, rfl⟩
      have hcl2 : 8 ≤ cl ∧ cl ≤ 12 := by rw [hcl]; split <;> omega
      rw [← hcl] at g5
      have hn1 := textE_n (x.2.length + 1) cl [32] false n st.bytes x.2
      refine awp_skip ?_
      change Awp _ _ _ _ _ _ _
      refine awp_seq ?_
      refine awp_block ?_
      -- region 10  columns.go:243
      refine awp_rseq [6, 8, 47, 48, 49] (by rfl) fun K hK => ?_
      simp (decide := true) only [ev, putD, Slots.put, Slots.get, if_true, if_false, true_and, ↓ap_indexAddrL, apL_mk, pIndexAddr_slice Tryz.underlying62 sz61, ↓ap_loadL, pLoad_agg ag61 sz61, cellsAt, lv_bool, lv_str, allLive, cellsAt, e0, e1, Int.toNat_natCast, lv_bool, lv_str, allLive, Bool.and_self]
      repeat (with_reducible refine And.intro ?_ ?_; · first | trivial | omega | (intro hg; simp only [Bool.and_eq_true, Bool.or_eq_true, Bool.not_eq_true', Bool.and_eq_false_iff, Bool.or_eq_false_iff, Bool.not_eq_false', decide_eq_true_eq, decide_eq_false_iff_not, eqNil] at hg; omega) )
      refine aOps_alloc ze61 (cs := [.bool false, .str []]) (by rfl) fun k10q2 hk10q2 => ?_
      try have hf_10q2 : h k10q2 = none := by first | assumption | (simp only [AHeap.set_none] at hk10q2; simp only [hk10q2])
      refine aOps_store (by rfl) (by rfl) (by repeat (first | exact AHeap.set_same _ _ _ | assumption | refine (AHeap.set_ne _ _ (by first | assumption | exact Ne.symm (by assumption))).trans ?_)) sz61 (by rfl) (by rfl) (by first | exact Nat.le_refl _ | decide | (simp; done) | (simp; omega)) (Nat.zero_le _) (by rfl) ?_
      simp only [AHeap.set_set, AVal.cells]
      simp (decide := true) only [aOps_nil, ev, putD, Slots.put, Slots.get, Slots.keep, if_true, if_false, setAt, List.set_cons_zero, List.set_cons_succ, Nat.zero_add]
      apply hK; clear hK K
      -- region 11  columns.go:244
      refine awp_rseq [6, 8, 9, 47, 48, 49] (by rfl) fun K hK => ?_
      simp (decide := true) only [aOps_nil, ev, absV, absS, putD, Slots.put, Slots.keep, if_true, if_false, true_and, ↓ap_assign, pop_assign]
      apply hK; clear hK K
      refine awp_seq ?_
      -- region 12  columns.go:245
      refine awp_rseq [6, 8, 9, 47, 48, 49, 54] (by rfl) fun K hK => ?_
      simp (decide := true) only [aOps_nil, ev, putD, Slots.put, Slots.get, Slots.keep, if_true, if_false, true_and, ↓ap_fieldAddr, pop_fieldAddr, fa61_0, ↓ap_loadL, apL_mk, pLoad_one ag4, rd_any, List.getD_cons_zero, Nat.zero_add, lv_bool]
      apply hK; clear hK K
      refine awp_joinT [6, 8, 9, 47, 48, 49] (fun z : Unit => [(6, .ptr (.own k7q0) 0), (8, .ptr (.own k10q2) 0), (9, .int .i64 cl), (47, .slice l o ls.length cp), (48, .int .i64 ls.length), (49, .int .i64 i)]) (fun z : Unit => (bldH h k7q0 [.int .i64 n] st).set k10q2 ⟨[.bool x.1, .str x.2], 0⟩) (fun z : Unit => True) ?_ ?_
      · refine awp_cond (b := _) rfl (fun hb4 => ?_) (fun hb4 => ?_)
        · skip
          -- region 13  columns.go:246
          refine awp_r [6, 8, 9, 47, 48, 49] (by rfl) ?_
          simp (decide := true) only [aOps_nil, ev, absV, absS, putD, Slots.put, Slots.keep, if_true, if_false, true_and, and_true, ↓ap_assign, pop_assign]
          try simp only [thenA_normal]
          first
          | refine ⟨(), ?_, Sub.refl _, trivial⟩
          | refine ⟨(), ?_, Sub.refl _⟩
          rw [hb4] at hcl
          rw [hcl]
          rfl
        · skip
          refine awp_skip ?_
          try simp only [thenA_normal]
          first
          | refine ⟨(), ?_, Sub.refl _, trivial⟩
          | refine ⟨(), ?_, Sub.refl _⟩
          rw [hb4] at hcl
          rw [hcl]
          rfl
      · intro _ _
        have hne : k10q2 ≠ k7q0 := fun q => by rw [q, bldH_head g3] at hk10q2; cases hk10q2
        have hnn : h k10q2 = none := (Sub.bldH (rest := [.int .i64 n]) hk7q0 g3).none hk10q2
        -- region 14  columns.go:248
        refine awp_rseq [6, 47, 48, 49] (by rfl) fun K hK => ?_
        simp (decide := true) only [ev, putD, Slots.put, Slots.get, if_true, if_false, true_and, ↓ap_move, pop_move, ↓ap_fieldAddr, pop_fieldAddr, fa61_1, ↓ap_loadL, apL_mk, pLoad_one ag9, rd_any, List.getD_cons_zero, List.getD_cons_succ, Nat.zero_add, lv_str]
        rw [bldH_set hk10q2]
        refine aOps_call (by rfl) (by rfl) (c_text w₀ ht10 (h.set k10q2 ⟨[.bool x.1, .str x.2], 0⟩) k7q0 n st ht7q0 (by rw [AHeap.set_ne _ _ hne.symm]; exact hk7q0) (Bld.ok_lay g3 hk10q2 _) cl x.2 hcl2.1 hcl2.2 (by omega) (by omega)) fun x14q3 h14q3 hx14q3 => ?_
        obtain ⟨rfl, st', s1, s2, rfl⟩ := hx14q3
        have s3 : st'.ok 5 h k7q0 := Bld.ok_sub s1 (Sub.set hnn)
        simp (decide := true) only [aOps_nil, putD, Slots.put, Slots.keep, if_true, if_false]
        apply hK; clear hK K
        -- region 15  columns.go:249
        refine awp_rseq [6, 47, 48, 49, 61] (by rfl) fun K hK => ?_
        simp (decide := true) only [ev, putD, Slots.put, Slots.get, if_true, if_false, true_and, ↓ap_fieldAddr, pop_fieldAddr, fa108_0, Nat.zero_add]
        refine aOps_callV (V := .int .i64 st'.bytes.length) (by rfl) (by rfl) (c_bLen w₀ _ k7q0 _ st' s1) ?_
        simp (decide := true) only [aOps_nil, ev, absV, absS, putD, Slots.put, Slots.get, Slots.keep, if_true, if_false, true_and, ↓ap_binOp, pop_binOp, isNilC_int, cond_false, pBinX_int, pI_gtr]
        apply hK; clear hK K
        refine awp_cond (b := _) rfl (fun hb5 => ?_) (fun hb5 => ?_)
        · try simp only [decide_eq_true_eq] at hb5
          -- region 16  columns.go:250
          refine awp_rseq [2, 3] (by rfl) fun K hK => ?_
          simp (decide := true) only [aOps_nil, ev, absV, absS, putD, Slots.put, Slots.keep, if_true, if_false, true_and, ↓ap_assign, pop_assign]
          apply hK; clear hK K
          refine awp_ret ?_
          try simp only [thenA_ret, inBlockA_ret]
          refine retA_ret h ((Sub.set hnn).trans (Sub.bldH (by rw [AHeap.set_ne _ _ hne.symm]; exact hk7q0) s1)) (resPre_tmp (resPre_tmp (resPre_nil))) ?_
          simp (decide := true) only [Slots.get, if_true, if_false, resOf_two]
          rw [← g5, if_pos (by rw [← s2]; omega)]
          exact ⟨rfl, Sub.refl _⟩
        · try simp only [decide_eq_false_iff_not] at hb5
          refine awp_skip ?_
          change Awp _ _ _ _ _ _ _
          -- region 17  columns.go:243
          refine awp_r [6, 47, 48, 49] (by rfl) ?_
          simp (decide := true) only [aOps_nil, ev, absV, absS, putD, Slots.put, Slots.get, Slots.keep, if_true, if_false, true_and, ↓ap_binOp, pop_binOp, isNilC_int, cond_false, pBinX_int, pI_add, ↓ap_move, pop_move]
          try simp (disch := omega) only [wrap_i64]
          try simp only [thenA_normal]
          refine ⟨⟨i + 1, (textE (x.2.length + 1) cl [32] false n st.bytes x.2).1, st'⟩, rfl, Sub.bldH_both (Sub.set hnn), ⟨hi', by simp only; omega, s3, by simp only; omega, ?_⟩, by simp only; omega⟩
          rw [if_neg (by rw [← s2]; omega), ← s2] at g5
          exact g5
    · try simp only [decide_eq_false_iff_not] at hb3
      have he : i = ls.length := by omega
      rw [he, List.drop_length, writeGo] at g5
      rw [← g5]
      refine awp_exit ?_
      change Awp _ _ _ _ _ _ _
      -- region 18  columns.go:253
      refine awp_rseq [2, 3] (by rfl) fun K hK => ?_
      simp (decide := true) only [ev, putD, Slots.put, Slots.get, if_true, if_false, true_and, ↓ap_fieldAddr, pop_fieldAddr, fa108_0, Nat.zero_add]
      refine aOps_call (by rfl) (by rfl) (c_bString w₀ h k7q0 [.int .i64 n] st 108 hk7q0 ht7q0 g3 (by omega)) fun x18q1 h18q1 hx18q1 => ?_
      obtain ⟨rfl, q18⟩ := hx18q1
      subst h18q1
      simp (decide := true) only [aOps_nil, ev, absV, absS, putD, Slots.put, Slots.get, Slots.keep, if_true, if_false, true_and, ↓ap_assign, pop_assign]
      apply hK; clear hK K
      refine awp_ret ?_
      try simp only
      refine retA_ret h (by repeat (first | exact Sub.refl _ | assumption | refine Sub.trans_set ?_ (by assumption))) (resPre_tmp (resPre_tmp (resPre_nil))) ?_
      simp (decide := true) only [Slots.get, if_true, if_false, true_and, resOf_two]
      exact Sub.refl _
end Go.Proofs.YtmadddihphkmoaaGreatDoor

/-
  Contracts: spaces, right, plain, digits, divide of the laws; Open, Squeeze of the reference.
  Conditions: none.
-/
namespace Go.Proofs.YtmadddihphkmoaaGreatDoor
open Go.AM
open Go.Proofs
open Go.Col
set_option maxRecDepth 100000

/-- A text with single spaces outside of quotes: whether in quotes, whether behind a space. -/
def sqGo : Bool → Bool → Str → Str
  | _, _, [] => []
  | q, p, b :: s => if b = 32 ∧ (if b = 34 then !q else q) = false ∧ p = true then sqGo (if b = 34 then !q else q) (decide (b = 32)) s else b :: sqGo (if b = 34 then !q else q) (decide (b = 32)) s
def sqE (s : Str) : Str := sqGo false false s
end Go.Proofs.YtmadddihphkmoaaGreatDoor

/-
  Contracts: read of the laws.
  Conditions: none.
-/
namespace Go.Proofs.YtmadddihphkmoaaGreatDoor
open Go.AM
open Go.Proofs
open Go.Col
set_option maxRecDepth 100000

theorem IsCards.live {w₀ : World} {h : AHeap} {v : AVal} {cs : List CardC} (hc : IsCards w₀ h v cs) : v.live = true := by
  obtain ⟨ps, rfl, h2, h3⟩ := hc
  exact h2.live
theorem IsCards.len {w₀ : World} {h : AHeap} {v : AVal} {cs : List CardC} (hc : IsCards w₀ h v cs) : pLen Tryz.prog 40 v = ⟨True, .int .i64 cs.length⟩ := by
  obtain ⟨ps, rfl, h2, h3⟩ := hc
  have := h2.len Tryz.underlying40
  rw [List.length_map] at this ⊢
  exact this
theorem IsCards.open {w₀ : World} {h : AHeap} {v : AVal} {cs : List CardC} (hc : IsCards w₀ h v cs) (hn : 0 < cs.length) : ∃ l o c, v = .slice l o cs.length c := by
  obtain ⟨ps, rfl, h2, h3⟩ := hc
  obtain ⟨l, o, c, e⟩ := h2.open (fun e => by rw [List.map_eq_nil_iff] at e; subst e; simp at hn)
  rw [List.length_map] at e ⊢
  exact ⟨l, o, c, e⟩
end Go.Proofs.YtmadddihphkmoaaGreatDoor

/-
  Contracts: lives of the laws.
  Conditions: none.
-/
namespace Go.Proofs.YtmadddihphkmoaaGreatDoor
open Go.AM
open Go.Proofs
open Go.Col
set_option maxRecDepth 100000

theorem isLines {w₀ : World} {h : AHeap} {k : Nat} {ls : List (Bool × Str)} (hk : h k = some ⟨(ls.map lineC).flatten, 0⟩) (c : Cap) (hc : c = .exact ls.length) : IsL w₀ h 2 (.slice (.own k) 0 ls.length c) (ls.map lineC) := by
  have hw : ∀ x ∈ ls.map lineC, x.length = 2 := fun x hx => by obtain ⟨y, _, rfl⟩ := List.mem_map.1 hx; rfl
  have hl : allLive (ls.map lineC).flatten = true := allLive_flatten.2 fun x hx => by obtain ⟨y, _, rfl⟩ := List.mem_map.1 hx; rfl
  have := IsL.own (w₀ := w₀) hk hw rfl hl c (by rw [hc]; simp)
  rw [List.length_map] at this
  exact this
end Go.Proofs.YtmadddihphkmoaaGreatDoor

/-
  The statement ColumnsLayout, walked.
  Conditions: none.
-/
namespace Go.Proofs.YtmadddihphkmoaaGreatDoor
open Go.AM
open Go.Proofs
open Go.Col
set_option maxRecDepth 100000

theorem oddQ_cons (b : UInt8) (s : Str) : oddQ (b :: s) = if b = 34 then !oddQ s else oddQ s := by
  unfold oddQ quotes
  rw [List.countP_cons]
  by_cases h : b = 34
  · rw [if_pos (by simp [h]), if_pos h, Bool.eq_iff_iff, Bool.not_eq_true', decide_eq_true_eq, decide_eq_false_iff_not]
    omega
  · rw [if_neg (by simp [h]), if_neg h]
    rfl
theorem oddQ_append (a b : Str) : oddQ (a ++ b) = (oddQ a != oddQ b) := by
  induction a with
  | nil => show oddQ b = (false != oddQ b); cases oddQ b <;> rfl
  | cons x a ih =>
    rw [List.cons_append, oddQ_cons, oddQ_cons, ih]
    split
    · cases oddQ a <;> cases oddQ b <;> rfl
    · rfl
/-- A byte at which a text can be divided. -/
def cutAt (s : Str) (q : Bool) (n : Nat) : Bool := decide (n < s.length) && decide (s.getD n 0 = 32) && (oddQ (s.take n) == q)
theorem spaceGo_low : ∀ (s : Str) (i n : Nat) (q : Bool) (f : Nat), n < i → spaceGo s i n q f = f
  | [], _, _, _, _, _ => rfl
  | b :: s, i, n, q, f, h => by rw [spaceGo, if_pos h]
theorem spaceGo_up : ∀ (s : Str) (i n : Nat) (q : Bool) (f : Nat), spaceGo s i (n + 1) q f = if i ≤ n + 1 ∧ cutAt s q (n + 1 - i) = true then n + 1 else spaceGo s i n q f
  | [], i, n, q, f => by
    rw [if_neg (by unfold cutAt; simp)]
    rfl
  | b :: s, i, n, q, f => by
    by_cases h1 : n + 1 < i
    · rw [spaceGo_low _ _ _ _ _ h1, spaceGo_low _ _ _ _ _ (by omega), if_neg (by omega)]
    · rw [spaceGo, if_neg h1]
      simp only
      rw [spaceGo_up s (i + 1) n]
      by_cases h2 : i = n + 1
      · rw [if_neg (by omega), spaceGo_low _ _ _ _ _ (by omega), spaceGo_low (b :: s) i n q f (by omega)]
        have e : cutAt (b :: s) q (n + 1 - i) = (decide (b = 32) && (false == q)) := by
          rw [h2, Nat.sub_self]
          unfold cutAt
          simp only [List.length_cons, List.getD_cons_zero, List.take_zero]
          rw [decide_eq_true (by omega), Bool.true_and]
          rfl
        rw [e]
        by_cases hb : b = 32
        · subst hb
          cases q
          · simp [show 0 < i by omega, show i ≤ n + 1 by omega]; omega
          · simp
        · rw [if_neg (by simp [hb]), if_neg (by simp [hb])]
      · have e : cutAt (b :: s) q (n + 1 - i) = cutAt s (if b = 34 then !q else q) (n + 1 - (i + 1)) := by
          have : n + 1 - i = (n + 1 - (i + 1)) + 1 := by omega
          rw [this]
          unfold cutAt
          simp only [List.length_cons, List.getD_cons_succ, List.take_succ_cons]
          rw [oddQ_cons]
          have e1 : decide (n + 1 - (i + 1) + 1 < s.length + 1) = decide (n + 1 - (i + 1) < s.length) := by rw [decide_eq_decide]; omega
          rw [e1]
          congr 1
          split
          · cases q <;> cases oddQ (s.take (n + 1 - (i + 1))) <;> rfl
          · rfl
        rw [e]
        have er : spaceGo (b :: s) i n q f = spaceGo s (i + 1) n (if b = 34 then !q else q) (if b = 32 ∧ (if b = 34 then !q else q) = false ∧ 0 < i then i else f) := by rw [spaceGo, if_neg (show ¬ n < i by omega)]
        rw [er]
        by_cases hc : cutAt s (if b = 34 then !q else q) (n + 1 - (i + 1)) = true
        · rw [if_pos ⟨by omega, hc⟩, if_pos ⟨by omega, hc⟩]
        · have n1 : ¬ (i + 1 ≤ n + 1 ∧ cutAt s (if b = 34 then !q else q) (n + 1 - (i + 1)) = true) := fun x => hc x.2
          have n2 : ¬ (i ≤ n + 1 ∧ cutAt s (if b = 34 then !q else q) (n + 1 - (i + 1)) = true) := fun x => hc x.2
          rw [if_neg n1, if_neg n2]
theorem spaceE_up (s : Str) (n : Nat) (q : Bool) : spaceE s (n + 1) q = if cutAt s q (n + 1) = true then n + 1 else spaceE s n q := by
  unfold spaceE
  rw [spaceGo_up]
  simp only [Nat.sub_zero, Nat.zero_le, true_and]
theorem spaceE_zero (s : Str) (q : Bool) : spaceE s 0 q = 0 := by have := (spaceE_le s 0 q).1; omega
theorem spaceE_cut (s : Str) (q : Bool) : ∀ n, 0 < spaceE s n q → cutAt s q (spaceE s n q) = true
  | 0, h => by rw [spaceE_zero] at h; omega
  | n + 1, h => by
    rw [spaceE_up] at h ⊢
    split
    · rename_i hc; exact hc
    · rename_i hc; rw [if_neg hc] at h; exact spaceE_cut s q n h
theorem spaceE_none {s : Str} {q : Bool} : ∀ {n : Nat}, ¬ 0 < spaceE s n q → ∀ k, 0 < k → k ≤ n → cutAt s q k = false
  | 0, _, k, h1, h2 => by omega
  | n + 1, h, k, h1, h2 => by
    rw [spaceE_up] at h
    by_cases hc : cutAt s q (n + 1) = true
    · rw [if_pos hc] at h; omega
    · rw [if_neg hc] at h
      by_cases hk : k = n + 1
      · subst hk; simpa using hc
      · exact spaceE_none h k h1 (by omega)
/-- The last byte is no space. -/
def lastOk (s : Str) : Prop := s ≠ [] ∧ s.getLast? ≠ some 32
theorem lastOk_drop {s : Str} (h : lastOk s) {k : Nat} (hk : k < s.length) : lastOk (s.drop k) := by
  refine ⟨fun e => ?_, ?_⟩
  · have := congrArg List.length e; simp at this; omega
  · rw [List.getLast?_drop, if_neg (by omega)]; exact h.2
theorem trimL_split (s : Str) : ∃ k, s = List.replicate k 32 ++ trimL s ∧ (trimL s).head? ≠ some 32 := by
  induction s with
  | nil => exact ⟨0, rfl, by simp [trimL]⟩
  | cons b s ih =>
    by_cases h : b = 32
    · obtain ⟨k, h1, h2⟩ := ih
      refine ⟨k + 1, ?_, ?_⟩
      · subst h
        rw [List.replicate_succ, List.cons_append]
        have : trimL (32 :: s) = trimL s := by simp [trimL]
        rw [this, ← h1]
      · have : trimL (b :: s) = trimL s := by simp [trimL, h]
        rw [this]; exact h2
    · have : trimL (b :: s) = b :: s := by simp [trimL, h]
      rw [this]
      exact ⟨0, rfl, by simpa using h⟩
theorem lastOk_trimL {s : Str} (h : lastOk s) : lastOk (trimL s) := by
  obtain ⟨k, h1, h2⟩ := trimL_split s
  have hne : trimL s ≠ [] := by
    intro e
    rw [e, List.append_nil] at h1
    cases k with
    | zero => exact h.1 h1
    | succ k =>
      refine h.2 ?_
      rw [h1, List.replicate_succ', List.getLast?_append]
      rfl
  refine ⟨hne, ?_⟩
  have := h.2
  rw [h1, List.getLast?_append] at this
  cases hl : (trimL s).getLast? with
  | none => simp
  | some x => rw [hl] at this; simpa using this
theorem right_last {s : Str} (h : rightE s = true) : lastOk s := by
  unfold rightE at h
  simp only [Bool.and_eq_true, Bool.not_eq_true', decide_eq_false_iff_not] at h
  exact ⟨h.1.1.1.1, h.1.2⟩
theorem textE_len : ∀ (f col : Nat) (mark : Str) (q : Bool) (k : Nat) (out s : Str), 8 ≤ col → col ≤ 12 → mark.length = 1 → (textE f col mark q k out s).2.length ≤ out.length + 80 * f
  | 0, _, _, _, _, _, _, _, _, _ => by simp [textE]
  | f + 1, col, mark, q, k, out, s, h1, h2, h3 => by
    have hld : (if q = true then [34] else [] : Str).length ≤ 1 := by split <;> simp
    by_cases h : s.length ≤ 73 - col - (if q = true then 1 else 0)
    · rw [textE_short h]
      have hol := outE_len (k + 1) col mark ((if q = true then [34] else []) ++ s)
      simp only [List.length_append] at hol ⊢
      omega
    · by_cases h2' : 0 < spaceE s (73 - col - (if q = true then 1 else 0)) q
      · rw [textE_space h h2']
        have hol := outE_len (k + 1) col mark ((if q = true then [34] else []) ++ s.take (spaceE s (73 - col - (if q = true then 1 else 0)) q))
        have hle := (spaceE_le s (73 - col - (if q = true then 1 else 0)) q).1
        refine Nat.le_trans (textE_len f 12 [32] false _ _ _ (by omega) (by omega) rfl) ?_
        simp only [List.length_append, List.length_take] at hol ⊢
        omega
      · rw [textE_cut h h2']
        have hol := outE_len (k + 1) col mark ((if q = true then [34] else []) ++ s.take (73 - col - (if q = true then 1 else 0)))
        refine Nat.le_trans (textE_len f 12 [45] _ _ _ _ (by omega) (by omega) rfl) ?_
        simp only [List.length_append, List.length_take] at hol ⊢
        omega
end Go.Proofs.YtmadddihphkmoaaGreatDoor

/-
  Plain law: where the bytes of the cards that Read answers stand in the source text.
  Conditions: none.
-/
namespace Go.Proofs.YtmadddihphkmoaaGreatDoor
open Go.AM
open Go.Proofs
open Go.Col
set_option maxRecDepth 100000

/-- A part of a card: where it begins, its bytes. -/
structure PartC where
  line : Int
  col : Int
  str : Str
def partsText : List PartC → Str
  | [] => []
  | p :: ps => p.str ++ partsText ps
def marksFrom : Nat → List PartC → List MarkC
  | _, [] => []
  | n, p :: ps => ⟨n, p.line, p.col⟩ :: marksFrom (n + p.str.length) ps
def posAt : List PartC → Nat → Int × Int
  | [], _ => (0, 0)
  | [p], i => (p.line, p.col + i)
  | p :: q :: ps, i => if i < p.str.length then (p.line, p.col + i) else posAt (q :: ps) (i - p.str.length)
/-- The byte at a place of the source text, lines padded to 72 columns. -/
def byteAt (L : List Str) (line col : Int) : UInt8 := (padE (L.getD (line.toNat - 1) [])).getD (col.toNat - 1) 0
structure PartOk (L : List Str) (p : PartC) : Prop where
  ne : 0 < p.str.length
  low : 1 ≤ p.line
  high : p.line ≤ L.length
  col : 8 ≤ p.col
  fit : p.col + p.str.length ≤ 73
  byte : ∀ j : Nat, j < p.str.length → p.str.getD j 0 = byteAt L p.line (p.col + j)
def Asc (ps : List PartC) : Prop := ps.Pairwise fun p q => p.line < q.line

theorem getD_l {α : Type} {a b : List α} {d : α} {i : Nat} (h : i < a.length) : (a ++ b).getD i d = a.getD i d := by
  simp only [List.getD, List.getElem?_append_left h]
theorem getD_r {α : Type} {a b : List α} {d : α} {i : Nat} (h : a.length ≤ i) : (a ++ b).getD i d = b.getD (i - a.length) d := by
  simp only [List.getD, List.getElem?_append_right h]
theorem dropWhile_nil {α : Type} {p : α → Bool} : ∀ {l : List α}, l.dropWhile p = [] → ∀ x ∈ l, p x = true
  | [], _, x, hx => by cases hx
  | y :: l, h, x, hx => by
    rw [List.dropWhile_cons] at h
    split at h
    · rename_i hy
      rcases List.mem_cons.1 hx with rfl | hx
      · exact hy
      · exact dropWhile_nil h x hx
    · cases h
theorem partsText_append (a b : List PartC) : partsText (a ++ b) = partsText a ++ partsText b := by
  induction a with
  | nil => rfl
  | cons p a ih => simp only [List.cons_append, partsText, ih, List.append_assoc]
theorem marksFrom_append : ∀ (a b : List PartC) (n : Nat), marksFrom n (a ++ b) = marksFrom n a ++ marksFrom (n + (partsText a).length) b
  | [], b, n => rfl
  | p :: a, b, n => by
    simp only [List.cons_append, marksFrom, partsText, List.length_append]
    rw [marksFrom_append a b, Nat.add_assoc]
theorem marksFrom_above : ∀ (ps : List PartC) (n : Nat), ∀ m ∈ marksFrom n ps, (n : Int) ≤ m.frm
  | [], n, m, h => by cases h
  | p :: ps, n, m, h => by
    rcases List.mem_cons.1 h with rfl | h
    · exact Int.le_refl _
    · have := marksFrom_above ps _ m h
      omega
theorem atGo_above {i : Int} : ∀ (ms : List MarkC) (p : Int × Int), (∀ m ∈ ms, i < m.frm) → atGo i ms p = p
  | [], p, _ => rfl
  | m :: ms, p, h => by
    rw [atGo, if_neg (by have := h m (by simp); omega)]
    exact atGo_above ms p fun x hx => h x (by simp [hx])
theorem at_parts : ∀ (ps : List PartC) (n i : Nat) (p0 : Int × Int), ps ≠ [] → atGo ((n + i : Nat) : Int) (marksFrom n ps) p0 = posAt ps i
  | [], _, _, _, h => absurd rfl h
  | [p], n, i, p0, _ => by
    show (if ((n : Int)) ≤ ((n + i : Nat) : Int) then (p.line, p.col + ((n + i : Nat) : Int) - (n : Int)) else p0) = (p.line, p.col + (i : Int))
    rw [if_pos (by omega)]
    congr 1
    omega
  | p :: q :: ps, n, i, p0, _ => by
    rw [marksFrom, atGo, if_pos (show ((n : Nat) : Int) ≤ ((n + i : Nat) : Int) by omega), posAt]
    by_cases hi : i < p.str.length
    · rw [if_pos hi, atGo_above _ _ (fun m hm => by have := marksFrom_above _ _ m hm; omega)]
      show (p.line, p.col + ((n + i : Nat) : Int) - (n : Int)) = _
      congr 1
      omega
    · rw [if_neg hi, show n + i = (n + p.str.length) + (i - p.str.length) by omega]
      exact at_parts (q :: ps) (n + p.str.length) (i - p.str.length) _ (by simp)
theorem valid_parts (c : CardC) {L : List Str} : ∀ (ps : List PartC) (n : Nat) (b : Int), b < n → n + (partsText ps).length ≤ c.text.length → (∀ p ∈ ps, PartOk L p) → validC.go c b (marksFrom n ps) = true
  | [], _, _, _, _, _ => rfl
  | p :: ps, n, b, hb, hn, hp => by
    have h := hp p (by simp)
    have h1 := h.ne
    have h2 := h.low
    have h3 := h.col
    have h4 := h.fit
    simp only [partsText, List.length_append] at hn
    rw [marksFrom, validC.go, Bool.and_eq_true]
    refine ⟨decide_eq_true ⟨hb, by simp only; omega, h2, h3, by simp only; omega⟩, ?_⟩
    exact valid_parts c ps _ _ (by simp only; omega) (by omega) fun q hq => hp q (by simp [hq])
/-- A card and its parts. -/
structure CardOk (L : List Str) (c : CardC) (ps : List PartC) : Prop where
  text : c.text = partsText ps
  marks : c.marks = marksFrom 0 ps
  parts : ∀ p ∈ ps, PartOk L p
  asc : Asc ps
theorem CardOk.valid {L : List Str} {c : CardC} {ps : List PartC} (h : CardOk L c ps) (hn : ps ≠ []) : validC c = true := by
  cases ps with
  | nil => exact absurd rfl hn
  | cons p ps =>
    have hm := h.marks
    rw [validC_eq (by rw [hm, marksFrom]; simp)]
    rw [Bool.and_eq_true]
    refine ⟨?_, ?_⟩
    · rw [hm, marksFrom]; rfl
    · rw [hm]; exact valid_parts c (p :: ps) 0 (-1) (by omega) (by rw [h.text]; omega) h.parts
theorem CardOk.at {L : List Str} {c : CardC} {ps : List PartC} (h : CardOk L c ps) (hn : ps ≠ []) {k : Nat} (hk : k ≤ c.text.length) : atE c k = ((posAt ps k).1, (posAt ps k).2, 0) := by
  unfold atE
  rw [if_pos ⟨h.valid hn, by omega, by omega⟩, h.marks]
  have := at_parts ps 0 k (0, 0) hn
  rw [Nat.zero_add] at this
  rw [this]
/-! ### What Read collects -/
theorem addC_ok {L : List Str} {c : CardC} {ps : List PartC} (h : CardOk L c ps) {line col : Int} {text : Str} (hp : ∀ t, t <+: text → 0 < t.length → PartOk L ⟨line, col, t⟩) (ha : ∀ p ∈ ps, p.line < line) :
    ∃ qs, CardOk L (addC c line col text) (ps ++ qs) ∧ (∀ q ∈ qs, q.line = line) ∧ qs.length ≤ 1 ∧ (trimR text ≠ [] → text ≠ [] → qs ≠ []) := by
  obtain ⟨t, ht⟩ : ∃ t, t = if oddQ (c.text ++ text) then text else trimR text := ⟨_, rfl⟩
  have hpre : t <+: text := by
    rw [ht]
    split
    · exact List.prefix_refl _
    · unfold trimR
      exact List.reverse_suffix.1 (by rw [List.reverse_reverse]; exact List.dropWhile_suffix _)
  have hc : addC c line col text = ⟨c.left, c.text ++ t, if t = [] then c.marks else c.marks ++ [⟨c.text.length, line, col⟩]⟩ := by unfold addC; rw [ht]
  by_cases h0 : t = []
  · refine ⟨[], ?_, by simp, by simp, fun h1 h2 => ?_⟩
    · rw [hc, h0, if_pos rfl, List.append_nil, List.append_nil]
      exact ⟨h.text, h.marks, h.parts, h.asc⟩
    · rw [h0] at ht
      split at ht
      · exact absurd ht.symm h2
      · exact absurd ht.symm h1
  · refine ⟨[⟨line, col, t⟩], ?_, by simp, by simp, by simp⟩
    rw [hc, if_neg h0]
    refine ⟨?_, ?_, ?_, ?_⟩
    · simp only [partsText_append, partsText, List.append_nil, h.text]
    · simp only [marksFrom_append, marksFrom, Nat.zero_add, h.marks, h.text]
    · intro p hq
      rcases List.mem_append.1 hq with hq | hq
      · exact h.parts p hq
      · rw [List.mem_singleton.1 hq]
        exact hp t hpre (List.length_pos_iff.2 h0)
    · refine List.pairwise_append.2 ⟨h.asc, List.pairwise_singleton _ _, fun p hq q hr => ?_⟩
      rw [List.mem_singleton.1 hr]
      exact ha p hq
/-- Cards with their parts, ahead of a line. -/
structure RdOk (L : List Str) (n : Nat) (x : Rd) (ys : List (CardC × List PartC)) : Prop where
  cards : x.cards = ys.map (·.1)
  ok : ∀ y ∈ ys, CardOk L y.1 y.2
  ne : ∀ y ∈ ys, y.2 ≠ []
  asc : Asc (ys.flatMap (·.2))
  low : ∀ y ∈ ys, ∀ p ∈ y.2, p.line < n
theorem RdOk.next {L : List Str} {n : Nat} {x : Rd} {ys : List (CardC × List PartC)} (h : RdOk L n x ys) : RdOk L (n + 1) x ys :=
  ⟨h.cards, h.ok, h.ne, h.asc, fun y hy p hp => by have := h.low y hy p hp; omega⟩
/-- What a counting row gives. -/
structure RowOk (L : List Str) (n : Nat) (r : RowC) : Prop where
  line : r.line = n
  part : ∀ (d : Nat) (t : Str), t <+: r.text.drop d → 0 < t.length → PartOk L ⟨n, r.col + d, t⟩
  ne : r.text ≠ []
  trim : trimR r.text ≠ []
theorem trimL_drop (s : Str) : trimL s = s.drop (s.length - (trimL s).length) := by
  obtain ⟨k, h1, _⟩ := trimL_split s
  have h2 := congrArg List.length h1
  rw [List.length_append, List.length_replicate] at h2
  have : s.length - (trimL s).length = k := by omega
  rw [this]
  conv => rhs; rw [h1]
  rw [List.drop_left' (by simp)]
theorem lineE_row {s : Str} {n : Nat} {dbg : Bool} {r : RowC} (h : lineE s n dbg = (r, true, okF)) : s.length ≤ 80 ∧ r = rowE s n ∧ r.text ≠ [] := by
  have h1 := (lineE_small (s := s) (line := n) (dbg := dbg)).2
  rw [h] at h1
  have hne := (h1 rfl).1
  by_cases h80 : 80 < s.length
  · unfold lineE at h; rw [if_pos h80] at h; cases h
  · refine ⟨by omega, ?_, hne⟩
    cases hb : badAt s with
    | some i => unfold lineE at h; rw [if_neg h80, hb] at h; cases h
    | none =>
      rw [lineE_none h80 hb] at h
      split at h
      · cases h
      · split at h
        · exact (congrArg (·.1) h).symm
        · split at h
          · exact (congrArg (·.1) h).symm
          · cases h
theorem row_ok {L : List Str} {s : Str} {n : Nat} {dbg : Bool} {r : RowC} (h : lineE s n dbg = (r, true, okF)) (h1 : 1 ≤ n) (h2 : n ≤ L.length) (hs : L.getD (n - 1) [] = s) : RowOk L n r := by
  obtain ⟨h80, rfl, hne⟩ := lineE_row h
  obtain ⟨T, hT⟩ : ∃ T, T = ((padE s).drop 7).take 65 := ⟨_, rfl⟩
  have hp := padE_len h80
  have hTl : T.length = 65 := by rw [hT, List.length_take, List.length_drop]; omega
  have htx : (rowE s n).text = trimL T := by rw [hT]; rfl
  have hcol : (rowE s n).col = 73 - ((trimL T).length : Int) := by rw [hT]; rfl
  have hle := trimL_le T
  have hd := trimL_drop T
  obtain ⟨m, hm⟩ : ∃ m, m = (trimL T).length := ⟨_, rfl⟩
  rw [← hm] at hcol hle hd
  rw [hTl] at hle hd
  have htl2 : (trimL T).head? ≠ some 32 := by obtain ⟨_, _, q⟩ := trimL_split T; exact q
  refine ⟨rfl, fun d t ht hl => ?_, hne, ?_⟩
  · rw [htx] at ht
    obtain ⟨rest, hr⟩ := ht
    have hlen := congrArg List.length hr
    rw [List.length_append, List.length_drop, ← hm] at hlen
    refine ⟨hl, by simp only; omega, by simp only; omega, by simp only [hcol]; omega, by simp only [hcol]; omega, fun j hj => ?_⟩
    simp only
    unfold byteAt
    rw [hcol, show ((n : Int)).toNat - 1 = n - 1 by omega, hs, show ((73 : Int) - (m : Int) + (d : Int) + (j : Int)).toNat - 1 = 72 - m + d + j by simp only at hj; omega]
    have e1 : t.getD j 0 = (t ++ rest).getD j 0 := (getD_l hj).symm
    rw [e1, hr, hd, hT]
    simp only [List.getD_eq_getElem?_getD, List.getElem?_drop]
    rw [List.getElem?_take_of_lt (by simp only at hj; omega), List.getElem?_drop]
    congr 2
    simp only at hj
    omega
  · rw [htx] at hne ⊢
    intro e
    unfold trimR at e
    rw [List.reverse_eq_nil_iff] at e
    replace e := dropWhile_nil e
    cases hx : trimL T with
    | nil => exact hne hx
    | cons b u =>
      rw [hx] at htl2 e
      have := e b (by simp)
      simp only [beq_iff_eq] at this
      exact htl2 (by rw [this]; rfl)
theorem RdOk.flat {L : List Str} {n : Nat} {x : Rd} {ys : List (CardC × List PartC)} (h : RdOk L n x ys) : ∀ p ∈ ys.flatMap (fun y => y.2), p.line < (n : Int) := by
  intro p hp
  obtain ⟨y, hy, hp⟩ := List.mem_flatMap.1 hp
  exact h.low y hy p hp
theorem add_new {L : List Str} {n : Nat} {x : Rd} {ys : List (CardC × List PartC)} (h : RdOk L n x ys) {r : RowC} (hr : RowOk L n r) (b : Bool) : ∃ zs, RdOk L (n + 1) (addE { x with cards := x.cards ++ [⟨b, [], []⟩] } r.line r.col r.text) zs := by
  have h0 : CardOk L ⟨b, [], []⟩ [] := ⟨rfl, rfl, by simp, .nil⟩
  obtain ⟨qs, q1, q2, q3, q4⟩ := addC_ok h0 (line := r.line) (col := r.col) (text := r.text) (fun t ht hl => by have := hr.part 0 t ht hl; rw [hr.line]; simpa using this) (by simp)
  rw [addE_last (x := { x with cards := x.cards ++ [⟨b, [], []⟩] }) rfl]
  rw [List.nil_append] at q1
  have hl : ∀ q ∈ qs, q.line = n := fun q hq => by rw [q2 q hq, hr.line]
  refine ⟨ys ++ [(addC ⟨b, [], []⟩ r.line r.col r.text, qs)], ?_, ?_, ?_, ?_, ?_⟩
  · simp only [List.map_append, h.cards, List.map_cons, List.map_nil]
  · intro y hy
    rcases List.mem_append.1 hy with hy | hy
    · exact h.ok y hy
    · rw [List.mem_singleton.1 hy]; exact q1
  · intro y hy
    rcases List.mem_append.1 hy with hy | hy
    · exact h.ne y hy
    · rw [List.mem_singleton.1 hy]; exact q4 hr.trim hr.ne
  · rw [List.flatMap_append]
    refine List.pairwise_append.2 ⟨h.asc, by simp only [List.flatMap_cons, List.flatMap_nil, List.append_nil]; exact q1.asc, fun p hp q hq => ?_⟩
    simp only [List.flatMap_cons, List.flatMap_nil, List.append_nil] at hq
    rw [hl q hq]
    exact h.flat p hp
  · intro y hy p hp
    rcases List.mem_append.1 hy with hy | hy
    · have := h.low y hy p hp; omega
    · rw [List.mem_singleton.1 hy] at hp
      rw [hl p hp]; omega
theorem add_more {L : List Str} {n : Nat} {x : Rd} {ys : List (CardC × List PartC)} (h : RdOk L n x ys) (hn : x.cards ≠ []) {line col : Int} {text : Str} (hl : line = n) (hp : ∀ t, t <+: text → 0 < t.length → PartOk L ⟨line, col, t⟩) : ∃ zs, RdOk L (n + 1) (addE x line col text) zs := by
  rcases List.eq_nil_or_concat ys with e | ⟨zs, y, e⟩
  · exact absurd (by rw [h.cards, e]; rfl) hn
  · rw [List.concat_eq_append] at e
    subst e
    obtain ⟨c, ps⟩ := y
    have hc : x.cards = zs.map (·.1) ++ [c] := by rw [h.cards]; simp
    have hy := h.ok (c, ps) (by simp)
    obtain ⟨qs, q1, q2, q3, q4⟩ := addC_ok hy (line := line) (col := col) (text := text) hp (fun p hp => by rw [hl]; exact h.low (c, ps) (by simp) p hp)
    rw [addE_last hc]
    have hql : ∀ q ∈ qs, q.line = n := fun q hq => by rw [q2 q hq, hl]
    refine ⟨zs ++ [(addC c line col text, ps ++ qs)], ?_, ?_, ?_, ?_, ?_⟩
    · simp
    · intro y hy
      rcases List.mem_append.1 hy with hy | hy
      · exact h.ok y (by simp [hy])
      · rw [List.mem_singleton.1 hy]; exact q1
    · intro y hy
      rcases List.mem_append.1 hy with hy | hy
      · exact h.ne y (by simp [hy])
      · rw [List.mem_singleton.1 hy]
        have := h.ne (c, ps) (by simp)
        simp only at this ⊢
        intro e
        exact this (List.append_eq_nil_iff.1 e).1
    · have ha := h.asc
      have hf := h.flat
      simp only [List.flatMap_append, List.flatMap_cons, List.flatMap_nil, List.append_nil] at ha hf ⊢
      rw [← List.append_assoc]
      refine List.pairwise_append.2 ⟨ha, (List.pairwise_append.1 q1.asc).2.1, fun p hp q hq => ?_⟩
      rw [hql q hq]
      exact hf p hp
    · intro y hy p hp
      rcases List.mem_append.1 hy with hy | hy
      · have := h.low y (by simp [hy]) p hp; omega
      · rw [List.mem_singleton.1 hy] at hp
        simp only at hp
        rcases List.mem_append.1 hp with hp | hp
        · have := h.low (c, ps) (by simp) p hp; omega
        · rw [hql p hp]; omega
theorem take_ok {L : List Str} {n : Nat} {x : Rd} {ys : List (CardC × List PartC)} (h : RdOk L n x ys) {r : RowC} (hr : RowOk L n r) (hf : (takeE x r).2 = okF) : ∃ zs, RdOk L (n + 1) (takeE x r).1 zs := by
  have hb : ∀ {a b c : Int}, a ≠ 0 → ¬ ((⟨a, b, c⟩ : FaultC) = okF) := fun ha e => ha (congrArg FaultC.e e)
  unfold takeE at hf ⊢
  split at hf
  · exact absurd hf (hb (by decide))
  · rename_i c1
    rw [if_neg c1]
    split at hf
    · rename_i c2
      rw [if_pos c2]
      exact add_new h hr _
    · rename_i c2
      rw [if_neg c2]
      split at hf
      · exact absurd hf (hb (by decide))
      · rename_i c3
        rw [if_neg c3]
        split at hf
        · exact absurd hf (hb (by decide))
        · rename_i c4
          rw [if_neg c4]
          split at hf
          · rename_i c5
            rw [if_pos c5]
            exact add_more h c3 hr.line (fun t ht hl => by have := hr.part 1 t ht hl; rw [hr.line]; simpa using this)
          · rename_i c5
            rw [if_neg c5]
            exact add_more h c3 hr.line (fun t ht hl => by have := hr.part 0 t ht hl; rw [hr.line]; simpa using this)
theorem readL_ok {L : List Str} (dbg : Bool) : ∀ (ls : List Str) (n : Nat) (x : Rd) (ys : List (CardC × List PartC)), RdOk L n x ys → 1 ≤ n → n + ls.length ≤ L.length + 1 → (∀ j, j < ls.length → L.getD (n - 1 + j) [] = ls.getD j []) → (readL dbg ls n x).2 = okF → ∃ m zs, RdOk L m (readL dbg ls n x).1 zs
  | [], n, x, ys, h, _, _, _, _ => ⟨n, ys, h⟩
  | s :: ls, n, x, ys, h, h1, h2, h3, hf => by
    have e1 : ((n : Int) + 1) = ((n + 1 : Nat) : Int) := by omega
    have hs : L.getD (n - 1) [] = s := by have := h3 0 (by simp); simpa using this
    rw [List.length_cons] at h2
    have h3' : ∀ j, j < ls.length → L.getD (n + 1 - 1 + j) [] = ls.getD j [] := fun j hj => by
      have := h3 (j + 1) (by simp; omega)
      rw [show n - 1 + (j + 1) = n + 1 - 1 + j by omega] at this
      simpa using this
    cases hp : lineE s n dbg with
    | mk r q =>
      obtain ⟨cn, f⟩ := q
      by_cases hff : f = okF
      · cases cn with
        | false =>
          rw [readL_skip hp hff, e1] at hf ⊢
          exact readL_ok dbg ls (n + 1) x ys h.next (by omega) (by omega) h3' hf
        | true =>
          subst hff
          have hr : RowOk L n r := row_ok hp h1 (by omega) hs
          by_cases hg : (takeE x r).2 = okF
          · rw [readL_take hp rfl hg, e1] at hf ⊢
            obtain ⟨zs, hz⟩ := take_ok h hr hg
            exact readL_ok dbg ls (n + 1) _ zs hz (by omega) (by omega) h3' hf
          · rw [readL_bad hp rfl hg] at hf
            exact absurd hf hg
      · rw [readL_fault hp hff] at hf
        exact absurd hf hff
theorem splitNL_ne : ∀ s : Str, splitNL s ≠ []
  | [] => by simp [splitNL]
  | b :: s => by unfold splitNL; split <;> (try split) <;> simp
theorem splitNL_cat : ∀ (a b : Str), splitNL (a ++ 10 :: b) = splitNL a ++ splitNL b
  | [], b => by show splitNL (10 :: b) = [] :: splitNL b; rw [splitNL, if_pos rfl]
  | x :: a, b => by
    rw [List.cons_append, splitNL, splitNL]
    by_cases h : x = 10
    · rw [if_pos h, if_pos h, splitNL_cat a b, List.cons_append]
    · rw [if_neg h, if_neg h, splitNL_cat a b]
      cases hq : splitNL a with
      | nil => exact absurd hq (splitNL_ne a)
      | cons l ls => rfl
theorem splitNL_trim (s : Str) : splitNL (trimNL s) = splitNL s ∨ splitNL s = splitNL (trimNL s) ++ [[]] := by
  unfold trimNL
  by_cases h : s.getLast? = some 10
  · rw [if_pos h]
    refine .inr ?_
    obtain ⟨t, ht⟩ : ∃ t, s = t ++ [10] := by
      rcases List.eq_nil_or_concat s with e | ⟨t, x, e⟩
      · rw [e] at h; cases h
      · rw [List.concat_eq_append] at e
        rw [e, List.getLast?_append] at h
        cases h
        exact ⟨t, e⟩
    rw [ht, List.dropLast_concat, splitNL_cat]
    rfl
  · rw [if_neg h]; exact .inl rfl
theorem readE_parts {text : Str} {dbg : Bool} (hf : (readE text dbg).2 = okF) : ∃ n x ys, RdOk (splitNL text) n x ys ∧ (readE text dbg).1 = ys.map (·.1) := by
  have h0 : RdOk (splitNL text) 1 .start [] := ⟨rfl, by simp, by simp, .nil, by simp⟩
  have hpre : ∀ j, j < (splitNL (trimNL text)).length → (splitNL text).getD (1 - 1 + j) [] = (splitNL (trimNL text)).getD j [] := fun j hj => by
    rw [Nat.sub_self, Nat.zero_add]
    rcases splitNL_trim text with e | e
    · rw [e]
    · rw [e, getD_l hj]
  have hlen : 1 + (splitNL (trimNL text)).length ≤ (splitNL text).length + 1 := by
    rcases splitNL_trim text with e | e
    · rw [e]; omega
    · rw [e, List.length_append]; omega
  by_cases hl : text.length ≤ 1048576
  · have hro := readL_ok (L := splitNL text) dbg (splitNL (trimNL text)) 1 .start [] h0 (Nat.le_refl _) hlen hpre
    cases hq : readL dbg (splitNL (trimNL text)) 1 .start with
    | mk x f =>
      by_cases hff : f = okF
      · subst hff
        have hq' : readL dbg (splitNL (trimNL text)) ((1 : Nat) : Int) .start = (x, okF) := hq
        rw [hq'] at hro
        obtain ⟨m, zs, hz⟩ := hro rfl
        cases ho : x.odd with
        | true =>
          rw [readE_odd hl hq ho] at hf
          exact absurd (congrArg FaultC.e hf) (show ¬ ((4 : Int) = 0) by decide)
        | false =>
          rw [readE_ok hl hq ho]
          exact ⟨m, x, zs, hz, hz.cards⟩
      · rw [readE_fault hl hq hff] at hf
        exact absurd hf hff
  · unfold readE at hf
    rw [if_pos (by omega)] at hf
    exact absurd (congrArg FaultC.e hf) (by decide)

end Go.Proofs.YtmadddihphkmoaaGreatDoor

/-
  Plain: the reference's Scan against Scan on what Read reads.
  Conditions: none.
-/
namespace Go.Proofs.YtmadddihphkmoaaGreatDoor
open Go.AM
open Go.Proofs
open Go.Col
open Go.Tok
open Go.RowKit (Below)
set_option maxRecDepth 100000

theorem read_valid {text : Str} {dbg : Bool} (hf : (readE text dbg).2 = okF) : ∀ c ∈ (readE text dbg).1, validC c = true := by
  obtain ⟨n, x, ys, ho, he⟩ := readE_parts hf
  rw [he]
  intro c hc
  obtain ⟨y, hy, rfl⟩ := List.mem_map.1 hc
  exact (ho.ok y hy).valid (ho.ne y hy)
end Go.Proofs.YtmadddihphkmoaaGreatDoor

/-
  Contracts: Same.
  Conditions: none.
-/
namespace Go.Proofs.YtmadddihphkmoaaGreatDoor
open Go.AM
open Go.Proofs
open Go.Col
open Go.Tok
open Go.RowKit (Below)
set_option maxRecDepth 100000

def sameT (a b : TokC) : Bool := decide (a.kind = b.kind) && decide (a.text = b.text)
def sameE : List TokC → List TokC → Bool
  | [], [] => true
  | a :: l, b :: m => sameT a b && sameE l m
  | _, _ => false
theorem sameE_len : ∀ {l m : List TokC}, l.length ≠ m.length → sameE l m = false
  | [], [], h => absurd rfl h
  | [], _ :: _, _ => rfl
  | _ :: _, [], _ => rfl
  | a :: l, b :: m, h => by
    rw [sameE, sameE_len (l := l) (m := m) (fun e => h (by simp [e])), Bool.and_false]
theorem sameE_step {l m : List TokC} {i : Nat} (h1 : i < l.length) (h2 : i < m.length) : sameE (l.drop i) (m.drop i) = (sameT (l.getD i badT) (m.getD i badT) && sameE (l.drop (i + 1)) (m.drop (i + 1))) := by
  rw [List.drop_eq_getElem_cons h1, List.drop_eq_getElem_cons h2, sameE]
  simp [List.getD, h1, h2]
theorem c_same1 (w₀ : World) (h : AHeap) (a b : TokC) : ACall Tryz.prog w₀ 22 [.agg (tokC a), .agg (tokC b)] h (fun v h' => v = .bool (sameT a b) ∧ h' = h) := by
  unfold tokC
  have ek : decide ((a.kind.toNat : Int) = b.kind.toNat) = decide (a.kind = b.kind) := decide_eq_decide.2 ⟨fun q => UInt8.toNat_inj.1 (by omega), fun q => by rw [q]⟩
  refine acall_intro (n := 17) (rs := [.tmp 4]) Tryz.func22 rfl rfl rfl rfl (Nat.le_of_ble_eq_true rfl) ?_
  simp only [initSlots]
  -- region 0  tokens.go:264
  refine awp_rseq [2, 3] (by rfl) fun K hK => ?_
  refine aOps_box (by rfl) (by rfl) (by rfl) fun k0q0 hk0q0 => ?_
  try have hf_0q0 : h k0q0 = none := by first | assumption | (simp only [AHeap.set_none] at hk0q0; simp only [hk0q0])
  skip
  refine aOps_box (by rfl) (by rfl) (by rfl) fun k0q1 hk0q1 => ?_
  have ne_0q1_0q0 : k0q1 ≠ k0q0 := by simp only [AHeap.set_none] at hk0q1; simp only [hk0q1, ne_eq, not_false_eq_true]
  try have hf_0q1 : h k0q1 = none := by first | assumption | (simp only [AHeap.set_none] at hk0q1; simp only [hk0q1])
  skip
  simp (decide := true) only [aOps_nil, ev, absV, absS, putD, Slots.put, Slots.get, Slots.keep, if_true, if_false, true_and, ↓ap_assign, pop_assign, AVal.cells, Nat.zero_add]
  apply hK; clear hK K
  -- region 1  tokens.go:264
  refine awp_rseq [4] (by rfl) fun K hK => ?_
  simp (decide := true) only [aOps_nil, ev, absV, absS, putD, Slots.put, Slots.get, Slots.keep, if_true, if_false, true_and, ↓ap_fieldAddr, pop_fieldAddr, fa38_0, ↓ap_loadL, apL_mk, pLoad_one ag36, ↓ap_binOp, pop_binOp, isNilC_tmp, cond_false, pBinX_int, pI_eql, ↓ap_move, pop_move, ↓ag_fieldAddr, agP, agQ_some, nthDst, gKnown_bool, guardB_bool_true, implies_true, fa38_1, ↓ag_loadL, agQL_some, agL_mk, agL_ld1, pLoad_one ag9, ↓ag_binOp, cv_binl, cv_binr, cp_binl, cp_binr, pBinX_str, pS_eql, ↓ap_pick, pop_pick, pPick_bool, pickV_cond_l, pickV_and, ↓ap_assign, pop_assign, rd_ne', ne_eq, not_false_eq_true, ne_0q1_0q0.symm, rd_any, List.getD_cons_zero, List.getD_cons_succ, Nat.zero_add, lv_int, lv_str, ek]
  apply hK; clear hK K
  refine awp_ret ?_
  refine retA_ret h (by repeat (first | exact Sub.refl _ | assumption | refine Sub.trans_set ?_ (by assumption))) (resPre_tmp (resPre_nil)) ?_
  simp (decide := true) only [Slots.get, if_true, and_true, resOf_one]
  rfl
theorem c_equalFunc (w₀ : World) (h : AHeap) (v w : AVal) (l m : List TokC) (hv : IsL w₀ h 5 v (l.map tokC)) (hw : IsL w₀ h 5 w (m.map tokC)) (hl : l.length ≤ 1099511627776) :
    ACall Tryz.prog w₀ 21 [v, w, .func 22 []] h (fun r h' => r = .bool (sameE l m) ∧ h' = h) := by
  have hlv := hv.live
  have hlw := hw.live
  have nv := tok_len hv
  have nw := tok_len hw
  refine acall_intro (n := 32) (rs := [.tmp 6]) Tryz.func21 rfl rfl rfl rfl (Nat.le_of_ble_eq_true rfl) ?_
  simp only [initSlots]
  -- region 0  slices.go:37
  refine awp_rseq [0, 1, 2] (by rfl) fun K hK => ?_
  simp (decide := true) only [aOps_nil, ev, absV, absS, putD, Slots.put, Slots.keep, if_true, if_false, true_and, ↓ap_assign, pop_assign, Nat.zero_add, Nat.reduceAdd]
  apply hK; clear hK K
  refine awp_seq ?_
  -- region 1  slices.go:38
  refine awp_rseq [0, 1, 2, 14] (by rfl) fun K hK => ?_
  simp (decide := true) only [aOps_nil, ev, putD, Slots.put, Slots.get, Slots.keep, if_true, if_false, true_and, ↓ap_move, pop_move, ↓ap_len, pop_len, ↓ap_binOp, pop_binOp, isNilC_tmp, cond_false, pBinX_int, pI_neq, nv, nw]
  apply hK; clear hK K
  refine awp_cond (b := _) rfl (fun hb1 => ?_) (fun hb1 => ?_)
  · try simp only [decide_eq_false_iff_not, Bool.not_eq_true'] at hb1
    -- region 2  slices.go:39
    refine awp_rseq [6] (by rfl) fun K hK => ?_
    simp (decide := true) only [aOps_nil, ev, absV, absS, putD, Slots.put, Slots.keep, if_true, if_false, true_and, ↓ap_assign, pop_assign]
    apply hK; clear hK K
    refine awp_ret ?_
    try simp only [thenA_ret]
    refine retA_ret h (by repeat (first | exact Sub.refl _ | assumption | refine Sub.trans_set ?_ (by assumption))) (resPre_tmp (resPre_nil)) ?_
    simp (decide := true) only [Slots.get, if_true, and_true, resOf_one]
    rw [sameE_len (by omega)]
  · try simp only [decide_eq_true_eq, Bool.not_eq_false'] at hb1
    have hlen : l.length = m.length := by omega
    refine awp_skip ?_
    change Awp _ _ _ _ _ _ _
    refine awp_seq ?_
    -- region 3  slices.go:41
    refine awp_rseq [1, 2, 15, 16, 17] (by rfl) fun K hK => ?_
    simp (decide := true) only [aOps_nil, ev, absV, absS, putD, Slots.put, Slots.get, Slots.keep, if_true, if_false, true_and, ↓ap_move, pop_move, ↓ap_len, pop_len, nv]
    apply hK; clear hK K
    refine awp_block ?_
    refine awp_loopG [1, 2, 15, 16, 17] (fun i : Nat => [(1, w), (2, .func 22 []), (15, v), (16, .int .i64 l.length), (17, .int .i64 i)]) (fun i : Nat => h) (fun i : Nat => i ≤ l.length ∧ sameE (l.drop i) (m.drop i) = sameE l m) (fun i : Nat => l.length - i) 0 (by rfl) (Sub.refl _) ⟨Nat.zero_le _, rfl⟩ ?_
    rintro i ⟨hi, hq⟩
    -- region 4  slices.go:41
    refine awp_rseq [1, 2, 15, 16, 17, 18] (by rfl) fun K hK => ?_
    simp (decide := true) only [aOps_nil, ev, putD, Slots.put, Slots.get, Slots.keep, if_true, if_false, true_and, ↓ap_binOp, pop_binOp, isNilC_tmp, cond_false, pBinX_int, pI_lss]
    apply hK; clear hK K
    refine awp_seq (awp_cond (b := _) rfl (fun hb2 => ?_) (fun hb2 => ?_))
    · try simp only [decide_eq_true_eq] at hb2
      have hi' : i < l.length := by omega
      obtain ⟨lc, o, c, rfl⟩ := tok_open hv (by omega)
      obtain ⟨lc', o', c', rfl⟩ := tok_open hw (by omega)
      obtain ⟨e0, e1, e2, e3, e4⟩ := tok_at hv hi'
      obtain ⟨a, ha⟩ : ∃ a, a = l.getD i badT := ⟨_, rfl⟩
      obtain ⟨b, hb⟩ : ∃ b, b = m.getD i badT := ⟨_, rfl⟩
      have hst := sameE_step (l := l) (m := m) hi' (by omega)
      rw [hq] at hst
      rw [← ha] at e0 e1 e2 e3 e4 hst
      rw [← hb] at hst
      have e2' : rd w₀ h lc (o + i * 5 + 1 + 1) = .int .i64 a.line := e2
      have e3' : rd w₀ h lc (o + i * 5 + 1 + 1 + 1) = .int .i64 a.col := e3
      have e4' : rd w₀ h lc (o + i * 5 + 1 + 1 + 1 + 1) = .bool a.left := e4
      refine awp_skip ?_
      change Awp _ _ _ _ _ _ _
      refine awp_seq ?_
      refine awp_block ?_
      -- region 5  slices.go:41
      refine awp_rseq [1, 2, 7, 8, 15, 16, 17] (by rfl) fun K hK => ?_
      simp (decide := true) only [ev, putD, Slots.put, Slots.get, if_true, if_false, true_and, ↓ap_move, pop_move, ↓ap_indexAddrL, apL_mk, pIndexAddr_slice Tryz.underlying25 sz38, ↓ap_loadL, pLoad_agg ag38 sz38, cellsAt, lv_bool, lv_int, lv_str, allLive, Bool.and_true, e0, e1, e2', e3', e4', Int.toNat_natCast]
      repeat (with_reducible refine And.intro ?_ ?_; · first | trivial | omega | (intro hg; simp only [Bool.and_eq_true, Bool.or_eq_true, Bool.not_eq_true', Bool.and_eq_false_iff, Bool.or_eq_false_iff, Bool.not_eq_false', decide_eq_true_eq, decide_eq_false_iff_not, eqNil] at hg; omega) )
      refine aOps_alloc ze38 (cs := [.int .u8 0, .str [], .int .i64 0, .int .i64 0, .bool false]) (by rfl) fun k5q3 hk5q3 => ?_
      try have hf_5q3 : h k5q3 = none := by first | assumption | (simp only [AHeap.set_none] at hk5q3; simp only [hk5q3])
      simp (decide := true) only [ev, putD, Slots.put, Slots.get, if_true, if_false, true_and, ↓ap_assign, pop_assign]
      refine aOps_store (by rfl) (by rfl) (by repeat (first | exact AHeap.set_same _ _ _ | assumption | refine (AHeap.set_ne _ _ (by first | assumption | exact Ne.symm (by assumption))).trans ?_)) sz38 (by rfl) (by rfl) (by first | exact Nat.le_refl _ | decide | (simp; done) | (simp; omega)) (Nat.zero_le _) (by rfl) ?_
      simp only [AHeap.set_set, AVal.cells]
      simp (decide := true) only [aOps_nil, ev, putD, Slots.get, Slots.keep, if_true, if_false, setAt, List.set_cons_zero, List.set_cons_succ, Nat.zero_add, Nat.reduceAdd]
      apply hK; clear hK K
      obtain ⟨H, hH⟩ : ∃ H, H = h.set k5q3 ⟨[.int .u8 a.kind.toNat, .str a.text, .int .i64 a.line, .int .i64 a.col, .bool a.left], 0⟩ := ⟨_, rfl⟩
      have hsH : Sub h H := by rw [hH]; exact Sub.set hk5q3
      obtain ⟨d0, d1, d2, d3, d4⟩ := tok_at (hw.mono hsH) (i := i) (by omega)
      rw [← hb] at d0 d1 d2 d3 d4
      have d2' : rd w₀ H lc' (o' + i * 5 + 1 + 1) = .int .i64 b.line := d2
      have d3' : rd w₀ H lc' (o' + i * 5 + 1 + 1 + 1) = .int .i64 b.col := d3
      have d4' : rd w₀ H lc' (o' + i * 5 + 1 + 1 + 1 + 1) = .bool b.left := d4
      rw [hH] at d0 d1 d2' d3' d4'
      -- region 6  slices.go:42
      refine awp_rseq [1, 2, 8, 9, 15, 16, 17] (by rfl) fun K hK => ?_
      simp (decide := true) only [ev, putD, Slots.put, Slots.get, if_true, if_false, true_and, ↓ap_move, pop_move, ↓ap_indexAddrL, apL_mk, pIndexAddr_slice Tryz.underlying25 sz38, ↓ap_loadL, pLoad_agg ag38 sz38, cellsAt, lv_bool, lv_int, lv_str, allLive, Bool.and_true, d0, d1, d2', d3', d4', Int.toNat_natCast]
      repeat (with_reducible refine And.intro ?_ ?_; · first | trivial | omega | (intro hg; simp only [Bool.and_eq_true, Bool.or_eq_true, Bool.not_eq_true', Bool.and_eq_false_iff, Bool.or_eq_false_iff, Bool.not_eq_false', decide_eq_true_eq, decide_eq_false_iff_not, eqNil] at hg; omega) )
      refine aOps_alloc ze38 (cs := [.int .u8 0, .str [], .int .i64 0, .int .i64 0, .bool false]) (by rfl) fun k6q4 hk6q4 => ?_
      have ne_6q4_5q3 : k6q4 ≠ k5q3 := by simp only [AHeap.set_none] at hk6q4; simp only [hk6q4, ne_eq, not_false_eq_true]
      try have hf_6q4 : h k6q4 = none := by first | assumption | (simp only [AHeap.set_none] at hk6q4; simp only [hk6q4])
      refine aOps_store (by rfl) (by rfl) (by repeat (first | exact AHeap.set_same _ _ _ | assumption | refine (AHeap.set_ne _ _ (by first | assumption | exact Ne.symm (by assumption))).trans ?_)) sz38 (by rfl) (by rfl) (by first | exact Nat.le_refl _ | decide | (simp; done) | (simp; omega)) (Nat.zero_le _) (by rfl) ?_
      simp only [AHeap.set_set, AVal.cells]
      simp (decide := true) only [aOps_nil, ev, putD, Slots.put, Slots.get, Slots.keep, if_true, if_false, setAt, List.set_cons_zero, List.set_cons_succ, Nat.zero_add, Nat.reduceAdd]
      apply hK; clear hK K
      -- region 7  slices.go:43
      refine awp_rseq [1, 2, 15, 16, 17, 30] (by rfl) fun K hK => ?_
      simp (decide := true) only [ev, putD, Slots.put, Slots.get, if_true, if_false, true_and, ↓ap_move, pop_move, ↓ap_loadL, apL_mk, pLoad_agg ag38 sz38, rd_ne', ne_eq, not_false_eq_true, ne_6q4_5q3.symm, rd_any, cellsAt, List.getD_cons_zero, List.getD_cons_succ, Nat.zero_add, Nat.reduceAdd, lv_bool, lv_int, lv_str, allLive, Bool.and_true]
      refine aOps_callV (V := .bool (sameT a b)) (by rfl) (by rfl) (c_same1 w₀ _ a b) ?_
      simp (decide := true) only [aOps_nil, ev, putD, Slots.put, Slots.get, Slots.keep, if_true, if_false, true_and, ↓ap_unOp, pop_unOp, pU_not]
      apply hK; clear hK K
      refine awp_cond (b := _) rfl (fun hb3 => ?_) (fun hb3 => ?_)
      · try simp only [Bool.not_eq_true'] at hb3
        -- region 8  slices.go:44
        refine awp_rseq [6] (by rfl) fun K hK => ?_
        simp (decide := true) only [aOps_nil, ev, absV, absS, putD, Slots.put, Slots.keep, if_true, if_false, true_and, ↓ap_assign, pop_assign]
        apply hK; clear hK K
        refine awp_ret ?_
        try simp only [thenA_ret, inBlockA_ret]
        refine retA_ret h (by repeat (first | exact Sub.refl _ | assumption | refine Sub.trans_set ?_ (by assumption))) (resPre_tmp (resPre_nil)) ?_
        simp (decide := true) only [Slots.get, if_true, and_true, resOf_one]
        rw [hst, hb3, Bool.false_and]
      · try simp only [Bool.not_eq_false'] at hb3
        refine awp_skip ?_
        change Awp _ _ _ _ _ _ _
        -- region 9  slices.go:41
        refine awp_r [1, 2, 15, 16, 17] (by rfl) ?_
        simp (decide := true) only [aOps_nil, ev, absV, absS, putD, Slots.put, Slots.get, Slots.keep, if_true, if_false, true_and, ↓ap_binOp, pop_binOp, isNilC_int, cond_false, pBinX_int, pI_add, ↓ap_move, pop_move]
        try simp (disch := omega) only [wrap_i64]
        try simp only [thenA_normal]
        exact ⟨i + 1, rfl, (by repeat (first | exact Sub.refl _ | assumption | refine Sub.set_both ?_ _ _ | refine Sub.trans_set ?_ (by repeat (first | assumption | refine (AHeap.set_ne _ _ (by first | assumption | exact Ne.symm (by assumption))).trans ?_)))), ⟨hi', by rw [hst, hb3, Bool.true_and]⟩, by omega⟩
    · try simp only [decide_eq_false_iff_not] at hb2
      refine awp_exit ?_
      change Awp _ _ _ _ _ _ _
      -- region 10  slices.go:47
      refine awp_rseq [6] (by rfl) fun K hK => ?_
      simp (decide := true) only [aOps_nil, ev, absV, absS, putD, Slots.put, Slots.keep, if_true, if_false, true_and, ↓ap_assign, pop_assign]
      apply hK; clear hK K
      refine awp_ret ?_
      refine retA_ret h (by repeat (first | exact Sub.refl _ | assumption | refine Sub.trans_set ?_ (by assumption))) (resPre_tmp (resPre_nil)) ?_
      simp (decide := true) only [Slots.get, if_true, and_true, resOf_one]
      rw [← hq, List.drop_eq_nil_of_le (by omega), List.drop_eq_nil_of_le (by omega)]
      rfl
theorem c_Same (w₀ : World) (h : AHeap) (v w : AVal) (l m : List TokC) (hv : IsL w₀ h 5 v (l.map tokC)) (hw : IsL w₀ h 5 w (m.map tokC)) (hl : l.length ≤ 1099511627776) :
    ACall Tryz.prog w₀ 11 [v, w] h (fun r h' => r = .bool (sameE l m) ∧ h' = h) := by
  have hlv := hv.live
  have hlw := hw.live
  refine acall_intro (n := 8) (rs := [.tmp 4]) Tryz.func11 rfl rfl rfl rfl (Nat.le_of_ble_eq_true rfl) ?_
  simp only [initSlots]
  -- region 0  tokens.go:263
  refine awp_rseq [0, 1] (by rfl) fun K hK => ?_
  simp (decide := true) only [aOps_nil, ev, absV, absS, putD, Slots.put, Slots.keep, if_true, if_false, true_and, ↓ap_assign, pop_assign]
  apply hK; clear hK K
  -- region 1  tokens.go:264
  refine awp_rseq [4] (by rfl) fun K hK => ?_
  simp (decide := true) only [ev, putD, Slots.put, Slots.get, if_true, if_false, true_and, ↓ap_move, pop_move]
  refine aOps_callV (V := .bool (sameE l m)) (by rfl) (by rfl) (c_equalFunc w₀ _ v w l m hv hw hl) ?_
  simp (decide := true) only [aOps_nil, ev, putD, Slots.put, Slots.get, Slots.keep, if_true, if_false, true_and, ↓ap_assign, pop_assign]
  apply hK; clear hK K
  refine awp_ret ?_
  refine retA_ret _ (Sub.refl _) (resPre_tmp (resPre_nil)) ?_
  simp (decide := true) only [Slots.get, if_true, and_true, resOf_one]
  all_goals first | rfl | exact ⟨rfl, rfl⟩ | (simp (decide := true) only [if_true, if_false, *]; done) | (trace_state; fail)
end Go.Proofs.YtmadddihphkmoaaGreatDoor

/-
  The statement ColumnsMarks, walked.
  Conditions: none.
-/
namespace Go.Proofs.YtmadddihphkmoaaGreatDoor
open Go.AM
open Go.Proofs
open Go.Col
set_option maxRecDepth 100000

end Go.Proofs.YtmadddihphkmoaaGreatDoor

/-
  Plain law: ignored lines, the columns 1 to 6 and those from 73 on change nothing but positions.
  Conditions: none.
-/
namespace Go.Proofs.YtmadddihphkmoaaGreatDoor
open Go.AM
open Go.Proofs
open Go.Col
set_option maxRecDepth 100000

def FSim (f g : FaultC) : Prop := (f = okF ∧ g = okF) ∨ (f.e = g.e ∧ f.e ≠ 0)
theorem FSim.ok {f g : FaultC} (h : FSim f g) : f = okF ↔ g = okF := by
  rcases h with ⟨h1, h2⟩ | ⟨h1, h2⟩
  · exact ⟨fun _ => h2, fun _ => h1⟩
  · refine ⟨fun e => absurd (by rw [e]; rfl) h2, fun e => absurd ?_ h2⟩
    rw [h1, e]; rfl
theorem FSim.of {a l c l' c' : Int} (h : a ≠ 0) : FSim ⟨a, l, c⟩ ⟨a, l', c'⟩ := .inr ⟨rfl, h⟩
theorem FSim.refl : FSim okF okF := .inl ⟨rfl, rfl⟩
def Skip (dbg : Bool) (s : Str) : Prop := ∀ n : Int, (lineE s n dbg).2.1 = false ∧ (lineE s n dbg).2.2 = okF

theorem readL_last {dbg : Bool} {t : Str} (ht : Skip dbg t) : ∀ (l : List Str) (n : Int) (x : Rd), readL dbg (l ++ [t]) n x = readL dbg l n x
  | [], n, x => by
    cases hp : lineE t n dbg with
    | mk r q =>
      obtain ⟨cn, f⟩ := q
      obtain ⟨h1, h2⟩ := ht n
      rw [hp] at h1 h2
      simp only at h1 h2
      subst h1 h2
      rw [List.nil_append, readL_skip hp rfl]
      rfl
  | s :: l, n, x => by
    rw [List.cons_append, readL, readL]
    cases lineE s n dbg with
    | mk r q =>
      obtain ⟨cn, f⟩ := q
      simp only [readL_last ht l]
theorem skip_of {dbg : Bool} {s : Str} (h : ¬ 80 < s.length) (hb : badAt s = none) (hk : ((padE s).getD 6 0 = 42 ∨ (padE s).getD 6 0 = 47) ∨ (((padE s).getD 6 0 = 68 ∨ (padE s).getD 6 0 = 100) ∧ dbg = false) ∨ (((padE s).getD 6 0 = 32 ∨ (padE s).getD 6 0 = 45) ∧ trimL (((padE s).drop 7).take 65) = [])) : Skip dbg s := by
  intro n
  rw [lineE_none h hb]
  have ht : (rowE s n).text = trimL (((padE s).drop 7).take 65) := rfl
  rw [ht]
  rcases hk with hk | hk | hk
  · rw [if_pos hk]; exact ⟨rfl, rfl⟩
  · by_cases h1 : (padE s).getD 6 0 = 42 ∨ (padE s).getD 6 0 = 47
    · rw [if_pos h1]; exact ⟨rfl, rfl⟩
    · rw [if_neg h1, if_pos hk.1]
      exact ⟨by rw [hk.2]; rfl, rfl⟩
  · have h1 : ¬ ((padE s).getD 6 0 = 42 ∨ (padE s).getD 6 0 = 47) := by rcases hk.1 with e | e <;> rw [e] <;> decide
    have h2 : ¬ ((padE s).getD 6 0 = 68 ∨ (padE s).getD 6 0 = 100) := by rcases hk.1 with e | e <;> rw [e] <;> decide
    rw [if_neg h1, if_neg h2, if_pos hk.1, hk.2]
    exact ⟨rfl, rfl⟩
/-- The lines that are inserted. -/
def moreL : List Str := [[], [32, 32, 32, 32, 32, 32, 42, 34], [32, 32, 32, 32, 32, 32, 47, 97, 110, 121, 116, 104, 105, 110, 103], [32, 32, 32, 32, 32, 32, 68, 32, 32, 32, 32, 88], [32, 32, 32, 32, 32, 32, 100, 88], sp 80, [49, 50, 51, 52, 53, 54], [32, 32, 32, 32, 32, 32, 45]]
theorem more_skip : ∀ i, i < 8 → Skip false (moreL.getD i [])
  | 0, _ => skip_of (by decide) (by decide) (by decide)
  | 1, _ => skip_of (by decide) (by decide) (by decide)
  | 2, _ => skip_of (by decide) (by decide) (by decide)
  | 3, _ => skip_of (by decide) (by decide) (by decide)
  | 4, _ => skip_of (by decide) (by decide) (by decide)
  | 5, _ => skip_of (by decide) (by decide) (by decide)
  | 6, _ => skip_of (by decide) (by decide) (by decide)
  | 7, _ => skip_of (by decide) (by decide) (by decide)
  | n + 8, h => by omega
theorem nil_skip : Skip false [] := more_skip 0 (by decide)
theorem bad_none (s : Str) : badAt s = none ↔ s.all okB = true := by
  unfold badAt
  rw [List.findIdx?_eq_none_iff, List.all_eq_true]
  simp only [Bool.not_eq_eq_eq_not, Bool.not_false]
theorem sp_all (n : Nat) : (sp n).all okB = true := by
  unfold sp
  rw [List.all_eq_true]
  intro b hb
  rw [(List.mem_replicate.1 hb).2]
  decide
theorem readL_trim (s : Str) (n : Int) (x : Rd) : readL false (splitNL (trimNL s)) n x = readL false (splitNL s) n x := by
  rcases splitNL_trim s with e | e
  · rw [e]
  · rw [e, readL_last nil_skip]
end Go.Proofs.YtmadddihphkmoaaGreatDoor

/-
  Plain law: what Write lays out reads back.
  Conditions: none.
-/
namespace Go.Proofs.YtmadddihphkmoaaGreatDoor
open Go.AM
open Go.Proofs
open Go.Col
set_option maxRecDepth 100000

/-- An output line without its end. -/
def lineS (n : Nat) (mark : Str) (col : Nat) (text : Str) : Str := List.replicate (6 - (digs (n % 1000000)).length) 48 ++ digs (n % 1000000) ++ mark ++ sp (col - 8) ++ text
theorem outE_line (n : Nat) (mark : Str) (col : Nat) (text : Str) : outE n mark col text = lineS n mark col text ++ [10] := rfl
def textL : Nat → Nat → Str → Bool → Nat → Str → List Str
  | 0, _, _, _, _, _ => []
  | f + 1, col, mark, q, k, s =>
    if s.length ≤ 73 - col - (if q = true then 1 else 0) then [lineS (k + 1) mark col ((if q = true then [34] else []) ++ s)]
    else if 0 < spaceE s (73 - col - (if q = true then 1 else 0)) q then lineS (k + 1) mark col ((if q = true then [34] else []) ++ s.take (spaceE s (73 - col - (if q = true then 1 else 0)) q)) :: textL f 12 [32] false (k + 1) (trimL (s.drop (spaceE s (73 - col - (if q = true then 1 else 0)) q)))
    else lineS (k + 1) mark col ((if q = true then [34] else []) ++ s.take (73 - col - (if q = true then 1 else 0))) :: textL f 12 [45] (q != oddQ (s.take (73 - col - (if q = true then 1 else 0)))) (k + 1) (s.drop (73 - col - (if q = true then 1 else 0)))
def endL : List Str → Str
  | [] => []
  | l :: ls => l ++ 10 :: endL ls
theorem textE_lines : ∀ (f col : Nat) (mark : Str) (q : Bool) (k : Nat) (out s : Str), (textE f col mark q k out s).2 = out ++ endL (textL f col mark q k s)
  | 0, _, _, _, _, out, _ => (List.append_nil out).symm
  | f + 1, col, mark, q, k, out, s => by
    by_cases h : s.length ≤ 73 - col - (if q = true then 1 else 0)
    · rw [textE_short h, textL, if_pos h]
      rfl
    · by_cases h2 : 0 < spaceE s (73 - col - (if q = true then 1 else 0)) q
      · rw [textE_space h h2, textL, if_neg h, if_pos h2, textE_lines f, endL, outE_line]
        simp only [List.append_assoc, List.cons_append, List.nil_append]
      · rw [textE_cut h h2, textL, if_neg h, if_neg h2, textE_lines f, endL, outE_line]
        simp only [List.append_assoc, List.cons_append, List.nil_append]
theorem endL_split : ∀ {ls : List Str}, (∀ l ∈ ls, (10 : UInt8) ∉ l) → splitNL (endL ls) = ls ++ [[]]
  | [], _ => rfl
  | l :: ls, h => by
    rw [endL, splitNL_app _ (h l (by simp)), endL_split fun x hx => h x (by simp [hx])]
    rfl
theorem endL_trim {ls : List Str} (h : ∀ l ∈ ls, (10 : UInt8) ∉ l) : readL false (splitNL (trimNL (endL ls))) 1 .start = readL false ls 1 .start := by
  rw [readL_trim, endL_split h, readL_last nil_skip]

/-! ### A line's row -/
theorem digs_ok : ∀ n : Nat, (Lib.decDigits n).all okB = true := by
  intro n
  induction n using Nat.strongRecOn with
  | _ n ih =>
    have hd : ∀ k, k < 10 → okB (UInt8.ofNat (48 + k)) = true := by
      intro k hk
      match k, hk with
      | 0, _ => decide
      | 1, _ => decide
      | 2, _ => decide
      | 3, _ => decide
      | 4, _ => decide
      | 5, _ => decide
      | 6, _ => decide
      | 7, _ => decide
      | 8, _ => decide
      | 9, _ => decide
    by_cases h : n < 10
    · rw [Lib.decDigits_one h, List.all_cons, hd n h]; rfl
    · rw [Lib.decDigits, dif_neg h, List.all_append, ih _ (by omega), List.all_cons, hd _ (Nat.mod_lt _ (by decide))]
      rfl
theorem lineS_len (n : Nat) (m : UInt8) (col : Nat) (t : Str) : (lineS n [m] col t).length = 7 + (col - 8) + t.length := by
  have := outE_len n col [m] t
  rw [outE_line, List.length_append, List.length_cons, List.length_nil, List.length_cons, List.length_nil] at this
  omega
theorem lineS_ok {n : Nat} {m : UInt8} {col : Nat} {t : Str} (hm : okB m = true) (ht : t.all okB = true) : (lineS n [m] col t).all okB = true := by
  unfold lineS digs
  have h1 : (List.replicate (6 - (Lib.decDigits (n % 1000000)).length) (48 : UInt8)).all okB = true := by
    rw [List.all_eq_true]
    intro b hb
    rw [(List.mem_replicate.1 hb).2]
    decide
  rw [List.all_append, List.all_append, List.all_append, List.all_append, h1, digs_ok, sp_all, ht, List.all_cons, hm]
  rfl
theorem trimL_sp (k : Nat) {t : Str} (h : t.head? ≠ some 32) : trimL (sp k ++ t) = t := by
  induction k with
  | zero =>
    cases t with
    | nil => rfl
    | cons b t =>
      have hb : b ≠ 32 := fun e => h (by rw [e]; rfl)
      show trimL (b :: t) = b :: t
      simp [trimL, hb]
  | succ k ih =>
    have : sp (k + 1) ++ t = 32 :: (sp k ++ t) := by simp [sp, List.replicate_succ]
    rw [this]
    have : trimL (32 :: (sp k ++ t)) = trimL (sp k ++ t) := by simp [trimL]
    rw [this, ih]
theorem row_line {k : Nat} {m : UInt8} {col : Nat} {t : Str} (n : Int) (hm : m = 32 ∨ m = 45) (hc : 8 ≤ col) (ht : t.all okB = true) (h0 : t ≠ []) (h1 : t.head? ≠ some 32) (hl : t.length + col ≤ 73) :
    lineE (lineS k [m] col t) n false = (⟨n, m == 45, t ++ sp (73 - col - t.length), (col : Int)⟩, true, okF) := by
  have hpos := List.length_pos_iff.2 h0
  have hlen := lineS_len k m col t
  have hdl := digs_len k
  have hpad : padE (lineS k [m] col t) = (List.replicate (6 - (digs (k % 1000000)).length) 48 ++ digs (k % 1000000)) ++ m :: (sp (col - 8) ++ (t ++ sp (73 - col - t.length))) := by
    unfold padE
    rw [hlen, show 72 - (7 + (col - 8) + t.length) = 73 - col - t.length by omega]
    unfold lineS
    simp only [List.append_assoc, List.cons_append, List.nil_append]
  have h6 : (List.replicate (6 - (digs (k % 1000000)).length) (48 : UInt8) ++ digs (k % 1000000)).length = 6 := by
    rw [List.length_append, List.length_replicate]; omega
  obtain ⟨P, hP⟩ : ∃ P, P = List.replicate (6 - (digs (k % 1000000)).length) (48 : UInt8) ++ digs (k % 1000000) := ⟨_, rfl⟩
  rw [← hP] at hpad h6
  have g6 : (padE (lineS k [m] col t)).getD 6 0 = m := by
    rw [hpad, getD_r (by omega), h6]; rfl
  have g7 : ((padE (lineS k [m] col t)).drop 7).take 65 = sp (col - 8) ++ (t ++ sp (73 - col - t.length)) := by
    rw [hpad, show 7 = P.length + 1 by omega, ← List.drop_drop, List.drop_left' rfl, List.drop_one, List.tail_cons]
    refine List.take_of_length_le ?_
    simp only [List.length_append, sp, List.length_replicate]
    omega
  have hh : (t ++ sp (73 - col - t.length)).head? ≠ some 32 := by
    cases t with
    | nil => exact absurd rfl h0
    | cons b t => exact h1
  have hrow : rowE (lineS k [m] col t) n = ⟨n, m == 45, t ++ sp (73 - col - t.length), (col : Int)⟩ := by
    unfold rowE
    rw [g6, g7, trimL_sp _ hh]
    congr 1
    simp only [List.length_append, sp, List.length_replicate]
    omega
  have hne : ¬ (t ++ sp (73 - col - t.length)) = [] := by
    intro e
    exact h0 (List.append_eq_nil_iff.1 e).1
  rw [lineE_none (by omega) ((bad_none _).2 (lineS_ok (by rcases hm with rfl | rfl <;> decide) ht)), g6, hrow]
  have n1 : ¬ (m = 42 ∨ m = 47) := by rcases hm with rfl | rfl <;> decide
  have n2 : ¬ (m = 68 ∨ m = 100) := by rcases hm with rfl | rfl <;> decide
  rw [if_neg n1, if_neg n2, if_pos hm]
  simp only [hne, decide_false, Bool.not_false]

/-! ### Squeezing -/
def lastSp (p : Bool) (u : Str) : Bool := match u.getLast? with | none => p | some b => decide (b = 32)
theorem lastSp_cons (p : Bool) (b : UInt8) (u : Str) : lastSp p (b :: u) = lastSp (decide (b = 32)) u := by
  unfold lastSp
  cases u with
  | nil => rfl
  | cons c u => rw [List.getLast?_cons_cons]; cases h : (c :: u).getLast? with
    | none => simp at h
    | some x => rfl
theorem sq_app : ∀ (u v : Str) (q p : Bool), sqGo q p (u ++ v) = sqGo q p u ++ sqGo (q != oddQ u) (lastSp p u) v
  | [], v, q, p => by
    rw [List.nil_append, sqGo]
    have : (q != oddQ []) = q := by cases q <;> rfl
    rw [this]
    rfl
  | b :: u, v, q, p => by
    have e : (q != oddQ (b :: u)) = ((if b = 34 then !q else q) != oddQ u) := by
      rw [oddQ_cons]
      split
      · cases q <;> cases oddQ u <;> rfl
      · rfl
    rw [List.cons_append, sqGo, sqGo, sq_app u v, lastSp_cons, e]
    obtain ⟨q', hq'⟩ : ∃ q', q' = (if b = 34 then !q else q) := ⟨_, rfl⟩
    rw [← hq']
    by_cases hc : b = 32 ∧ q' = false ∧ p = true
    · rw [if_pos hc, if_pos hc]
    · rw [if_neg hc, if_neg hc, List.cons_append]
theorem sq_sp : ∀ (m : Nat) (v : Str), sqGo false true (sp m ++ v) = sqGo false true v
  | 0, v => rfl
  | m + 1, v => by
    have : sp (m + 1) ++ v = 32 :: (sp m ++ v) := by simp [sp, List.replicate_succ]
    rw [this, sqGo, if_pos (by decide)]
    exact sq_sp m v
theorem sq_sp1 (m : Nat) (p : Bool) (v w : Str) (h : sqGo false true v = sqGo false true w) : sqGo false p (32 :: v) = sqGo false p (sp (m + 1) ++ w) := by
  have : sp (m + 1) ++ w = 32 :: (sp m ++ w) := by simp [sp, List.replicate_succ]
  have e : (if (32 : UInt8) = 34 then !false else false) = false := by decide
  have e2 : decide ((32 : UInt8) = 32) = true := by decide
  rw [this, sqGo, sqGo, e, e2, sq_sp, h]
theorem oddQ_sp (m : Nat) : oddQ (sp m) = false := by
  induction m with
  | zero => rfl
  | succ m ih =>
    have : sp (m + 1) = 32 :: sp m := by simp [sp, List.replicate_succ]
    rw [this, oddQ_cons, if_neg (by decide), ih]
theorem trimR_split (s : Str) : ∃ m, s = trimR s ++ sp m := by
  obtain ⟨m, h, _⟩ := trimL_split s.reverse
  refine ⟨m, ?_⟩
  have := congrArg List.reverse h
  rw [List.reverse_reverse, List.reverse_append, List.reverse_replicate] at this
  exact this
theorem trimR_sp (s : Str) (m : Nat) : trimR (s ++ sp m) = trimR s := by
  have e : ∀ (m : Nat) (u : Str), trimL (sp m ++ u) = trimL u := by
    intro m
    induction m with
    | zero => intro u; rfl
    | succ m ih =>
      intro u
      have : sp (m + 1) ++ u = 32 :: (sp m ++ u) := by simp [sp, List.replicate_succ]
      rw [this]
      have : trimL (32 :: (sp m ++ u)) = trimL (sp m ++ u) := by simp [trimL]
      rw [this, ih]
  unfold trimR
  have : (s ++ sp m).reverse = sp m ++ s.reverse := by rw [List.reverse_append]; simp [sp]
  rw [this]
  have := e m s.reverse
  unfold trimL at this
  rw [this]
theorem trimR_id {s : Str} (h : s.getLast? ≠ some 32) : trimR s = s := by
  obtain ⟨m, e⟩ := trimR_split s
  cases m with
  | zero => rw [show sp 0 = [] from rfl, List.append_nil] at e; exact e.symm
  | succ m =>
    refine absurd ?_ h
    rw [e]
    have : sp (m + 1) = sp m ++ [32] := by simp [sp, List.replicate_succ']
    rw [this, ← List.append_assoc, List.getLast?_append]
    rfl

/-! ### Reading back -/
def jT : List CardC → Str
  | [] => []
  | c :: r => c.text ++ r.flatMap fun d => 32 :: d.text
theorem jT_new {l : List CardC} (d : CardC) : jT (l ++ [d]) = jT l ++ (if l ≠ [] then [32] else []) ++ d.text := by
  cases l with
  | nil => simp [jT]
  | cons c r => simp [jT, List.flatMap_append]
theorem jT_more {l : List CardC} {c d : CardC} {t : Str} (h : d.text = c.text ++ t) : jT (l ++ [d]) = jT (l ++ [c]) ++ t := by
  rw [jT_new, jT_new, h]
  simp only [List.append_assoc]
/-- The reader's state ahead of a line with a mark. -/
def Ahead (x : Rd) (mark : Str) (q : Bool) (col : Nat) : Prop :=
  (mark = [32] ∧ q = false ∧ x.odd = false) ∨ (mark = [45] ∧ col = 12 ∧ ∃ l c, x.cards = l ++ [c] ∧ oddQ c.text = q ∧ x.odd = q)
/-- One line is read: the part u joins the cards. -/
theorem read_one {x : Rd} {mark : Str} {q : Bool} {col : Nat} (ha : Ahead x mark q col) {k : Nat} {t : Str} (n : Int) (hc : col = 8 ∨ col = 12) (ht : t.all okB = true) (h0 : t ≠ []) (h1 : q = false → t.head? ≠ some 32) (hl : t.length + (if q = true then 1 else 0) + col ≤ 73)
    (hp : (q != oddQ t) = true → t.length + (if q = true then 1 else 0) + col = 73) :
    ∃ y u, (∀ ls, readL false (lineS k mark col ((if q = true then [34] else []) ++ t) :: ls) n x = readL false ls (n + 1) y) ∧ u = (if (q != oddQ t) = true then t else trimR t) ∧ y.odd = (q != oddQ t) ∧ (∃ l c, y.cards = l ++ [c] ∧ oddQ c.text = (q != oddQ t)) ∧
      jT y.cards = jT x.cards ++ (if mark = [32] ∧ x.cards ≠ [] then [32] else []) ++ u ∧
      y.cards.map (·.left) = x.cards.map (·.left) ++ (if mark = [32] then [decide (col < 12)] else []) := by
  have hc8 : 8 ≤ col := by omega
  -- what is added to a card, with the padding
  have hadd : ∀ (c : CardC) (m : Nat) (line cl : Int), oddQ c.text = q → ((q != oddQ t) = true → m = 0) → (addC c line cl (t ++ sp m)).text = c.text ++ (if (q != oddQ t) = true then t else trimR t) ∧ (addC c line cl (t ++ sp m)).left = c.left := by
    intro c m line cl hcq hm
    have e1 : oddQ (c.text ++ (t ++ sp m)) = (q != oddQ t) := by
      rw [oddQ_append, oddQ_append, oddQ_sp, hcq]
      cases oddQ t <;> rfl
    unfold addC
    rw [e1]
    refine ⟨?_, rfl⟩
    simp only
    by_cases hq : (q != oddQ t) = true
    · rw [if_pos hq, if_pos hq, hm hq]
      rw [show sp 0 = [] from rfl, List.append_nil]
    · rw [if_neg hq, if_neg hq, trimR_sp]
  have hoddu : ∀ c : Str, oddQ c = q → oddQ (c ++ (if (q != oddQ t) = true then t else trimR t)) = (q != oddQ t) := by
    intro c hcq
    rw [oddQ_append, hcq]
    split
    · rfl
    · obtain ⟨m, e⟩ := trimR_split t
      have : oddQ t = oddQ (trimR t) := by
        conv => lhs; rw [e]
        rw [oddQ_append, oddQ_sp]
        cases oddQ (trimR t) <;> rfl
      rw [this]
  rcases ha with ⟨rfl, rfl, ho⟩ | ⟨rfl, rfl, l, c, hx, hcq, ho⟩
  · simp only [Bool.false_eq_true, if_false, List.nil_append, Nat.add_zero] at hl hp ⊢
    have hrow := row_line (k := k) (m := 32) n (.inl rfl) hc8 ht h0 (h1 rfl) hl
    have hmm : (false != oddQ t) = true → 73 - col - t.length = 0 := fun e => by have := hp e; omega
    obtain ⟨a1, a2⟩ := hadd ⟨decide ((col : Int) < 12), [], []⟩ (73 - col - t.length) n (col : Int) rfl hmm
    have htk : takeE x ⟨n, (32 : UInt8) == 45, t ++ sp (73 - col - t.length), (col : Int)⟩ = (addE { x with cards := x.cards ++ [⟨decide ((col : Int) < 12), [], []⟩] } n (col : Int) (t ++ sp (73 - col - t.length)), okF) := by
      unfold takeE
      rw [ho, if_neg (by simp), if_pos (show (!((32 : UInt8) == 45)) = true from rfl)]
    refine ⟨addE { x with cards := x.cards ++ [⟨decide ((col : Int) < 12), [], []⟩] } n (col : Int) (t ++ sp (73 - col - t.length)), _, fun ls => ?_, rfl, ?_, ?_, ?_, ?_⟩
    · rw [readL_take hrow rfl (by rw [htk]), htk]
    · rw [addE_last (x := { x with cards := x.cards ++ [⟨decide ((col : Int) < 12), [], []⟩] }) rfl]
      simp only [List.nil_append]
      rw [oddQ_append, oddQ_sp]
      cases oddQ t <;> rfl
    · rw [addE_last (x := { x with cards := x.cards ++ [⟨decide ((col : Int) < 12), [], []⟩] }) rfl]
      exact ⟨_, _, rfl, by rw [a1]; exact hoddu [] rfl⟩
    · rw [addE_last (x := { x with cards := x.cards ++ [⟨decide ((col : Int) < 12), [], []⟩] }) rfl]
      simp only
      rw [jT_new, a1]
      simp only [List.nil_append, true_and]
    · rw [addE_last (x := { x with cards := x.cards ++ [⟨decide ((col : Int) < 12), [], []⟩] }) rfl]
      simp only [List.map_append, List.map_cons, List.map_nil, a2, if_true]
      congr 2
      rw [decide_eq_decide]
      omega
  · have hl2 : ((if q = true then [34] else [] : Str) ++ t).length + 12 ≤ 73 := by
      rw [List.length_append]
      cases q <;> simp at hl ⊢ <;> omega
    have ht2 : ((if q = true then [34] else [] : Str) ++ t).all okB = true := by
      rw [List.all_append, ht]
      cases q <;> rfl
    have h02 : ((if q = true then [34] else [] : Str) ++ t) ≠ [] := fun e => h0 (List.append_eq_nil_iff.1 e).2
    have h12 : ((if q = true then [34] else [] : Str) ++ t).head? ≠ some 32 := by
      cases q
      · exact h1 rfl
      · simp
    have hrow := row_line (k := k) (m := 45) n (.inr rfl) hc8 ht2 h02 h12 hl2
    obtain ⟨mm, hmm0⟩ : ∃ mm, mm = 73 - 12 - ((if q = true then [34] else [] : Str) ++ t).length := ⟨_, rfl⟩
    rw [← hmm0] at hrow
    have hmm : (q != oddQ t) = true → mm = 0 := fun e => by
      have := hp e
      rw [hmm0, List.length_append]
      cases q <;> simp at this ⊢ <;> omega
    have hne : x.cards ≠ [] := by rw [hx]; simp
    have hneq : ¬ ([45] : Str) = [32] := by decide
    have hz : (if ([45] : Str) = [32] ∧ x.cards ≠ [] then ([32] : Str) else []) = [] := if_neg (fun e => hneq e.1)
    cases q with
    | false =>
      simp only [Bool.false_eq_true, if_false, List.nil_append] at hrow ⊢
      obtain ⟨a1, a2⟩ := hadd c mm n ((12 : Nat) : Int) hcq hmm
      have htk : takeE x ⟨n, (45 : UInt8) == 45, t ++ sp mm, ((12 : Nat) : Int)⟩ = (addE x n ((12 : Nat) : Int) (t ++ sp mm), okF) := by
        unfold takeE
        rw [ho, if_neg (by simp), if_neg (by simp), if_neg hne, if_neg (by simp), if_neg (by simp)]
      refine ⟨addE x n ((12 : Nat) : Int) (t ++ sp mm), _, fun ls => ?_, rfl, ?_, ?_, ?_, ?_⟩
      · rw [readL_take hrow rfl (by rw [htk]), htk]
      · rw [addE_last hx]
        simp only
        rw [oddQ_append, oddQ_append, oddQ_sp, hcq]
        cases oddQ t <;> rfl
      · rw [addE_last hx]
        exact ⟨_, _, rfl, by rw [a1]; exact hoddu _ hcq⟩
      · rw [addE_last hx]
        simp only
        rw [hz, jT_more (c := c) a1, ← hx, List.append_nil]
      · rw [addE_last hx, hx, if_neg hneq, List.append_nil]
        simp only [List.map_append, List.map_cons, List.map_nil, a2]
    | true =>
      simp only [if_true, List.cons_append, List.nil_append] at hrow ⊢
      obtain ⟨a1, a2⟩ := hadd c mm n (((12 : Nat) : Int) + 1) hcq hmm
      have htk : takeE x ⟨n, (45 : UInt8) == 45, 34 :: (t ++ sp mm), ((12 : Nat) : Int)⟩ = (addE x n (((12 : Nat) : Int) + 1) (t ++ sp mm), okF) := by
        unfold takeE
        rw [ho, if_neg (by simp), if_neg (by simp), if_neg hne, if_neg (by simp), if_pos rfl]
        rfl
      refine ⟨addE x n (((12 : Nat) : Int) + 1) (t ++ sp mm), _, fun ls => ?_, rfl, ?_, ?_, ?_, ?_⟩
      · rw [readL_take hrow rfl (by rw [htk]), htk]
      · rw [addE_last hx]
        simp only
        rw [oddQ_append, oddQ_append, oddQ_sp, hcq]
        cases oddQ t <;> rfl
      · rw [addE_last hx]
        exact ⟨_, _, rfl, by rw [a1]; exact hoddu _ hcq⟩
      · rw [addE_last hx]
        simp only
        rw [hz, jT_more (c := c) a1, ← hx, List.append_nil]
      · rw [addE_last hx, hx, if_neg hneq, List.append_nil]
        simp only [List.map_append, List.map_cons, List.map_nil, a2]
end Go.Proofs.YtmadddihphkmoaaGreatDoor

/-
  Plain law: what Write lays out reads back, all lines.
  Conditions: none.
-/
namespace Go.Proofs.YtmadddihphkmoaaGreatDoor
open Go.AM
open Go.Proofs
open Go.Col
set_option maxRecDepth 100000

theorem all_take {s : Str} (h : s.all okB = true) (k : Nat) : (s.take k).all okB = true := by
  rw [List.all_eq_true] at h ⊢
  exact fun b hb => h b (List.mem_of_mem_take hb)
theorem all_drop {s : Str} (h : s.all okB = true) (k : Nat) : (s.drop k).all okB = true := by
  rw [List.all_eq_true] at h ⊢
  exact fun b hb => h b (List.mem_of_mem_drop hb)
theorem all_trimL {s : Str} (h : s.all okB = true) : (trimL s).all okB = true := by
  rw [trimL_drop]; exact all_drop h _
theorem head_trimL (s : Str) : (trimL s).head? ≠ some 32 := by obtain ⟨_, _, h⟩ := trimL_split s; exact h
theorem head_take {s : Str} {k : Nat} (hk : 0 < k) : (s.take k).head? = s.head? := by
  cases s with
  | nil => simp
  | cons b s => cases k with
    | zero => omega
    | succ k => rfl
theorem take_ne {s : Str} {k : Nat} (hk : 0 < k) (hs : s ≠ []) : s.take k ≠ [] := by
  cases s with
  | nil => exact absurd rfl hs
  | cons b s => cases k with
    | zero => omega
    | succ k => simp
theorem odd_split (s : Str) (k : Nat) : oddQ s = (oddQ (s.take k) != oddQ (s.drop k)) := by
  rw [← oddQ_append, List.take_append_drop]
theorem odd_trimL (s : Str) : oddQ (trimL s) = oddQ s := by
  obtain ⟨m, h, _⟩ := trimL_split s
  conv => rhs; rw [h]
  have : List.replicate m (32 : UInt8) = sp m := rfl
  rw [this, oddQ_append, oddQ_sp]
  cases oddQ (trimL s) <;> rfl
theorem drop_head {s : Str} {k : Nat} (hk : k < s.length) : (s.drop k).head? = some (s.getD k 0) := by
  rw [drop_getD 0 hk]; rfl
theorem take_last {s : Str} {k : Nat} (hk : k < s.length) : (s.take (k + 1)).getLast? = some (s.getD k 0) := by
  have e : s.take (k + 1) = s.take k ++ [s.getD k 0] := by
    rw [List.take_add_one, List.getElem?_eq_getElem hk]
    simp [List.getD, hk]
  rw [e, List.getLast?_append]
  rfl
theorem take_odd {s : Str} {k : Nat} (hk : k < s.length) (h : s.getD k 0 = 32) : oddQ (s.take (k + 1)) = oddQ (s.take k) := by
  have e : s.take (k + 1) = s.take k ++ [s.getD k 0] := by
    rw [List.take_add_one, List.getElem?_eq_getElem hk]
    simp [List.getD, hk]
  rw [e, h, oddQ_append]
  have : oddQ [32] = false := by decide
  rw [this]
  cases oddQ (s.take k) <;> rfl
theorem write_read : ∀ (f col : Nat) (mark : Str) (q : Bool) (k : Nat) (s : Str) (x : Rd) (n : Int), s.length < f → (col = 8 ∨ col = 12) → Ahead x mark q col → s.all okB = true → lastOk s → (q = false → s.head? ≠ some 32) → (q != oddQ s) = false →
    ∃ y J m, readL false (textL f col mark q k s) n x = (y, okF) ∧ y.odd = false ∧ jT y.cards = jT x.cards ++ (if mark = [32] ∧ x.cards ≠ [] then [32] else []) ++ J ∧ (∀ p, sqGo q p J = sqGo q p s) ∧ y.cards.map (·.left) = x.cards.map (·.left) ++ (if mark = [32] then [decide (col < 12)] else []) ++ List.replicate m false
  | 0, _, _, _, _, s, _, _, h, _, _, _, _, _, _ => by omega
  | f + 1, col, mark, q, k, s, x, n, hf, hc, ha, hs, hl, hh, hp => by
    obtain ⟨ld, hld⟩ : ∃ ld : Nat, ld = if q = true then 1 else 0 := ⟨_, rfl⟩
    obtain ⟨nn, hnn⟩ : ∃ nn, nn = 73 - col - ld := ⟨_, rfl⟩
    have hld1 : ld ≤ 1 := by rw [hld]; split <;> omega
    have hnn2 : 60 ≤ nn ∧ nn + ld + col = 73 := by omega
    rw [textL, ← hld, ← hnn]
    by_cases h1 : s.length ≤ nn
    · rw [if_pos h1]
      obtain ⟨y, u, r1, r2, r3, r4, r5, r6⟩ := read_one ha (k := k + 1) (t := s) n hc hs hl.1 hh (by rw [← hld]; omega) (fun e => by rw [hp] at e; cases e)
      rw [hp] at r3
      have hu : u = s := by rw [r2, hp]; simp only [Bool.false_eq_true, if_false]; exact trimR_id hl.2
      refine ⟨y, s, 0, by rw [r1]; rfl, r3, by rw [r5, hu], fun p => rfl, by rw [r6]; simp⟩
    · rw [if_neg h1]
      by_cases h2 : 0 < spaceE s nn q
      · rw [if_pos h2]
        have hcut := spaceE_cut s q nn h2
        have hkn := (spaceE_le s nn q).1
        obtain ⟨kk, hkk⟩ : ∃ kk, kk = spaceE s nn q := ⟨_, rfl⟩
        rw [← hkk] at h2 hcut hkn ⊢
        unfold cutAt at hcut
        simp only [Bool.and_eq_true, decide_eq_true_eq, beq_iff_eq] at hcut
        obtain ⟨⟨c1, c2⟩, c3⟩ := hcut
        have hq1 : (q != oddQ (s.take kk)) = false := by rw [c3]; cases q <;> rfl
        obtain ⟨y, u, r1, r2, r3, ⟨l, c, r4, _⟩, r5, r6⟩ := read_one ha (k := k + 1) (t := s.take kk) n hc (all_take hs kk) (take_ne h2 hl.1) (fun e => by rw [head_take h2]; exact hh e) (by rw [← hld, List.length_take]; omega) (fun e => by rw [hq1] at e; cases e)
        rw [hq1] at r2 r3
        simp only [Bool.false_eq_true, if_false] at r2
        have hos : oddQ (trimL (s.drop kk)) = false := by
          rw [odd_trimL]
          have := odd_split s kk
          rw [c3] at this
          rw [this] at hp
          revert hp
          cases q <;> cases oddQ (s.drop kk) <;> decide
        have htl := trimL_le (s.drop kk)
        rw [List.length_drop] at htl
        obtain ⟨z, J, m, t1, t2, t3, t4, t5⟩ := write_read f 12 [32] false (k + 1) (trimL (s.drop kk)) y (n + 1) (by omega) (.inr rfl) (.inl ⟨rfl, rfl, r3⟩) (all_trimL (all_drop hs kk)) (lastOk_trimL (lastOk_drop hl c1)) (fun _ => head_trimL _) (by rw [hos]; rfl)
        have hyne : y.cards ≠ [] := by rw [r4]; simp
        refine ⟨z, u ++ 32 :: J, m + 1, by rw [r1, t1], t2, ?_, ?_, ?_⟩
        · have hz : (if ([32] : Str) = [32] ∧ y.cards ≠ [] then ([32] : Str) else []) = [32] := if_pos ⟨rfl, hyne⟩
          rw [t3, hz, r5]
          simp only [List.append_assoc, List.cons_append, List.nil_append]
        · intro p
          obtain ⟨a, ea⟩ := trimR_split (s.take kk)
          rw [← r2] at ea
          obtain ⟨b, eb, _⟩ := trimL_split (s.drop kk)
          have hb : 0 < b := by
            cases b with
            | zero =>
              rw [List.replicate_zero, List.nil_append] at eb
              have := drop_head c1
              rw [eb, c2] at this
              exact absurd this (head_trimL _)
            | succ b => omega
          have hsu : s = u ++ (sp ((a + b - 1) + 1) ++ trimL (s.drop kk)) := by
            have e1 : sp ((a + b - 1) + 1) = sp a ++ List.replicate b 32 := by
              rw [show a + b - 1 + 1 = a + b by omega]
              unfold sp
              rw [List.replicate_append_replicate]
            rw [e1, List.append_assoc, ← eb, ← List.append_assoc, ← ea, List.take_append_drop]
          have hou : (q != oddQ u) = false := by
            rw [ea, oddQ_append, oddQ_sp] at hq1
            revert hq1
            cases q <;> cases oddQ u <;> decide
          have e2 := sq_sp1 (a + b - 1) (lastSp p u) J (trimL (s.drop kk)) (t4 true)
          have e3 : sqGo q p s = sqGo q p (u ++ (sp ((a + b - 1) + 1) ++ trimL (s.drop kk))) := congrArg _ hsu
          rw [e3, sq_app, sq_app, hou, e2]
        · rw [t5, r6]
          simp only [if_true, List.append_assoc]
          rw [List.replicate_succ]
          rfl
      · rw [if_neg h2]
        have hnl : nn < s.length := by omega
        have hno := spaceE_none h2
        obtain ⟨q', hq'⟩ : ∃ q', q' = (q != oddQ (s.take nn)) := ⟨_, rfl⟩
        have htl : (s.take nn).length = nn := by rw [List.length_take]; omega
        obtain ⟨y, u, r1, r2, r3, ⟨l, c, r4, r4'⟩, r5, r6⟩ := read_one ha (k := k + 1) (t := s.take nn) n hc (all_take hs nn) (take_ne (by omega) hl.1) (fun e => by rw [head_take (by omega)]; exact hh e) (by rw [← hld, htl]; omega) (fun _ => by rw [← hld, htl]; omega)
        rw [← hq'] at r2 r3 r4' ⊢
        have hu : u = s.take nn := by
          rw [r2]
          cases hqq : q' with
          | true => rfl
          | false =>
            simp only [Bool.false_eq_true, if_false]
            refine trimR_id ?_
            rw [show nn = (nn - 1) + 1 by omega, take_last (by omega)]
            intro e
            have e1 : s.getD (nn - 1) 0 = 32 := Option.some.inj e
            have := hno (nn - 1) (by omega) (by omega)
            unfold cutAt at this
            have ho := take_odd (s := s) (k := nn - 1) (by omega) e1
            rw [show nn - 1 + 1 = nn by omega] at ho
            rw [hqq, ho] at hq'
            rw [decide_eq_true (by omega), decide_eq_true e1] at this
            revert hq' this
            cases q <;> cases oddQ (s.take (nn - 1)) <;> decide
        have hod := odd_split s nn
        have hpar : (q' != oddQ (s.drop nn)) = false := by
          rw [hod] at hp
          rw [hq']
          revert hp
          cases q <;> cases oddQ (s.take nn) <;> cases oddQ (s.drop nn) <;> decide
        obtain ⟨z, J, m, t1, t2, t3, t4, t5⟩ := write_read f 12 [45] q' (k + 1) (s.drop nn) y (n + 1) (by rw [List.length_drop]; omega) (.inr rfl) (.inr ⟨rfl, rfl, l, c, r4, r4', r3⟩) (all_drop hs nn) (lastOk_drop hl hnl) (fun e => by
          rw [drop_head hnl]
          intro e2
          have e1 : s.getD nn 0 = 32 := Option.some.inj e2
          have := hno nn (by omega) (Nat.le_refl _)
          unfold cutAt at this
          rw [decide_eq_true hnl, decide_eq_true e1] at this
          rw [e] at hq'
          revert hq' this
          cases q <;> cases oddQ (s.take nn) <;> decide) hpar
        refine ⟨z, s.take nn ++ J, m, by rw [r1, t1], t2, ?_, ?_, ?_⟩
        · have hz : (if ([45] : Str) = [32] ∧ y.cards ≠ [] then ([32] : Str) else []) = [] := if_neg (fun e => absurd e.1 (by decide))
          rw [t3, hz, r5, hu, List.append_nil]
          simp only [List.append_assoc]
        · intro p
          rw [sq_app, ← hq', t4, hq', ← sq_app, List.take_append_drop]
        · rw [t5, r6, if_neg (show ¬ ([45] : Str) = [32] by decide), List.append_nil]
theorem textL_lines : ∀ (f col : Nat) (m : UInt8) (q : Bool) (k : Nat) (s : Str), (m = 32 ∨ m = 45) → (col = 8 ∨ col = 12) → s.all okB = true → lastOk s → ∀ l ∈ textL f col [m] q k s, 8 ≤ l.length ∧ l.length ≤ 72 ∧ (10 : UInt8) ∉ l
  | 0, _, _, _, _, _, _, _, _, _, l, h => by cases h
  | f + 1, col, m, q, k, s, hm, hc, hs, hl, l, h => by
    obtain ⟨ld, hld⟩ : ∃ ld : Nat, ld = if q = true then 1 else 0 := ⟨_, rfl⟩
    obtain ⟨nn, hnn⟩ : ∃ nn, nn = 73 - col - ld := ⟨_, rfl⟩
    have hld1 : ld ≤ 1 := by rw [hld]; split <;> omega
    have hll : (if q = true then [34] else [] : Str).length = ld := by rw [hld]; split <;> rfl
    have hlo : (if q = true then [34] else [] : Str).all okB = true := by split <;> rfl
    have hpos := List.length_pos_iff.2 hl.1
    have one : ∀ t : Str, t.all okB = true → 0 < t.length → t.length ≤ nn → 8 ≤ (lineS (k + 1) [m] col ((if q = true then [34] else []) ++ t)).length ∧ (lineS (k + 1) [m] col ((if q = true then [34] else []) ++ t)).length ≤ 72 ∧ (10 : UInt8) ∉ lineS (k + 1) [m] col ((if q = true then [34] else []) ++ t) := by
      intro t h1 h2 h3
      rw [lineS_len, List.length_append, hll]
      refine ⟨by omega, by omega, fun e => ?_⟩
      have := List.all_eq_true.1 (lineS_ok (n := k + 1) (m := m) (col := col) (t := (if q = true then [34] else []) ++ t) (by rcases hm with rfl | rfl <;> decide) (by rw [List.all_append, hlo, h1]; rfl)) _ e
      exact absurd this (by decide)
    rw [textL, ← hld, ← hnn] at h
    by_cases h1 : s.length ≤ nn
    · rw [if_pos h1] at h
      rw [List.mem_singleton.1 h]
      exact one s hs hpos h1
    · rw [if_neg h1] at h
      by_cases h2 : 0 < spaceE s nn q
      · rw [if_pos h2] at h
        have hcut := spaceE_cut s q nn h2
        have hkn := (spaceE_le s nn q).1
        unfold cutAt at hcut
        simp only [Bool.and_eq_true, decide_eq_true_eq, beq_iff_eq] at hcut
        rcases List.mem_cons.1 h with rfl | h
        · exact one _ (all_take hs _) (by rw [List.length_take]; omega) (by rw [List.length_take]; omega)
        · exact textL_lines f 12 32 false (k + 1) _ (.inl rfl) (.inr rfl) (all_trimL (all_drop hs _)) (lastOk_trimL (lastOk_drop hl hcut.1.1)) l h
      · rw [if_neg h2] at h
        rcases List.mem_cons.1 h with rfl | h
        · exact one _ (all_take hs _) (by rw [List.length_take]; omega) (by rw [List.length_take]; omega)
        · exact textL_lines f 12 45 _ (k + 1) _ (.inr rfl) (.inr rfl) (all_drop hs _) (lastOk_drop hl (by omega)) l h
/-- What Write answers for one text. -/
structure WrLaw (text : Str) (left : Bool) (S : Str) (ls : List Str) (cs : List CardC) : Prop where
  write : writeE [(left, text)] = (S, 0)
  len : S.length ≤ 100000
  split : splitNL S = ls ++ [[]]
  lines : ∀ l ∈ ls, 8 ≤ l.length ∧ l.length ≤ 72
  read : readE S false = (cs, okF)
  left : ∃ m, cs.map (·.left) = left :: List.replicate m false
  sq : sqE (jT cs) = sqE text
theorem write_law {text : Str} {left : Bool} (hr : rightE text = true) (hl : text.length ≤ 1000) : ∃ S ls cs, WrLaw text left S ls cs := by
  obtain ⟨col, hcol⟩ : ∃ col : Nat, col = if left = true then 8 else 12 := ⟨_, rfl⟩
  have hc : col = 8 ∨ col = 12 := by rw [hcol]; split <;> simp
  have hlast := right_last hr
  have hr2 := hr
  unfold rightE at hr2
  simp only [Bool.and_eq_true, Bool.not_eq_true', decide_eq_false_iff_not] at hr2
  obtain ⟨⟨⟨⟨w1, w2⟩, w3⟩, w4⟩, w5⟩ := hr2
  have hhead : text.head? ≠ some 32 := by
    cases text with
    | nil => simp
    | cons b t => exact fun e => w3 (Option.some.inj e)
  obtain ⟨ls, hls⟩ : ∃ ls, ls = textL (text.length + 1) col [32] false 0 text := ⟨_, rfl⟩
  have hSl := textE_len (text.length + 1) col [32] false 0 [] text (by omega) (by omega) rfl
  have hSe := textE_lines (text.length + 1) col [32] false 0 [] text
  rw [List.nil_append, ← hls] at hSe
  rw [hSe, List.length_nil] at hSl
  have hlines := textL_lines (text.length + 1) col 32 false 0 text (.inl rfl) hc w2 hlast
  rw [← hls] at hlines
  obtain ⟨y, J, m, t1, t2, t3, t4, t5⟩ := write_read (text.length + 1) col [32] false 0 text .start 1 (Nat.lt_succ_self _) hc (.inl ⟨rfl, rfl, rfl⟩) w2 hlast (fun _ => hhead) (by rw [w5]; rfl)
  rw [← hls] at t1
  refine ⟨endL ls, ls, y.cards, ?_, by omega, endL_split fun l h => (hlines l h).2.2, fun l h => ⟨(hlines l h).1, (hlines l h).2.1⟩, ?_, ⟨m, ?_⟩, ?_⟩
  · unfold writeE
    simp only [List.all_cons, List.all_nil, Bool.and_true, hr, if_true, writeGo, ← hcol, hSe]
    rw [if_neg (by omega)]
  · have := endL_trim (ls := ls) fun l h => (hlines l h).2.2
    rw [t1] at this
    exact readE_ok (by omega) this t2
  · rw [t5]
    simp only [if_true, Rd.start, List.map_nil, List.nil_append, List.cons_append, List.cons.injEq, and_true]
    rw [hcol]
    cases left <;> rfl
  · have e : jT y.cards = J := by
      rw [t3]
      simp [Rd.start, jT]
    rw [e]
    exact t4 false
end Go.Proofs.YtmadddihphkmoaaGreatDoor

/-
  Plain: tokens of cards are those of their texts joined; spaces outside of quotes; what holds of the cards that are read.
  Conditions: none.
-/
namespace Go.Proofs.YtmadddihphkmoaaGreatDoor
open Go.AM
open Go.Proofs
open Go.Col
open Go.Tok
set_option maxRecDepth 100000

/-! ### Spaces outside of quotes -/
theorem absE_nil (l : List TokC) : absE [] 0 l = (l, 0) := rfl
theorem abs_sp1 (v : Str) (l : List TokC) : absE (32 :: v) 0 l = absE v 0 l := by
  have h := abs_cut (u := []) (v := v) l odd_nil
  rw [List.nil_append, absE_nil] at h
  rw [h]
  unfold thenE
  rw [if_neg (by simp)]
theorem thenE_sp (r : List TokC × Int) (v : Str) : thenE r (32 :: v) = thenE r v := by
  unfold thenE
  rw [abs_sp1]
theorem abs_sq : ∀ (s a : Str) (l : List TokC), absE (a ++ sqGo (oddQ a) (lastSp false a) s) 0 l = absE (a ++ s) 0 l
  | [], a, l => rfl
  | b :: s, a, l => by
    rw [sqGo]
    obtain ⟨q', hq'⟩ : ∃ q', q' = (if b = 34 then !oddQ a else oddQ a) := ⟨_, rfl⟩
    rw [← hq']
    by_cases hc : b = 32 ∧ q' = false ∧ lastSp false a = true
    · rw [if_pos hc]
      obtain ⟨h1, h2, h3⟩ := hc
      subst h1
      rw [if_neg (by decide)] at hq'
      rcases List.eq_nil_or_concat a with e | ⟨a', x, e⟩
      · rw [e] at h3; cases h3
      rw [List.concat_eq_append] at e
      have hx : x = 32 := by
        rw [e] at h3
        simpa [lastSp] using h3
      subst hx
      have ho : oddQ a' = false := by
        rw [h2, e, odd_append] at hq'
        have : oddQ [32] = false := rfl
        rw [this] at hq'
        revert hq'
        cases oddQ a' <;> simp
      have ih := abs_sq s a l
      have e32 : decide ((32 : UInt8) = 32) = true := by decide
      rw [e32, hq']
      rw [h3] at ih
      rw [ih, e]
      simp only [List.append_assoc, List.cons_append, List.nil_append]
      rw [abs_cut l ho, abs_cut l ho, thenE_sp]
    · rw [if_neg hc]
      have e1 : oddQ (a ++ [b]) = q' := by
        rw [odd_append, odd_cons, odd_nil, hq']
        split <;> cases oddQ a <;> rfl
      have e2 : lastSp false (a ++ [b]) = decide (b = 32) := by simp [lastSp]
      have ih := abs_sq s (a ++ [b]) l
      rw [e1, e2] at ih
      simp only [List.append_assoc, List.cons_append, List.nil_append] at ih
      exact ih
theorem abs_sqE (s : Str) (l : List TokC) : absE (sqE s) 0 l = absE s 0 l := abs_sq s [] l
theorem abs_alike {s t : Str} (h : sqE s = sqE t) (l : List TokC) : absE s 0 l = absE t 0 l := by rw [← abs_sqE s, h, abs_sqE]

/-! ### The tokens of cards -/
theorem cardGo_fault (c : CardC) : ∀ (f i : Nat) (l : List TokC), (cardGo c f i l).2 = okF ∨ (cardGo c f i l).2.e ≠ 0
  | 0, i, l => .inl rfl
  | f + 1, i, l => by
    rw [cardGo_step]
    split
    · exact .inl rfl
    · split
      · rename_i h; exact .inr h
      · exact cardGo_fault c f _ _
theorem cardT_abs {c : CardC} (hv : validC c = true) {l m : List TokC} (h : l.map kt = m.map kt) : (cardT c l).1.map kt = (absE c.text 0 m).1.map kt ∧ (cardT c l).2.e = (absE c.text 0 m).2 ∧ ((cardT c l).2 = okF ∨ (cardT c l).2.e ≠ 0) := by
  have h0 : (atE c 0).2.2 = 0 := by
    unfold atE
    rw [if_pos ⟨hv, by omega, by omega⟩]
  have e : cardT c l = cardGo c (c.text.length + 1) 0 l := by
    unfold cardT
    rw [if_neg (by rw [h0]; simp)]
  obtain ⟨h1, h2⟩ := cardGo_abs c (c.text.length + 1) 0 l m h
  rw [e]
  exact ⟨h1, h2, cardGo_fault c _ _ _⟩
theorem scan_jT : ∀ (c : CardC) (r : List CardC) (l m : List TokC), (∀ d ∈ c :: r, validC d = true ∧ oddQ d.text = false) → l.map kt = m.map kt →
    (scanGo (c :: r) l).2.e = (absE (jT (c :: r)) 0 m).2 ∧ ((absE (jT (c :: r)) 0 m).2 = 0 → (scanGo (c :: r) l).1.map kt = (absE (jT (c :: r)) 0 m).1.map kt)
  | c, [], l, m, h, hk => by
    obtain ⟨a1, a2, a3⟩ := cardT_abs (h c (by simp)).1 hk
    have ej : jT [c] = c.text := by simp [jT]
    rw [ej, scanGo]
    split
    · rename_i q
      have q' := a3.resolve_left q
      rw [a2] at q'
      exact ⟨a2, fun z => absurd z q'⟩
    · rename_i q
      have q' : (cardT c l).2 = okF := Decidable.of_not_not q
      rw [q'] at a2
      exact ⟨a2, fun _ => a1⟩
  | c, d :: r, l, m, h, hk => by
    obtain ⟨hv, ho⟩ := h c (by simp)
    obtain ⟨a1, a2, a3⟩ := cardT_abs hv hk
    have ej : jT (c :: d :: r) = c.text ++ 32 :: jT (d :: r) := by simp [jT]
    rw [ej, abs_cut m ho, scanGo]
    unfold thenE
    split
    · rename_i q
      have q' := a3.resolve_left q
      rw [a2] at q'
      rw [if_pos q']
      exact ⟨a2, fun z => absurd z q'⟩
    · rename_i q
      have q' : (cardT c l).2 = okF := Decidable.of_not_not q
      rw [q'] at a2
      rw [if_neg (by rw [← a2]; simp [okF])]
      exact scan_jT d r _ _ (fun e he => h e (by simp only [List.mem_cons] at he ⊢; exact .inr he)) a1

/-! ### What holds of the cards that are read -/
theorem odd_trimR (s : Str) : oddQ (trimR s) = oddQ s := by
  obtain ⟨m, h⟩ := trimR_split s
  conv => rhs; rw [h, oddQ_append, oddQ_sp]
  cases oddQ (trimR s) <;> rfl
theorem addC_odd (c : CardC) (line col : Int) (t : Str) : oddQ (addC c line col t).text = oddQ (c.text ++ t) := by
  unfold addC
  simp only
  split
  · rfl
  · rw [oddQ_append, odd_trimR, ← oddQ_append]
theorem addC_left (c : CardC) (line col : Int) (t : Str) : (addC c line col t).left = c.left := rfl
theorem addC_mark {c : CardC} {m : MarkC} {ms : List MarkC} (h : c.marks = m :: ms) (line col : Int) (t : Str) : ∃ ns, (addC c line col t).marks = m :: ns := by
  have e : (addC c line col t).marks = if (if oddQ (c.text ++ t) = true then t else trimR t) = [] then c.marks else c.marks ++ [⟨c.text.length, line, col⟩] := rfl
  rw [e, h]
  by_cases q : (if oddQ (c.text ++ t) = true then t else trimR t) = []
  · exact ⟨ms, if_pos q⟩
  · exact ⟨ms ++ [⟨c.text.length, line, col⟩], if_neg q⟩
theorem addC_first (b : Bool) (line col : Int) {t : Str} (h0 : t ≠ []) (h1 : t.head? ≠ some 32) : (addC ⟨b, [], []⟩ line col t).marks = [⟨0, line, col⟩] := by
  have hne : trimR t ≠ [] := fun e => by
    obtain ⟨m, h⟩ := trimR_split t
    rw [e, List.nil_append] at h
    cases m with
    | zero => exact h0 h
    | succ m => rw [h] at h1; exact h1 rfl
  have e : (addC ⟨b, [], []⟩ line col t).marks = if (if oddQ t = true then t else trimR t) = [] then [] else [⟨0, line, col⟩] := rfl
  rw [e, if_neg]
  split
  · exact h0
  · exact hne
/-- A card that is left is one whose first mark is in area A. -/
def LeftOk (c : CardC) : Prop := ∃ m ms, c.marks = m :: ms ∧ c.left = decide (m.col < 12)
structure RdEv (x : Rd) : Prop where
  ev : ∀ l c, x.cards = l ++ [c] → (∀ d ∈ l, oddQ d.text = false) ∧ oddQ c.text = x.odd
  nil : x.cards = [] → x.odd = false
  left : ∀ c ∈ x.cards, LeftOk c
theorem rdEv_more {x : Rd} (hx : RdEv x) (line col : Int) (t : Str) : RdEv (addE x line col t) := by
  rcases List.eq_nil_or_concat x.cards with e | ⟨l, c, e⟩
  · have : addE x line col t = x := by unfold addE; rw [e]; rfl
    rw [this]
    exact hx
  · rw [List.concat_eq_append] at e
    obtain ⟨a1, a2⟩ := hx.ev l c e
    rw [addE_last e]
    refine ⟨fun l' c' he => ?_, fun he => by simp at he, fun d hd => ?_⟩
    · obtain ⟨rfl, he2⟩ := List.append_inj' he rfl
      obtain rfl := List.head_eq_of_cons_eq he2
      exact ⟨a1, addC_odd _ _ _ _⟩
    · simp only [List.mem_append, List.mem_singleton] at hd
      rcases hd with hd | rfl
      · exact hx.left d (by rw [e]; simp [hd])
      · obtain ⟨m, ms, b1, b2⟩ := hx.left c (by rw [e]; simp)
        obtain ⟨ns, b3⟩ := addC_mark b1 line col t
        exact ⟨m, ns, b3, by rw [addC_left, b2]⟩
theorem rdEv_new {x : Rd} (hx : RdEv x) (ho : x.odd = false) (line col : Int) {t : Str} (h0 : t ≠ []) (h1 : t.head? ≠ some 32) : RdEv (addE { x with cards := x.cards ++ [⟨decide (col < 12), [], []⟩] } line col t) := by
  have e : ({ x with cards := x.cards ++ [⟨decide (col < 12), [], []⟩] } : Rd).cards = x.cards ++ [⟨decide (col < 12), [], []⟩] := rfl
  rw [addE_last e]
  refine ⟨fun l' c' he => ?_, fun he => by simp at he, fun d hd => ?_⟩
  · obtain ⟨rfl, he2⟩ := List.append_inj' he rfl
    obtain rfl := List.head_eq_of_cons_eq he2
    refine ⟨fun d hd => ?_, addC_odd _ _ _ _⟩
    rcases List.eq_nil_or_concat x.cards with q | ⟨l, c, q⟩
    · rw [q] at hd; cases hd
    · rw [List.concat_eq_append] at q
      obtain ⟨a1, a2⟩ := hx.ev l c q
      rw [q, List.mem_append, List.mem_singleton] at hd
      rcases hd with hd | rfl
      · exact a1 d hd
      · rw [a2, ho]
  · simp only [List.mem_append, List.mem_singleton] at hd
    rcases hd with hd | rfl
    · exact hx.left d hd
    · exact ⟨_, [], addC_first _ _ _ h0 h1, rfl⟩
theorem rdEv_take {x : Rd} (hx : RdEv x) {r : RowC} (h0 : r.text ≠ []) (h1 : r.text.head? ≠ some 32) : RdEv (Col.takeE x r).1 := by
  unfold Col.takeE
  split
  · exact hx
  · rename_i c1
    split
    · rename_i c2
      have ho : x.odd = false := by
        cases q : x.odd with
        | false => rfl
        | true => rw [c2, q] at c1; exact absurd rfl c1
      exact rdEv_new hx ho _ _ h0 h1
    · split
      · exact hx
      · split
        · exact hx
        · split
          · exact rdEv_more hx _ _ _
          · exact rdEv_more hx _ _ _
theorem readL_ev (dbg : Bool) : ∀ (ls : List Str) (n : Int) (x : Rd), RdEv x → RdEv (readL dbg ls n x).1
  | [], _, x, h => h
  | s :: ls, n, x, h => by
    rw [readL]
    cases hp : lineE s n dbg with
    | mk r q =>
      obtain ⟨cn, f⟩ := q
      simp only
      split
      · exact readL_ev dbg ls (n + 1) x h
      · rename_i q1
        split
        · rename_i q2
          have hcn : cn = true := by
            cases cn with
            | true => rfl
            | false => exact absurd ⟨q2, rfl⟩ q1
          rw [hcn, q2] at hp
          have hrow : r.text ≠ [] ∧ r.text.head? ≠ some 32 := by
            unfold lineE at hp
            split at hp
            · cases hp
            split at hp
            · cases hp
            simp only at hp
            have hh : (rowE s n).text.head? ≠ some 32 := head_trimL _
            split at hp
            · cases hp
            split at hp
            · simp only [Prod.mk.injEq, Bool.and_eq_true, Bool.not_eq_true', decide_eq_false_iff_not] at hp
              obtain ⟨rfl, hp, _⟩ := hp
              exact ⟨hp.2, hh⟩
            split at hp
            · simp only [Prod.mk.injEq, Bool.not_eq_true', decide_eq_false_iff_not] at hp
              obtain ⟨rfl, hp, _⟩ := hp
              exact ⟨hp, hh⟩
            · cases hp
          have ht := rdEv_take h hrow.1 hrow.2
          split
          · exact readL_ev dbg ls (n + 1) _ ht
          · exact ht
        · exact h
theorem rdEv_start : RdEv .start := ⟨fun l c h => absurd h.symm (by simp [Rd.start]), fun _ => rfl, fun c hc => by cases hc⟩
theorem read_ev {text : Str} {dbg : Bool} (hf : (readE text dbg).2 = okF) : ∀ c ∈ (readE text dbg).1, oddQ c.text = false ∧ LeftOk c := by
  have h := readL_ev dbg (splitNL (trimNL text)) 1 .start rdEv_start
  revert hf
  unfold readE
  split
  · intro q; cases q
  · simp only
    split
    · intro _ c hc; cases hc
    · split
      · intro _ c hc; cases hc
      · rename_i ho
        intro _ c hc
        refine ⟨?_, h.left c hc⟩
        rcases List.eq_nil_or_concat (readL dbg (splitNL (trimNL text)) 1 .start).1.cards with q | ⟨l, d, q⟩
        · simp only at hc; rw [q] at hc; cases hc
        · rw [List.concat_eq_append] at q
          obtain ⟨a1, a2⟩ := h.ev l d q
          simp only at hc
          rw [q, List.mem_append, List.mem_singleton] at hc
          rcases hc with hc | rfl
          · exact a1 c hc
          · rw [a2]; simpa using ho
theorem sameE_kt : ∀ {l m : List TokC}, l.map kt = m.map kt → sameE l m = true
  | [], [], _ => rfl
  | [], _ :: _, h => by cases h
  | _ :: _, [], h => by cases h
  | a :: l, b :: m, h => by
    simp only [List.map_cons, List.cons.injEq, kt, Prod.mk.injEq] at h
    rw [sameE, sameE_kt h.2]
    unfold sameT
    rw [decide_eq_true h.1.1, decide_eq_true h.1.2]
    rfl
/-- What Source answers to what Write has laid out: the tokens of the text. -/
theorem source_text {S text : Str} {cs : List CardC} (hr : readE S false = (cs, okF)) (hn : cs ≠ []) (hq : sqE (jT cs) = sqE text) :
    (sourceE S false).2.e = (absE text 0 []).2 ∧ ((absE text 0 []).2 = 0 → (sourceE S false).1.map kt = (absE text 0 []).1.map kt) := by
  have hv := read_valid (text := S) (dbg := false) (by rw [hr])
  have he := read_ev (text := S) (dbg := false) (by rw [hr])
  rw [hr] at hv he
  have e : sourceE S false = scanGo cs [] := by
    unfold sourceE
    rw [hr, if_neg (by simp)]
    rfl
  rw [e, ← abs_alike hq []]
  cases cs with
  | nil => exact absurd rfl hn
  | cons c r => exact scan_jT c r [] [] (fun d hd => ⟨hv d hd, (he d hd).1⟩) rfl
end Go.Proofs.YtmadddihphkmoaaGreatDoor

/-
  Plain: cards that are not valid, a card of many tokens, words and numbers that are too long.
  Conditions: none.
-/
namespace Go.Tok
open Go.Col (Str CardC FaultC okF readE atE validC atGo sp)
set_option maxRecDepth 100000

end Go.Tok
namespace Go.Proofs.YtmadddihphkmoaaGreatDoor
open Go.AM
open Go.Proofs
open Go.Col
open Go.Tok
set_option maxRecDepth 100000

end Go.Proofs.YtmadddihphkmoaaGreatDoor

/-
  The law TokensScan.
  Conditions: none.
-/
namespace Go.Proofs.YtmadddihphkmoaaGreatDoor
open Go.AM
open Go.Proofs
open Go.Col
open Go.Tok
open Go.RowKit (Below)
set_option maxRecDepth 100000

end Go.Proofs.YtmadddihphkmoaaGreatDoor

/-
  The law TokensErrors.
  Conditions: none.
-/
namespace Go.Proofs.YtmadddihphkmoaaGreatDoor
open Go.AM
open Go.Proofs
open Go.Col
open Go.Tok
open Go.RowKit (Below)
set_option maxRecDepth 100000

theorem isCards1 {w₀ : World} {h : AHeap} {k : Nat} {c : CardC} {mv : AVal} (hk : h k = some ⟨[.bool c.left, .str c.text, mv], 0⟩) (hm : IsL w₀ h 3 mv (c.marks.map markC)) : IsCards w₀ h (.slice (.own k) 0 1 (.exact 1)) [c] := by
  have hl := hm.live
  refine ⟨[(c, mv)], rfl, ?_, fun p hp => ?_⟩
  · exact IsL.own (xs := [cell3 (c, mv)]) hk (fun x hx => by rw [List.mem_singleton.1 hx]; rfl) rfl (show (true && (true && (mv.live && true))) = true by rw [hl]; rfl) (.exact 1) (Nat.le_refl _)
  · rw [List.mem_singleton.1 hp]
    exact hm
theorem isMarks1 {w₀ : World} {h : AHeap} {k : Nat} {m : MarkC} (hk : h k = some ⟨[.int .i64 m.frm, .int .i64 m.line, .int .i64 m.col], 0⟩) : IsL w₀ h 3 (.slice (.own k) 0 1 (.exact 1)) ([m].map markC) :=
  IsL.own (xs := [markC m]) hk (fun x hx => by rw [List.mem_singleton.1 hx]; rfl) rfl (by rfl) (.exact 1) (Nat.le_refl _)
end Go.Proofs.YtmadddihphkmoaaGreatDoor

/-
  The law TokensLines.
  Conditions: none.
-/
namespace Go.Proofs.YtmadddihphkmoaaGreatDoor
open Go.AM
open Go.Proofs
open Go.Col
open Go.Tok
open Go.RowKit (Below)
set_option maxRecDepth 100000

theorem right_odd {s : Str} (h : rightE s = true) : oddQ s = false := by
  unfold rightE at h
  simp only [Bool.and_eq_true, Bool.not_eq_true'] at h
  exact h.2
theorem one_valid (left : Bool) {s : Str} (line col : Int) (h : rightE s = true) (h1 : 1 ≤ line) (h8 : 8 ≤ col) (h72 : col ≤ 72) : validC ⟨left, s, [⟨0, line, col⟩]⟩ = true := by
  have hp : 0 < s.length := by
    cases s with
    | nil => exact absurd h (by decide)
    | cons b s => simp
  show (decide ((0 : Int) = 0) && validC.go _ (-1) [⟨0, line, col⟩]) = true
  rw [validC.go, decide_eq_true (show (-1 : Int) < 0 ∧ (0 : Int) < (s.length : Int) ∧ 1 ≤ line ∧ 8 ≤ col ∧ col ≤ 72 from ⟨by decide, by omega, h1, h8, h72⟩)]
  rfl
theorem write_right {left : Bool} {text S : Str} (h : writeE [(left, text)] = (S, 0)) : rightE text = true := by
  cases q : rightE text with
  | true => rfl
  | false =>
    unfold writeE at h
    rw [if_neg (by simp [q])] at h
    have z : (1 : Int) = 0 := congrArg Prod.snd h
    exact absurd z (by decide)
set_option maxHeartbeats 4000000 in
theorem l_TokensLines (w₀ : World) (hm : MaxL w₀) (ht10 : Tab10 w₀) (h : AHeap) (text : Str) (hl : text.length ≤ 9223372036854775807) (left : Bool) :
    ACall Tryz.prog w₀ 6 [.str text, .bool left] h (fun x _ => x = .bool true) := by
  refine ACall.mono (R := fun x h' => x = .bool true ∧ h' = h) ?_ fun x h' hx => hx.1
  refine acall_intro (n := 62) (rs := [.tmp 4]) Tryz.func6 rfl rfl rfl rfl (Nat.le_of_ble_eq_true rfl) ?_
  simp only [initSlots]
  -- region 0  law.go:143
  refine awp_rseq [0, 1] (by rfl) fun K hK => ?_
  simp (decide := true) only [aOps_nil, ev, absV, absS, putD, Slots.put, Slots.keep, if_true, if_false, true_and, ↓ap_assign, pop_assign, Nat.zero_add]
  apply hK; clear hK K
  refine awp_seq ?_
  -- region 1  law.go:144
  refine awp_rseq [0, 1, 14] (by rfl) fun K hK => ?_
  simp (decide := true) only [aOps_nil, ev, absV, absS, putD, Slots.put, Slots.get, Slots.keep, if_true, if_false, true_and, ↓ap_move, pop_move, ↓ap_len, pop_len, pLen_str Tryz.underlying9, ↓ap_binOp, pop_binOp, isNilC_int, cond_false, pBinX_int, pI_gtr]
  apply hK; clear hK K
  refine awp_cond (b := _) rfl (fun hb1 => ?_) (fun hb1 => ?_)
  · try simp only [decide_eq_true_eq] at hb1
    -- region 2  law.go:145
    refine awp_rseq [4] (by rfl) fun K hK => ?_
    refine aOps_callV (V := .bool true) (by rfl) (by rfl) (c_lives03 w₀ hm _) ?_
    simp (decide := true) only [aOps_nil, ev, putD, Slots.put, Slots.get, Slots.keep, if_true, if_false, true_and, ↓ap_assign, pop_assign]
    apply hK; clear hK K
    refine awp_ret ?_
    try simp only [thenA_ret]
    refine retA_ret h (by repeat (first | exact Sub.refl _ | assumption | refine Sub.trans_set ?_ (by assumption))) (resPre_tmp (resPre_nil)) ?_
    simp (decide := true) only [Slots.get, if_true, and_true, resOf_one]
    all_goals first | rfl | exact ⟨rfl, rfl⟩ | (simp (decide := true) only [if_true, if_false, *]; done) | (trace_state; fail)
  · try simp only [decide_eq_false_iff_not] at hb1
    have hl2 : text.length ≤ 600 := by omega
    obtain ⟨⟨wS, wE⟩, hwe⟩ : ∃ p, p = writeE [(left, text)] := ⟨_, rfl⟩
    refine awp_skip ?_
    change Awp _ _ _ _ _ _ _
    -- region 3  law.go:147
    refine awp_rseq [0, 1, 5, 6] (by rfl) fun K hK => ?_
    simp (decide := true) only [ev, absV, absS, putD, Slots.put, Slots.get, if_true, if_false, true_and, ↓ap_move, pop_move, ↓ap_build, ↓pop_buildL, bld61_0_1, evP, List.map_cons, List.map_nil]
    refine aOps_buildSlice (cs := [.bool left, .str text]) (by kernel_rfl) fun k3q3 hk3q3 => ?_
    try have hf_3q3 : h k3q3 = none := by first | assumption | (simp only [AHeap.set_none] at hk3q3; simp only [hk3q3])
    refine aOps_call (by rfl) (by rfl) (c_Write w₀ ht10 _ [(left, text)] (.own k3q3) 0 (.exact 1) (isLines (ls := [(left, text)]) (AHeap.set_same _ _ _) _ rfl) (by simp) (by intro x hx; simp at hx; subst hx; simp only; omega)) fun x3q4 h3q4 hx3q4 => ?_
    rw [← hwe] at hx3q4
    obtain ⟨rfl, hs3⟩ := hx3q4
    have hs_h3q4 : Sub h h3q4 := Sub.trans (by repeat (first | exact Sub.refl _ | assumption | refine Sub.trans_set ?_ (by assumption))) hs3
    have hr_h3q4 := hs_h3q4
    have eb_3q3 := hs3 k3q3 _ (by repeat (first | exact AHeap.set_same _ _ _ | assumption | refine (AHeap.set_ne _ _ (by first | assumption | exact Ne.symm (by assumption))).trans ?_))
    simp (decide := true) only [aOps_nil, ev, putD, Slots.put, Slots.get, Slots.keep, if_true, if_false, true_and, ↓ap_move, pop_move, ↓ap_extract, pop_extract, pExt_tuple, List.length_cons, List.length_nil, List.getD_cons_zero, List.getD_cons_succ, ↓ap_assign, pop_assign, List.getD_cons_zero, List.getD_cons_succ, Nat.zero_add, Nat.reduceAdd]
    apply hK; clear hK K
    refine awp_seq ?_
    -- region 4  law.go:148
    refine awp_rseq [0, 1, 5, 25] (by rfl) fun K hK => ?_
    simp (decide := true) only [aOps_nil, ev, absV, absS, putD, Slots.put, Slots.get, Slots.keep, if_true, if_false, true_and, ↓ap_move, pop_move, ↓ap_binOp, pop_binOp, isNilC_int, cond_false, pBinX_int, pI_neq]
    apply hK; clear hK K
    refine awp_cond (b := _) rfl (fun hb2 => ?_) (fun hb2 => ?_)
    · try simp only [decide_eq_false_iff_not, Bool.not_eq_true'] at hb2
      -- region 5  law.go:149
      refine awp_rseq [4] (by rfl) fun K hK => ?_
      refine aOps_callV (V := .bool true) (by rfl) (by rfl) (c_lives03 w₀ hm _) ?_
      simp (decide := true) only [aOps_nil, ev, putD, Slots.put, Slots.get, Slots.keep, if_true, if_false, true_and, ↓ap_assign, pop_assign]
      apply hK; clear hK K
      refine awp_ret ?_
      try simp only [thenA_ret]
      refine retA_ret h (by repeat (first | exact Sub.refl _ | assumption | refine Sub.trans_set ?_ (by assumption))) (resPre_tmp (resPre_nil)) ?_
      simp (decide := true) only [Slots.get, if_true, and_true, resOf_one]
      all_goals first | rfl | exact ⟨rfl, rfl⟩ | (simp (decide := true) only [if_true, if_false, *]; done) | (trace_state; fail)
    · try simp only [decide_eq_true_eq, Bool.not_eq_false'] at hb2
      obtain rfl : wE = 0 := by omega
      have hr := write_right hwe.symm
      obtain ⟨S', ls, cs, W⟩ := write_law (left := left) hr (by omega)
      obtain ⟨rfl, _⟩ := Prod.mk.inj (hwe.trans W.write)
      have hlen := W.len
      have hcs : cs ≠ [] := by obtain ⟨m, q⟩ := W.left; intro e; rw [e] at q; cases q
      obtain ⟨p1, p2⟩ := source_text W.read hcs W.sq
      obtain ⟨q1, q2⟩ := scan_jT ⟨left, text, [⟨0, 1, 12⟩]⟩ [] [] [] (fun d hd => by rw [List.mem_singleton.1 hd]; exact ⟨one_valid left 1 12 hr (by omega) (by omega) (by omega), right_odd hr⟩) rfl
      rw [show jT [⟨left, text, [⟨0, 1, 12⟩]⟩] = text by simp [jT]] at q1 q2
      obtain ⟨ea, hea⟩ : ∃ ea, ea = (absE text 0 []).2 := ⟨_, rfl⟩
      obtain ⟨A, hA⟩ : ∃ A, A = sourceE wS false := ⟨_, rfl⟩
      obtain ⟨B, hB⟩ : ∃ B, B = scanE [⟨left, text, [⟨0, 1, 12⟩]⟩] := ⟨_, rfl⟩
      have hBe : B.2.e = ea := by rw [hB, hea]; exact q1
      have hAe : A.2.e = ea := by rw [hA, hea]; exact p1
      have hsm : ea = 0 → sameE A.1 B.1 = true := fun z => by
        rw [hea] at z
        refine sameE_kt ?_
        rw [hA, p2 z, ← q2 z, hB]
        rfl
      have hAl : A.1.length ≤ 65536 := by rw [hA]; exact (source_small wS false).1
      refine awp_skip ?_
      change Awp _ _ _ _ _ _ _
      -- region 6  law.go:151
      refine awp_rseq [5, 7] (by rfl) fun K hK => ?_
      simp (decide := true) only [ev, absV, absS, putD, Slots.put, Slots.get, if_true, if_false, true_and, ↓ap_move, pop_move, ↓ap_build, ↓pop_buildL, bld29_0_1, evP, List.map_cons, List.map_nil, bld56_0_1]
      refine aOps_buildSlice (cs := [.int .i64 0, .int .i64 1, .int .i64 12]) (by kernel_rfl) fun k6q4 hk6q4 => ?_
      have hn_6q4 : h3q4 k6q4 = none := by first | assumption | (simp only [AHeap.set_none] at hk6q4; simp only [hk6q4])
      have hf_6q4 : h k6q4 = none := Sub.none hs_h3q4 hn_6q4
      have ne_6q4_3q3 : k6q4 ≠ k3q3 := AHeap.ne_some hn_6q4 eb_3q3
      simp (decide := true) only [ev, absV, absS, putD, Slots.put, Slots.get, if_true, if_false, true_and, ↓ap_build, ↓pop_buildL, bld48_0_1_2, evP, List.map_cons, List.map_nil, Sc_slice]
      refine aOps_alloc ze48 (cs := [.bool false, .str [], .nilSlice]) (by rfl) fun k6q6 hk6q6 => ?_
      have ne_6q6_6q4 : k6q6 ≠ k6q4 := by simp only [AHeap.set_none] at hk6q6; simp only [hk6q6, ne_eq, not_false_eq_true]
      have hn_6q6 : h3q4 k6q6 = none := by first | assumption | (simp only [AHeap.set_none] at hk6q6; simp only [hk6q6])
      have hf_6q6 : h k6q6 = none := Sub.none hs_h3q4 hn_6q6
      have ne_6q6_3q3 : k6q6 ≠ k3q3 := AHeap.ne_some hn_6q6 eb_3q3
      refine aOps_store (by rfl) (by rfl) (by repeat (first | exact AHeap.set_same _ _ _ | assumption | refine (AHeap.set_ne _ _ (by first | assumption | exact Ne.symm (by assumption))).trans ?_)) sz48 (by rfl) (by rfl) (by first | exact Nat.le_refl _ | decide | (simp; done) | (simp; omega)) (Nat.zero_le _) (by rfl) ?_
      simp only [AHeap.set_set, AVal.cells]
      simp (decide := true) only [aOps_nil, ev, putD, Slots.put, Slots.get, Slots.keep, if_true, if_false, setAt, List.set_cons_zero, List.set_cons_succ, Nat.zero_add, Nat.reduceAdd]
      apply hK; clear hK K
      -- region 7  law.go:152
      refine awp_rseq [5, 8, 9] (by rfl) fun K hK => ?_
      simp (decide := true) only [ev, putD, Slots.put, Slots.get, if_true, if_false, true_and, ↓ap_loadL, apL_mk, pLoad_agg ag48 sz48, rd_any, cellsAt, List.getD_cons_zero, List.getD_cons_succ, Nat.zero_add, Nat.reduceAdd, lv_bool, lv_str, lv_slice, allLive, Bool.and_true]
      refine aOps_buildSlice (cs := [.bool left, .str text, .slice (.own k6q4) 0 1 (.exact 1)]) (by kernel_rfl) fun k7q1 hk7q1 => ?_
      have ne_7q1_6q4 : k7q1 ≠ k6q4 := by simp only [AHeap.set_none] at hk7q1; simp only [hk7q1, ne_eq, not_false_eq_true]
      have ne_7q1_6q6 : k7q1 ≠ k6q6 := by simp only [AHeap.set_none] at hk7q1; simp only [hk7q1, ne_eq, not_false_eq_true]
      have hn_7q1 : h3q4 k7q1 = none := by first | assumption | (simp only [AHeap.set_none] at hk7q1; simp only [hk7q1])
      have hf_7q1 : h k7q1 = none := Sub.none hs_h3q4 hn_7q1
      have ne_7q1_3q3 : k7q1 ≠ k3q3 := AHeap.ne_some hn_7q1 eb_3q3
      refine aOps_call (by rfl) (by rfl) (c_Scan w₀ _ _ [⟨left, text, [⟨0, 1, 12⟩]⟩] (isCards1 (AHeap.set_same _ _ _) (isMarks1 (m := ⟨0, 1, 12⟩) (by repeat (first | exact AHeap.set_same _ _ _ | assumption | refine (AHeap.set_ne _ _ (by first | assumption | exact Ne.symm (by assumption))).trans ?_)))) (by simp) (by simp; omega)) fun x7q2 h7q2 hx7q2 => ?_
      obtain ⟨tv7, hv7, ht7, hs7⟩ := hx7q2.toks (w₀ := w₀)
      rw [← hB] at hv7 ht7
      have hl7 := ht7.live
      rw [hv7]
      have hs_h7q2 : Sub h h7q2 := Sub.trans (by repeat (first | exact Sub.refl _ | assumption | refine Sub.trans_set ?_ (by assumption))) hs7
      have hr_h7q2 : Sub h3q4 h7q2 := Sub.trans (by repeat (first | exact Sub.refl _ | assumption | refine Sub.trans_set ?_ (by assumption))) hs7
      have eb_6q4 := hs7 k6q4 _ (by repeat (first | exact AHeap.set_same _ _ _ | assumption | refine (AHeap.set_ne _ _ (by first | assumption | exact Ne.symm (by assumption))).trans ?_))
      have eb_6q6 := hs7 k6q6 _ (by repeat (first | exact AHeap.set_same _ _ _ | assumption | refine (AHeap.set_ne _ _ (by first | assumption | exact Ne.symm (by assumption))).trans ?_))
      have eb_7q1 := hs7 k7q1 _ (by repeat (first | exact AHeap.set_same _ _ _ | assumption | refine (AHeap.set_ne _ _ (by first | assumption | exact Ne.symm (by assumption))).trans ?_))
      have eb_3q3 := hs7 k3q3 _ (by repeat (first | exact AHeap.set_same _ _ _ | assumption | refine (AHeap.set_ne _ _ (by first | assumption | exact Ne.symm (by assumption))).trans ?_))
      simp (decide := true) only [ev, putD, Slots.put, Slots.get, if_true, if_false, true_and, ↓ap_move, pop_move, ↓ap_extract, pop_extract, pExt_tuple, List.length_cons, List.length_nil, List.getD_cons_zero, List.getD_cons_succ, List.getD_cons_zero, List.getD_cons_succ, Nat.zero_add, Nat.reduceAdd, faultA]
      refine aOps_alloc ze31 (cs := [.int .i64 0, .int .i64 0, .int .i64 0]) (by rfl) fun k7q6 hk7q6 => ?_
      have hn_7q6 : h7q2 k7q6 = none := by first | assumption | (simp only [AHeap.set_none] at hk7q6; simp only [hk7q6])
      have hf_7q6 : h k7q6 = none := Sub.none hs_h7q2 hn_7q6
      have ne_7q6_3q3 : k7q6 ≠ k3q3 := AHeap.ne_some hn_7q6 eb_3q3
      have ne_7q6_6q4 : k7q6 ≠ k6q4 := AHeap.ne_some hn_7q6 eb_6q4
      have ne_7q6_6q6 : k7q6 ≠ k6q6 := AHeap.ne_some hn_7q6 eb_6q6
      have ne_7q6_7q1 : k7q6 ≠ k7q1 := AHeap.ne_some hn_7q6 eb_7q1
      simp (decide := true) only [ev, putD, Slots.put, Slots.get, if_true, if_false, true_and, ↓ap_assign, pop_assign]
      refine aOps_store (by rfl) (by rfl) (by repeat (first | exact AHeap.set_same _ _ _ | assumption | refine (AHeap.set_ne _ _ (by first | assumption | exact Ne.symm (by assumption))).trans ?_)) sz31 (by rfl) (by rfl) (by first | exact Nat.le_refl _ | decide | (simp; done) | (simp; omega)) (Nat.zero_le _) (by rfl) ?_
      simp only [AHeap.set_set, AVal.cells]
      simp (decide := true) only [aOps_nil, ev, putD, Slots.get, Slots.keep, if_true, if_false, setAt, List.set_cons_zero, List.set_cons_succ, Nat.zero_add, Nat.reduceAdd]
      apply hK; clear hK K
      -- region 8  law.go:153
      refine awp_rseq [8, 9, 10, 11] (by rfl) fun K hK => ?_
      simp (decide := true) only [ev, putD, Slots.put, Slots.get, if_true, if_false, true_and, ↓ap_move, pop_move]
      refine aOps_call (by rfl) (by rfl) (c_Source w₀ hm _ wS false (by omega)) fun x8q1 h8q1 hx8q1 => ?_
      obtain ⟨tv8, hv8, ht8, hs8⟩ := hx8q1.toks (w₀ := w₀)
      rw [← hA] at hv8 ht8
      have hl8 := ht8.live
      rw [hv8]
      have hs_h8q1 : Sub h h8q1 := Sub.trans (by repeat (first | exact Sub.refl _ | assumption | refine Sub.trans_set ?_ (by assumption))) hs8
      have hr_h8q1 : Sub h7q2 h8q1 := Sub.trans (by repeat (first | exact Sub.refl _ | assumption | refine Sub.trans_set ?_ (by assumption))) hs8
      have eb_7q6 := hs8 k7q6 _ (by repeat (first | exact AHeap.set_same _ _ _ | assumption | refine (AHeap.set_ne _ _ (by first | assumption | exact Ne.symm (by assumption))).trans ?_))
      have eb_3q3 := hs8 k3q3 _ (by repeat (first | exact AHeap.set_same _ _ _ | assumption | refine (AHeap.set_ne _ _ (by first | assumption | exact Ne.symm (by assumption))).trans ?_))
      have eb_6q4 := hs8 k6q4 _ (by repeat (first | exact AHeap.set_same _ _ _ | assumption | refine (AHeap.set_ne _ _ (by first | assumption | exact Ne.symm (by assumption))).trans ?_))
      have eb_6q6 := hs8 k6q6 _ (by repeat (first | exact AHeap.set_same _ _ _ | assumption | refine (AHeap.set_ne _ _ (by first | assumption | exact Ne.symm (by assumption))).trans ?_))
      have eb_7q1 := hs8 k7q1 _ (by repeat (first | exact AHeap.set_same _ _ _ | assumption | refine (AHeap.set_ne _ _ (by first | assumption | exact Ne.symm (by assumption))).trans ?_))
      simp (decide := true) only [ev, putD, Slots.put, Slots.get, if_true, if_false, true_and, ↓ap_move, pop_move, ↓ap_extract, pop_extract, pExt_tuple, List.length_cons, List.length_nil, List.getD_cons_zero, List.getD_cons_succ, List.getD_cons_zero, List.getD_cons_succ, Nat.zero_add, Nat.reduceAdd, faultA]
      refine aOps_alloc ze31 (cs := [.int .i64 0, .int .i64 0, .int .i64 0]) (by rfl) fun k8q5 hk8q5 => ?_
      have hn_8q5 : h8q1 k8q5 = none := by first | assumption | (simp only [AHeap.set_none] at hk8q5; simp only [hk8q5])
      have hf_8q5 : h k8q5 = none := Sub.none hs_h8q1 hn_8q5
      have ne_8q5_3q3 : k8q5 ≠ k3q3 := AHeap.ne_some hn_8q5 eb_3q3
      have ne_8q5_6q4 : k8q5 ≠ k6q4 := AHeap.ne_some hn_8q5 eb_6q4
      have ne_8q5_6q6 : k8q5 ≠ k6q6 := AHeap.ne_some hn_8q5 eb_6q6
      have ne_8q5_7q1 : k8q5 ≠ k7q1 := AHeap.ne_some hn_8q5 eb_7q1
      have ne_8q5_7q6 : k8q5 ≠ k7q6 := AHeap.ne_some hn_8q5 eb_7q6
      simp (decide := true) only [ev, putD, Slots.put, Slots.get, if_true, if_false, true_and, ↓ap_assign, pop_assign]
      refine aOps_store (by rfl) (by rfl) (by repeat (first | exact AHeap.set_same _ _ _ | assumption | refine (AHeap.set_ne _ _ (by first | assumption | exact Ne.symm (by assumption))).trans ?_)) sz31 (by rfl) (by rfl) (by first | exact Nat.le_refl _ | decide | (simp; done) | (simp; omega)) (Nat.zero_le _) (by rfl) ?_
      simp only [AHeap.set_set, AVal.cells]
      simp (decide := true) only [aOps_nil, ev, putD, Slots.get, Slots.keep, if_true, if_false, setAt, List.set_cons_zero, List.set_cons_succ, Nat.zero_add, Nat.reduceAdd]
      apply hK; clear hK K
      -- region 9  law.go:154
      refine awp_rseq [4] (by rfl) fun K hK => ?_
      simp (decide := true) only [ev, absV, absS, putD, Slots.put, Slots.get, if_true, if_false, true_and, ↓ap_fieldAddr, pop_fieldAddr, fa31_0, ↓ap_loadL, apL_mk, pLoad_one ag27, ↓ap_binOp, pop_binOp, isNilC_tmp, cond_false, pBinX_int, pI_eql, ↓ap_move, pop_move, ↓ag_fieldAddr, agP, agQ_some, nthDst, gKnown_bool, guardB_bool_true, guardB_bool_false, implies_true, Bool.not_not, decide_true, condV_true, ↓ag_loadL, agQL_some, agL_mk, ↓ag_binOp, isNilC_int, pI_neq, ↓ag_move, rd_ne', ne_eq, not_false_eq_true, ne_8q5_7q6.symm, rd_own w₀ eb_7q6, rd_any, List.getD_cons_zero, Nat.zero_add, lv_int, hBe, hAe]
      (refine aOps_gcall (V := .bool (sameE A.1 B.1)) (f := _) (cap := _) (xs := _) (by first | rfl | (simp (decide := true) only [gv, nthDst, Slots.get, if_true, if_false, gKnown_cond, gKnown_bool])) (fun hg => ⟨rfl, ?_⟩) (fun hg => c_Same w₀ _ _ _ A.1 B.1 (ht8.mono (by repeat (first | exact Sub.refl _ | assumption | refine Sub.set_both ?_ _ _ | refine Sub.trans_set ?_ (by repeat (first | assumption | refine (AHeap.set_ne _ _ (by first | assumption | exact Ne.symm (by assumption))).trans ?_))))) ((ht7.mono hr_h8q1).mono (by repeat (first | exact Sub.refl _ | assumption | refine Sub.set_both ?_ _ _ | refine Sub.trans_set ?_ (by repeat (first | assumption | refine (AHeap.set_ne _ _ (by first | assumption | exact Ne.symm (by assumption))).trans ?_))))) (by omega)) ?_; · (simp (decide := true) only [gv, nthDst, Slots.get, if_true, if_false, guardB_bool_false, Bool.not_not] at hg; simp (decide := true) only [evs, ev, Slots.get, if_true, if_false, hg, condV_true, List.append_nil, List.map_cons, List.map_nil] <;> try rfl))
      simp (decide := true) only [ev, absV, absS, putD, Slots.put, Slots.get, if_true, if_false, true_and, gv, nthDst, guardB_bool_true, guardB_bool_false, ↓ag_pick, pop_pick, agP, agQ_some, gKnown_bool, implies_true, Bool.not_not, condV_true, Bool.true_and, pPick_bool, pickV_cond_rn, pickV_and, pickV_or, ↓ap_pick, ↓ap_move, pop_move]
      (refine aOps_gcall (V := .bool true) (f := _) (cap := _) (xs := _) (by first | rfl | (simp (decide := true) only [gv, nthDst, Slots.get, if_true, if_false, gKnown_cond, gKnown_bool])) (fun hg => ⟨rfl, ?_⟩) (fun hg => c_lives03 w₀ hm _) ?_; · (simp (decide := true) only [gv, nthDst, Slots.get, if_true, if_false, guardB_bool_true] at hg; simp (decide := true) only [evs, hg, List.append_nil, List.map_nil] <;> try rfl))
      simp (decide := true) only [aOps_nil, ev, absV, absS, putD, Slots.put, Slots.get, Slots.keep, if_true, if_false, true_and, gv, nthDst, guardB_bool_true, ↓ap_pick, pop_pick, pPick_bool, pickV_cond_l, pickV_and, ↓ap_assign, pop_assign, Bool.and_true]
      apply hK; clear hK K
      refine awp_ret ?_
      refine retA_ret h (by repeat (first | exact Sub.refl _ | assumption | refine Sub.trans_set ?_ (by assumption))) (resPre_tmp (resPre_nil)) ?_
      simp (decide := true) only [Slots.get, if_true, and_true, resOf_one]
      by_cases z : ea = 0
      · rw [hsm z, Bool.or_true]
      · rw [decide_eq_false z]
        rfl
end Go.Proofs.YtmadddihphkmoaaGreatDoor

/-
  The arguments of the statements, opened: booleans, texts, integers, pairs of bytes; the wrap that hands on the world's shape.
  Conditions: none.
-/
namespace Go.Proofs.YtmadddihphkmoaaGreatDoor
open Go.AM
open Go.ChangeShapes Go.WideShapes Go.ChangeAt Go.RowKit
set_option maxRecDepth 100000

section
variable {H : Type} {enc : TypeId × Value → H} {W : World} {base : Nat} {v : Value} {x : DataW H × List MemPlace}
theorem arg_bool {t : TypeId} (ht : Tryz.prog.underlying t = some .bool) (hv : Value.okWide Tryz.prog W .any base t v) : ∃ b : Bool, VR (fun _ => none) (.bool b) v := by
  obtain ⟨b, rfl⟩ := okWide_bool ht hv
  exact ⟨b, by simp only [VR]⟩
theorem arg_str {t : TypeId} (ht : Tryz.prog.underlying t = some .string) (h : ∃ fuel, DataW.trod enc Tryz.prog W 0 (fun _ => true) true fuel t v.cells.toList = some x) (hv : Value.okWide Tryz.prog W .any base t v) :
    ∃ s : List UInt8, VR (fun _ => none) (.str s) v ∧ s.length ≤ 9223372036854775807 := by
  obtain ⟨fuel, hf⟩ := h
  obtain ⟨s, rfl⟩ := okWide_string ht hv
  obtain ⟨s', h, hx, hs⟩ := DataW.trod_string ht hf
  simp [Value.cells] at h
  subst h
  exact ⟨s.data.toList, VR_strArg _ s, str_le hs⟩
end

/-- The plain wrap of a row with listed variables, the world's shape handed on. -/
theorem returns_and_shaped {H : Type} {enc : TypeId × Value → H} {a : Assume} {C : Checked} {os : Os} {f : FuncId} {fn : Func} {s : ChangeSpec} {conds : List PathCond} {apart fresh handsOn again : Bool} {X : World → Array Value → Prop}
    (hX : ∀ (w w' : World) (args : Array Value), w.heap = w'.heap → X w args → X w' args)
    (own : ownKnob C.prog.godebug = none) (started : os.Started) (noInit : C.prog.inits.idxOf? f = none) (hfn : C.prog.funcs[f]? = some fn)
    (witness : ∃ (w : World) (tape : Tape) (i : Input), w.os = os ∧ (w.forCall tape i).Shaped C.prog ∧ i.vars = [] ∧ Input.okWide C.prog (w.forCall tape i) .any w.heap.size f i ∧
      ((s.pre enc C.prog fn conds apart (w.forCall tape i).memory i.args ∧ X (w.forCall tape i).memory i.args) ∧ sizedMet enc C.prog fn (OpenSpec.ofChange s) apart (w.forCall tape i).memory i.args) ∧ a.holds C.prog (lone (Frame.enter C.prog f i.args .normal) [] (w.forCall tape i)))
    (contract : ∀ (W : World) (base : Nat) (args : Array Value) (ds gs : List (DataW H)) (before : List MemPlace), W.ShapedOpen C.prog →
      (∀ (j : Nat) t v, fn.params[j]? = some t → args[j]? = some v → Value.okWide C.prog W .any base t v) →
      DataW.Whole enc C.prog fn.params.toList s.vars apart W args.toList ds gs before →
      conds.all (PathCond.test C.prog ⟨fn.params.toList, ds, s.plain.varTypes C.prog, gs⟩) = true →
      (DataW.weightsEach C.prog (fn.params.toList ++ s.plain.varTypes C.prog) (ds ++ gs)).all (· ≤ reachBytes) = true → X W args →
      a.holds C.prog (lone (Frame.enter C.prog f args .normal) [] W) →
      Calls C.prog f args W fun e W' => ∃ v, e = .returned v ∧ s.post enc C.prog fn apart fresh handsOn again W args v W') :
    ReturnsInHanded a C os f .any (fun w args => (s.pre enc C.prog fn conds apart w args ∧ X w args) ∧ sizedMet enc C.prog fn (OpenSpec.ofChange s) apart w args) (s.post enc C.prog fn apart fresh handsOn again) := by
  refine returnsInHanded_of_calls own started noInit witness ?_
  intro w tape i _ hsh _ hok hpre hholds
  obtain ⟨_, _, _, fn', hfn', _, _, _, _, hval⟩ := hok
  have e : fn' = fn := Option.some.inj (hfn'.symm.trans hfn)
  subst e
  obtain ⟨⟨⟨ds, gs, before, hw, hc⟩, hx⟩, hz⟩ := hpre
  have hw' := DataW.Whole.of_heap (w' := w.forCall tape i) (by rfl) hw
  refine (contract (w.forCall tape i) w.heap.size i.args ds gs before hsh hval hw' hc (hz.weights hw) (hX _ _ _ (by rfl) hx) hholds).mono fun e W' ⟨v, he, hp⟩ => ?_
  subst he
  exact ChangeSpec.post_blind hp
end Go.Proofs.YtmadddihphkmoaaGreatDoor

/-
  What the world of a statement about columns gives: the listed table, the cell of the longest text.
  Conditions: none.
-/
namespace Go.Proofs.YtmadddihphkmoaaGreatDoor
open Go.AM
open Go.ChangeShapes Go.WideShapes Go.ChangeAt Go.RowKit
set_option maxRecDepth 100000
/-- The listed table of powers of ten. -/
theorem tab_of {W : World} {rest : List (String × DataW Unit)} (h : laidMet Tryz.prog (("internal/strconv.uint64pow10", Rows.laid_internal_strconv_uint64pow10) :: rest) W) : Tab10 W :=
  Lib.tabIs_of_head (g := 3) (by kernel_rfl) (by kernel_rfl) (show Tryz.prog.underlying 181 = _ from Tryz.underlying181) Tryz.underlying128 (by kernel_rfl) (by kernel_rfl) h
theorem maxl_of {W : World} (h : W.ShapedOpen Tryz.prog) : MaxL W :=
  cell_of_shapedOpen_int (t := 3) (zero := #[.int .i64 0]) h (of_decide_eq_true (by kernel_rfl)) (by kernel_rfl) rfl (by kernel_rfl) (by kernel_rfl) Tryz.underlying3
end Go.Proofs.YtmadddihphkmoaaGreatDoor

