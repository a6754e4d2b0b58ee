/-
  Texts of this proof, joined: TkQ, TmA, TmB, TmC, TmD, BmB, TmE, LwR, LwS, LwU.
  Conditions: none.
-/
import Derived.Test.YtmadddihphkmoaaDoorSd
import Derived.Test.YtmadddihphkmoaaDoorSb
import Derived.Test.YtmadddihphkmoaaDoorProg
import Derived.WalkKit
import Derived.ProofKit
import Derived.OpenShut
import Derived.ShutString
import Derived.ChangeOld
import Derived.Below
import Derived.Deep.Strs
import Derived.Handed
import Derived.HandedShaped
import Derived.Shelf.Vars
import Derived.Test.YtmadddihphkmoaaDoorSc
import Derived.Test.YtmadddihphkmoaaDoorRows
import Derived.Lib.LaidTab
import Derived.MakeChecks
import Derived.Lib.SmallJoins
set_option linter.unusedSimpArgs false
set_option linter.unnecessarySimpa false
set_option linter.unusedVariables false
/-
  Contracts: show, lives of the laws.
  Conditions: none.
-/
namespace Go.Proofs.YtmadddihphkmoaaDoor
open Go.AM
open Go.Proofs
open Go.Col
open Go.Tok
open Go.RowKit (Below)
set_option maxRecDepth 100000

def lettE : Str := [63, 87, 78, 81, 80, 83, 46, 61]
def showGo : List TokC → Str → Str
  | [], out => out
  | t :: r, out => if 7 < t.kind.toNat then [63] else showGo r (out ++ [lettE.getD t.kind.toNat 0] ++ t.text ++ [124])
def showE (s : Str) : Str × FaultC := (showGo (sourceE (sp 11 ++ s) false).1 [], (sourceE (sp 11 ++ s) false).2)
theorem showGo_next {l : List TokC} {i : Nat} (hi : i < l.length) (out : Str) : showGo (l.drop i) out = if 7 < (l.getD i badT).kind.toNat then [63] else showGo (l.drop (i + 1)) (out ++ [lettE.getD (l.getD i badT).kind.toNat 0] ++ (l.getD i badT).text ++ [124]) := by
  rw [List.drop_eq_getElem_cons hi, showGo]
  simp [List.getD, hi]
theorem lett_cut (k : Nat) (h : k ≤ 7) : (lettE.drop k).take (k + 1 - k) = [lettE.getD k 0] := by
  have : k = 0 ∨ k = 1 ∨ k = 2 ∨ k = 3 ∨ k = 4 ∨ k = 5 ∨ k = 6 ∨ k = 7 := by omega
  rcases this with q | q | q | q | q | q | q | q <;> subst q <;> rfl
theorem tok_at {w₀ : World} {h : AHeap} {lc : AM.Loc} {o : Nat} {c : Cap} {l : List TokC} (ht : IsL w₀ h 5 (.slice lc o l.length c) (l.map tokC)) {i : Nat} (hi : i < l.length) :
    rd w₀ h lc (o + i * 5) = .int .u8 (l.getD i badT).kind.toNat ∧ rd w₀ h lc (o + i * 5 + 1) = .str (l.getD i badT).text ∧ rd w₀ h lc (o + i * 5 + 2) = .int .i64 (l.getD i badT).line ∧ rd w₀ h lc (o + i * 5 + 3) = .int .i64 (l.getD i badT).col ∧ rd w₀ h lc (o + i * 5 + 4) = .bool (l.getD i badT).left := by
  have he := ht.elem (i := i) (by rw [List.length_map]; exact hi)
  rw [getD_map badT hi] at he
  simp only [cellsAt, tokC, List.cons.injEq, and_true] at he
  exact he
theorem tok_open {w₀ : World} {h : AHeap} {v : AVal} {l : List TokC} (ht : IsL w₀ h 5 v (l.map tokC)) (hn : 0 < l.length) : ∃ lc o c, v = .slice lc o l.length c := by
  obtain ⟨lc, o, c, e⟩ := ht.open (fun e => by rw [List.map_eq_nil_iff] at e; subst e; simp at hn)
  rw [List.length_map] at e
  exact ⟨lc, o, c, e⟩
theorem tok_len {w₀ : World} {h : AHeap} {v : AVal} {l : List TokC} (ht : IsL w₀ h 5 v (l.map tokC)) : pLen Tryd.prog 23 v = ⟨True, .int .i64 l.length⟩ := by
  have := ht.len Tryd.underlying23
  rwa [List.length_map] at this
structure ShG where
  i : Nat
  out : Str
theorem c_show (w₀ : World) (hm : MaxL w₀) (h : AHeap) (s : Str) (hl : s.length ≤ 1000000) : ACall Tryd.prog w₀ 12 [.str s] h (fun v h' => v = .tuple [.str (showE s).1, faultA (showE s).2] ∧ h' = h) := by
  have hsp : (sp 11 ++ s).length ≤ 9223372036854775807 := by simp [sp]; omega
  obtain ⟨z1, z2⟩ := source_small (sp 11 ++ s) false
  refine acall_intro (n := 50) (rs := [.tmp 2, .cell 3 28]) Tryd.func12 rfl rfl rfl rfl (Nat.le_of_ble_eq_true rfl) ?_
  simp only [initSlots]
  -- region 0  law.go:58
  refine awp_rseq [0, 3] (by rfl) fun K hK => ?_
  simp (decide := true) only [ev, absV, absS, putD, Slots.put, if_false, true_and, ↓ap_assign, pop_assign]
  refine aOps_alloc ze28 (cs := [.int .i64 0, .int .i64 0, .int .i64 0]) (by rfl) fun k0q1 hk0q1 => ?_
  try have hf_0q1 : h k0q1 = none := by first | assumption | (simp only [AHeap.set_none] at hk0q1; simp only [hk0q1])
  simp (decide := true) only [aOps_nil, putD, Slots.put, Slots.keep, if_true, if_false]
  apply hK; clear hK K
  -- region 1  law.go:59
  refine awp_rseq [3, 4, 5] (by rfl) fun K hK => ?_
  simp (decide := true) only [ev, absV, absS, putD, Slots.put, Slots.get, if_true, if_false, true_and, ↓ap_move, pop_move, ↓ap_binOp, pop_binOp, isNilC_tmp, cond_false, pBinX_str, pS_add]
  repeat (with_reducible refine And.intro ?_ ?_; · first | trivial | omega | (intro hg; simp only [Bool.and_eq_true, Bool.or_eq_true, Bool.not_eq_true', Bool.and_eq_false_iff, Bool.or_eq_false_iff, Bool.not_eq_false', decide_eq_true_eq, decide_eq_false_iff_not, eqNil] at hg; omega) | (simp only [List.length_cons, List.length_nil]; omega))
  refine aOps_call (by rfl) (by rfl) (c_Source w₀ hm _ (sp 11 ++ s) false hsp) fun x1q2 h1q2 hx1q2 => ?_
  obtain ⟨tv, hv1, htv, hs1⟩ := hx1q2.toks (w₀ := w₀)
  obtain ⟨R, hR⟩ : ∃ R, R = sourceE (sp 11 ++ s) false := ⟨_, rfl⟩
  have hsE : showE s = (showGo R.1 [], R.2) := by rw [hR]; rfl
  rw [← hR] at htv hv1 z1 z2
  obtain ⟨l, hl'⟩ : ∃ l, l = R.1 := ⟨_, rfl⟩
  obtain ⟨v, hv⟩ : ∃ v, v = capL tv := ⟨_, rfl⟩
  rw [← hl'] at htv hsE z1 z2
  rw [← hv] at htv hv1
  rw [hv1]
  have hs_h1q2 : Sub h h1q2 := Sub.trans (by repeat (first | exact Sub.refl _ | assumption | refine Sub.trans_set ?_ (by assumption))) hs1
  have hr_h1q2 := hs_h1q2
  have eb_0q1 := hs1 k0q1 _ (by repeat (first | exact AHeap.set_same _ _ _ | assumption | refine (AHeap.set_ne _ _ (by first | assumption | exact Ne.symm (by assumption))).trans ?_))
  simp (decide := true) only [ev, putD, Slots.put, Slots.get, if_true, if_false, true_and, ↓ap_move, pop_move, ↓ap_extract, pop_extract, pExt_tuple, List.length_cons, List.length_nil, List.getD_cons_zero, List.getD_cons_succ, List.getD_cons_zero, List.getD_cons_succ, Nat.zero_add, Nat.reduceAdd, faultA]
  refine aOps_alloc ze28 (cs := [.int .i64 0, .int .i64 0, .int .i64 0]) (by rfl) fun k1q6 hk1q6 => ?_
  have hn_1q6 : h1q2 k1q6 = none := by first | assumption | (simp only [AHeap.set_none] at hk1q6; simp only [hk1q6])
  have hf_1q6 : h k1q6 = none := Sub.none hs_h1q2 hn_1q6
  have ne_1q6_0q1 : k1q6 ≠ k0q1 := AHeap.ne_some hn_1q6 eb_0q1
  simp (decide := true) only [ev, putD, Slots.put, Slots.get, if_true, if_false, true_and, ↓ap_assign, pop_assign]
  refine aOps_store (by rfl) (by rfl) (by repeat (first | exact AHeap.set_same _ _ _ | assumption | refine (AHeap.set_ne _ _ (by first | assumption | exact Ne.symm (by assumption))).trans ?_)) sz28 (by rfl) (by rfl) (by first | exact Nat.le_refl _ | decide | (simp; done) | (simp; omega)) (Nat.zero_le _) (by rfl) ?_
  simp only [AHeap.set_set, AVal.cells]
  simp (decide := true) only [aOps_nil, ev, putD, Slots.get, Slots.keep, if_true, if_false, setAt, List.set_cons_zero, List.set_cons_succ, Nat.zero_add, Nat.reduceAdd]
  apply hK; clear hK K
  -- region 2  law.go:60
  refine awp_rseq [3, 4, 5, 6] (by rfl) fun K hK => ?_
  simp (decide := true) only [aOps_nil, ev, absV, absS, putD, Slots.put, Slots.keep, if_true, if_false, true_and, ↓ap_assign, pop_assign]
  apply hK; clear hK K
  refine awp_seq ?_
  -- region 3  law.go:61
  refine awp_rseq [3, 4, 5, 6, 7] (by rfl) fun K hK => ?_
  simp (decide := true) only [aOps_nil, ev, absV, absS, putD, Slots.put, Slots.keep, if_true, if_false, true_and, ↓ap_assign, pop_assign]
  apply hK; clear hK K
  refine awp_block ?_
  refine awp_loopG [3, 4, 5, 6, 7] (fun g : ShG => [(3, .ptr (.own k0q1) 0), (4, v), (5, .ptr (.own k1q6) 0), (6, .str g.out), (7, .int .i64 g.i)]) (fun g : ShG => h1q2.set k1q6 ⟨[.int .i64 R.2.e, .int .i64 R.2.line, .int .i64 R.2.col], 0⟩) (fun g : ShG => g.i ≤ l.length ∧ showGo (l.drop g.i) g.out = showGo l [] ∧ g.out.length ≤ g.i * 83886170) (fun g : ShG => l.length - g.i) ⟨0, []⟩ (by rfl) (Sub.refl _) ⟨Nat.zero_le _, rfl, Nat.zero_le _⟩ ?_
  rintro ⟨i, out⟩ ⟨i1, i2, i3⟩
  simp only at i1 i2 i3 ⊢
  have hlv := htv.live
  have hlen := tok_len htv
  refine awp_seq ?_
  -- region 4  law.go:61
  refine awp_rseq [3, 4, 5, 6, 7, 17] (by rfl) fun K hK => ?_
  simp (decide := true) only [aOps_nil, ev, putD, Slots.put, Slots.get, Slots.keep, if_true, if_false, true_and, ↓ap_move, pop_move, ↓ap_len, pop_len, ↓ap_binOp, pop_binOp, isNilC_tmp, cond_false, pBinX_int, pI_lss, hlen]
  apply hK; clear hK K
  refine awp_cond (b := _) rfl (fun hb1 => ?_) (fun hb1 => ?_)
  · try simp only [decide_eq_true_eq] at hb1
    have hi : i < l.length := by omega
    obtain ⟨lc, o, c, rfl⟩ := tok_open htv (by omega)
    have hS : Sub h1q2 (h1q2.set k1q6 ⟨[.int .i64 R.2.e, .int .i64 R.2.line, .int .i64 R.2.col], 0⟩) := Sub.set hn_1q6
    obtain ⟨e0, e1, _, _, _⟩ := tok_at (htv.mono hS) hi
    obtain ⟨t, ht⟩ : ∃ t, t = l.getD i badT := ⟨_, rfl⟩
    have hnx := showGo_next hi out
    have htb := z2 t (by rw [ht, List.getD, List.getElem?_eq_getElem hi]; exact List.getElem_mem hi)
    have hob : out.length ≤ 65536 * 83886170 := Nat.le_trans i3 (Nat.mul_le_mul_right _ (by omega))
    rw [← ht] at e0 e1 hnx
    rw [i2] at hnx
    refine awp_skip ?_
    change Awp _ _ _ _ _ _ _
    refine awp_seq ?_
    refine awp_block ?_
    refine awp_seq ?_
    -- region 6  law.go:62
    refine awp_rseq [3, 4, 5, 6, 7, 25] (by rfl) fun K hK => ?_
    simp (decide := true) only [aOps_nil, ev, absV, absS, putD, Slots.put, Slots.get, Slots.keep, if_true, if_false, true_and, ↓ap_move, pop_move, ↓ap_indexAddrL, apL_mk, pIndexAddr_slice Tryd.underlying23 sz35, ↓ap_fieldAddr, pop_fieldAddr, fa35_0, ↓ap_loadL, pLoad_one ag33, ↓ap_binOp, pop_binOp, isNilC_int, cond_false, pBinX_int, pI_gtr, lv_int, Int.toNat_natCast, Nat.add_zero, e0]
    repeat (with_reducible refine And.intro ?_ ?_; · first | trivial | omega | (intro hg; simp only [Bool.and_eq_true, Bool.or_eq_true, Bool.not_eq_true', Bool.and_eq_false_iff, Bool.or_eq_false_iff, Bool.not_eq_false', decide_eq_true_eq, decide_eq_false_iff_not, eqNil] at hg; omega) | (simp only [List.length_append, List.length_map, List.length_range, List.length_replicate, List.length_take, List.length_drop, List.length_cons, List.length_nil, List.length_set, List.length_reverse]; omega))
    apply hK; clear hK K
    refine awp_cond (b := _) rfl (fun hb2 => ?_) (fun hb2 => ?_)
    · try simp only [decide_eq_true_eq] at hb2
      rw [if_pos (by omega)] at hnx
      -- region 7  law.go:63
      refine awp_dseq_tail 2 [2, 3] mixed (by kernel_rfl) (by rfl) (by rfl) fun K hK => ?_
      simp (decide := true) only [ev, absV, absS, putD, Slots.put, Slots.get, if_true, if_false, true_and, ↓ap_loadL, apL_mk, pLoad_agg ag28 sz28, ↓ap_assign, pop_assign, rd_any, cellsAt, List.getD_cons_zero, List.getD_cons_succ, Nat.zero_add, Nat.reduceAdd, lv_int, allLive, Bool.and_true]
      refine aOps_store (by rfl) (by rfl) (by repeat (first | exact AHeap.set_same _ _ _ | assumption | refine (AHeap.set_ne _ _ (by first | assumption | exact Ne.symm (by assumption))).trans ?_)) sz28 (by rfl) (by rfl) (by first | exact Nat.le_refl _ | decide | (simp; done) | (simp; omega)) (Nat.zero_le _) (by rfl) ?_
      simp only [AVal.cells]
      simp (decide := true) only [aOps_nil, ev, putD, Slots.get, Slots.keep, if_true, if_false, setAt, List.set_cons_zero, List.set_cons_succ, Nat.zero_add, Nat.reduceAdd]
      apply hK; clear hK K
      refine awp_ret ?_
      try simp only [thenA_ret, inBlockA_ret]
      refine retA_ret h (by repeat (first | exact Sub.refl _ | assumption | refine Sub.trans_set ?_ (by assumption))) (?_) ?_
      · simp (decide := true) only [resPre, resV_tmp, resV_cell, Slots.get, if_true, if_false, and_true, resV_tmp, resV_cell, pLoad_agg ag28 sz28, rd_set, cellsAt, List.getD_cons_zero, List.getD_cons_succ, Nat.zero_add, Nat.reduceAdd, lv_int, allLive, Bool.and_true, cellsAt, List.getD_cons_zero, List.getD_cons_succ, Nat.zero_add, Nat.reduceAdd, lv_int, allLive, Bool.and_true]
      
      simp (decide := true) only [Slots.get, if_true, if_false, and_true, resOfG_two, resV_tmp, resV_cell, pLoad_agg ag28 sz28, rd_set, cellsAt, List.getD_cons_zero, List.getD_cons_succ, Nat.zero_add, Nat.reduceAdd, lv_int, allLive, Bool.and_true, cellsAt, List.getD_cons_zero, List.getD_cons_succ, Nat.zero_add, Nat.reduceAdd, lv_int, allLive, Bool.and_true, faultA]
      rw [hsE, hnx]
    · try simp only [decide_eq_false_iff_not] at hb2
      have hk7 : t.kind.toNat ≤ 7 := by omega
      rw [if_neg (by omega)] at hnx
      have hcut : (List.drop t.kind.toNat ([63, 87, 78, 81, 80, 83, 46, 61] : Str)).take (((t.kind.toNat : Int) + 1).toNat - t.kind.toNat) = [lettE.getD t.kind.toNat 0] := by
        rw [show ((t.kind.toNat : Int) + 1).toNat = t.kind.toNat + 1 by omega]
        exact lett_cut _ hk7
      refine awp_skip ?_
      change Awp _ _ _ _ _ _ _
      -- region 8  law.go:65
      refine awp_draw_all mixed (by kernel_rfl) (by rfl) (by rfl) ?_
      simp (decide := true) only [ev, absV, absS, putD, Slots.put, Slots.get, if_true, if_false, true_and, ↓ap_move, pop_move, ↓ap_indexAddrL, apL_mk, pIndexAddr_slice Tryd.underlying23 sz35, ↓ap_fieldAddr, pop_fieldAddr, fa35_0, ↓ap_loadL, pLoad_one ag33, ↓ap_binOp, pop_binOp, isNilC_int, cond_false, pBinX_int, pI_add, lv_int, faultA, Int.toNat_natCast, Nat.add_zero, e0]
      try simp (disch := omega) only [wrap_u8]
      try simp (decide := true) only [aOps_nil, ev, absV, absS, putD, Slots.put, Slots.get, if_true, if_false, true_and, ↓ap_slice, pop_slice, evO, pSliceS_ii Tryd.underlying9, pSliceS, bndA_int, ↓ap_binOp, pop_binOp, isNilC_tmp, cond_false, pBinX_str, pS_add, ↓ap_move, pop_move, ↓ap_indexAddrL, apL_mk, pIndexAddr_slice Tryd.underlying23 sz35, ↓ap_fieldAddr, pop_fieldAddr, fa35_1, ↓ap_loadL, pLoad_one ag9, isNilC_str, ↓ap_assign, pop_assign, lv_str, Int.toNat_natCast, e1]
      rw [hcut]
      repeat (with_reducible refine And.intro ?_ ?_; · first | trivial | omega | (simp only [List.length_append, List.length_cons, List.length_nil]; omega))
      change Awp _ _ _ _ _ _ _
      -- region 5  law.go:61
      refine awp_r [3, 4, 5, 6, 7] (by rfl) ?_
      simp (decide := true) only [aOps_nil, ev, absV, absS, putD, Slots.put, Slots.get, Slots.keep, if_true, if_false, true_and, ↓ap_move, pop_move, ↓ap_binOp, pop_binOp, isNilC_int, cond_false, pBinX_int, pI_add, ↓ap_assign, pop_assign]
      try simp (disch := omega) only [wrap_i64]
      try simp only [thenA_normal]
      exact ⟨⟨i + 1, out ++ [lettE.getD t.kind.toNat 0] ++ t.text ++ [124]⟩, rfl, Sub.refl _, ⟨hi, hnx.symm, by simp only [List.length_append, List.length_cons, List.length_nil]; omega⟩, by simp only; omega⟩
  · try simp only [decide_eq_false_iff_not] at hb1
    refine awp_exit ?_
    change Awp _ _ _ _ _ _ _
    -- region 9  law.go:67
    refine awp_dseq_tail 3 [2, 3] mixed (by kernel_rfl) (by rfl) (by rfl) fun K hK => ?_
    simp (decide := true) only [ev, putD, Slots.put, Slots.get, if_true, if_false, true_and, ↓ap_move, pop_move, ↓ap_loadL, apL_mk, pLoad_agg ag28 sz28, ↓ap_assign, pop_assign, rd_any, cellsAt, List.getD_cons_zero, List.getD_cons_succ, Nat.zero_add, Nat.reduceAdd, lv_int, allLive, Bool.and_true]
    refine aOps_store (by rfl) (by rfl) (by repeat (first | exact AHeap.set_same _ _ _ | assumption | refine (AHeap.set_ne _ _ (by first | assumption | exact Ne.symm (by assumption))).trans ?_)) sz28 (by rfl) (by rfl) (by first | exact Nat.le_refl _ | decide | (simp; done) | (simp; omega)) (Nat.zero_le _) (by rfl) ?_
    simp only [AVal.cells]
    simp (decide := true) only [aOps_nil, ev, putD, Slots.get, Slots.keep, if_true, if_false, setAt, List.set_cons_zero, List.set_cons_succ, Nat.zero_add, Nat.reduceAdd]
    apply hK; clear hK K
    refine awp_ret ?_
    refine retA_ret h (by repeat (first | exact Sub.refl _ | assumption | refine Sub.trans_set ?_ (by assumption))) (?_) ?_
    · simp (decide := true) only [resPre, resV_tmp, resV_cell, Slots.get, if_true, if_false, and_true, resV_tmp, resV_cell, pLoad_agg ag28 sz28, rd_set, cellsAt, List.getD_cons_zero, List.getD_cons_succ, Nat.zero_add, Nat.reduceAdd, lv_int, allLive, Bool.and_true, cellsAt, List.getD_cons_zero, List.getD_cons_succ, Nat.zero_add, Nat.reduceAdd, lv_int, allLive, Bool.and_true]
    
    simp (decide := true) only [Slots.get, if_true, if_false, and_true, resOfG_two, resV_tmp, resV_cell, pLoad_agg ag28 sz28, rd_set, cellsAt, List.getD_cons_zero, List.getD_cons_succ, Nat.zero_add, Nat.reduceAdd, lv_int, allLive, Bool.and_true, cellsAt, List.getD_cons_zero, List.getD_cons_succ, Nat.zero_add, Nat.reduceAdd, lv_int, allLive, Bool.and_true, faultA]
    rw [hsE, ← i2, List.drop_eq_nil_of_le (by omega)]
    rfl
theorem sh1 : showE [109, 111, 118, 101, 32, 45, 49, 46, 53, 48, 32, 116, 111, 32, 65, 45, 49, 44, 32, 98, 40, 50, 41, 46] = ([87, 77, 79, 86, 69, 124, 78, 45, 49, 46, 53, 48, 124, 87, 84, 79, 124, 87, 65, 45, 49, 124, 87, 66, 124, 83, 40, 124, 78, 50, 124, 83, 41, 124, 46, 46, 124], ⟨0, 0, 0⟩) := by kernel_rfl
theorem sh2 : showE [48, 53, 32, 88, 32, 80, 73, 67, 32, 57, 40, 51, 41, 118, 57, 57, 46] = ([78, 48, 53, 124, 87, 88, 124, 87, 80, 73, 67, 124, 80, 57, 40, 51, 41, 86, 57, 57, 124, 46, 46, 124], ⟨0, 0, 0⟩) := by kernel_rfl
theorem sh3 : showE [65, 32, 45, 32, 49, 32, 42, 42, 32, 46, 53, 32, 60, 61, 32, 34, 66, 34, 34, 67, 34] = ([87, 65, 124, 83, 45, 124, 78, 49, 124, 83, 42, 42, 124, 78, 46, 53, 124, 83, 60, 61, 124, 81, 66, 34, 67, 124], ⟨0, 0, 0⟩) := by kernel_rfl
theorem sh4 : showE [61, 61, 49, 65, 61, 61, 32, 66, 89, 32, 55, 46] = ([61, 61, 61, 124, 87, 49, 65, 124, 61, 61, 61, 124, 87, 66, 89, 124, 78, 55, 124, 46, 46, 124], ⟨0, 0, 0⟩) := by kernel_rfl
theorem sh5 : (showE [88, 32, 65, 45, 44, 32, 89]).2 = ⟨4, 1, 14⟩ := by kernel_rfl
theorem sh6 : (showE [34, 34]).2 = ⟨4, 1, 12⟩ := by kernel_rfl
theorem sh7 : (showE [49, 45, 50]).2 = ⟨4, 1, 12⟩ := by kernel_rfl
theorem sh8 : (showE [80, 73, 67, 32, 46]).2 = ⟨4, 1, 16⟩ := by kernel_rfl
theorem sh9 : (showE [80, 73, 67, 32, 65, 34, 66, 34]).2 = ⟨4, 1, 16⟩ := by kernel_rfl
theorem c_showV (w₀ : World) (hm : MaxL w₀) (h : AHeap) (s : Str) (hl : s.length ≤ 1000000) {a : Str} {f : FaultC} (hs : showE s = (a, f)) : ACall Tryd.prog w₀ 12 [.str s] h (fun v h' => v = .tuple [.str a, faultA f] ∧ h' = h) := by
  have := c_show w₀ hm h s hl
  rw [hs] at this
  exact this
theorem c_showF (w₀ : World) (hm : MaxL w₀) (h : AHeap) (s : Str) (hl : s.length ≤ 1000000) {f : FaultC} (hs : (showE s).2 = f) : ACall Tryd.prog w₀ 12 [.str s] h (fun v h' => v = .tuple [.str (showE s).1, faultA f] ∧ h' = h) := by
  have := c_show w₀ hm h s hl
  rw [hs] at this
  exact this
set_option maxHeartbeats 2000000 in
theorem c_lives03 (w₀ : World) (hm : MaxL w₀) (h : AHeap) : ACall Tryd.prog w₀ 6 [] h (fun v h' => v = .bool true ∧ h' = h) := by
  refine acall_intro (n := 117) (rs := [.tmp 0]) Tryd.func6 rfl rfl rfl rfl (Nat.le_of_ble_eq_true rfl) ?_
  simp only [initSlots]
  -- region 0  law.go:71
  refine awp_rseq [] (by rfl) fun K hK => ?_
  simp (decide := true) only [aOps_nil, ev, absV, absS, putD, Slots.put, Slots.keep, if_false, true_and, ↓ap_assign, pop_assign]
  apply hK; clear hK K
  -- region 1  law.go:72
  refine awp_rseq [1, 2] (by rfl) fun K hK => ?_
  refine aOps_callV (V := .tuple [.str [87, 77, 79, 86, 69, 124, 78, 45, 49, 46, 53, 48, 124, 87, 84, 79, 124, 87, 65, 45, 49, 124, 87, 66, 124, 83, 40, 124, 78, 50, 124, 83, 41, 124, 46, 46, 124], faultA ⟨0, 0, 0⟩]) (by rfl) (by rfl) (c_showV w₀ hm _ _ (by decide) sh1) ?_
  simp (decide := true) only [ev, putD, Slots.put, Slots.get, if_true, if_false, true_and, ↓ap_move, pop_move, ↓ap_extract, pop_extract, pExt_tuple, List.getD_cons_zero, List.getD_cons_succ, List.getD_cons_zero, List.getD_cons_succ, faultA]
  refine aOps_alloc ze28 (cs := [.int .i64 0, .int .i64 0, .int .i64 0]) (by rfl) fun k1q4 hk1q4 => ?_
  try have hf_1q4 : h k1q4 = none := by first | assumption | (simp only [AHeap.set_none] at hk1q4; simp only [hk1q4])
  simp (decide := true) only [ev, putD, Slots.put, Slots.get, if_true, if_false, true_and, ↓ap_assign, pop_assign]
  refine aOps_store (by rfl) (by rfl) (by repeat (first | exact AHeap.set_same _ _ _ | assumption | refine (AHeap.set_ne _ _ (by first | assumption | exact Ne.symm (by assumption))).trans ?_)) sz28 (by rfl) (by rfl) (by first | exact Nat.le_refl _ | decide | (simp; done) | (simp; omega)) (Nat.zero_le _) (by rfl) ?_
  simp only [AHeap.set_set, AVal.cells]
  simp (decide := true) only [aOps_nil, ev, putD, Slots.get, Slots.keep, if_true, if_false, setAt, List.set_cons_zero, List.set_cons_succ, Nat.zero_add, Nat.reduceAdd]
  apply hK; clear hK K
  -- region 2  law.go:73
  refine awp_rseq [1, 2, 3, 4] (by rfl) fun K hK => ?_
  refine aOps_callV (V := .tuple [.str [78, 48, 53, 124, 87, 88, 124, 87, 80, 73, 67, 124, 80, 57, 40, 51, 41, 86, 57, 57, 124, 46, 46, 124], faultA ⟨0, 0, 0⟩]) (by rfl) (by rfl) (c_showV w₀ hm _ _ (by decide) sh2) ?_
  simp (decide := true) only [ev, putD, Slots.put, Slots.get, if_true, if_false, true_and, ↓ap_move, pop_move, ↓ap_extract, pop_extract, pExt_tuple, List.getD_cons_zero, List.getD_cons_succ, List.getD_cons_zero, List.getD_cons_succ, faultA]
  refine aOps_alloc ze28 (cs := [.int .i64 0, .int .i64 0, .int .i64 0]) (by rfl) fun k2q4 hk2q4 => ?_
  have ne_2q4_1q4 : k2q4 ≠ k1q4 := by simp only [AHeap.set_none] at hk2q4; simp only [hk2q4, ne_eq, not_false_eq_true]
  try have hf_2q4 : h k2q4 = none := by first | assumption | (simp only [AHeap.set_none] at hk2q4; simp only [hk2q4])
  simp (decide := true) only [ev, putD, Slots.put, Slots.get, if_true, if_false, true_and, ↓ap_assign, pop_assign]
  refine aOps_store (by rfl) (by rfl) (by repeat (first | exact AHeap.set_same _ _ _ | assumption | refine (AHeap.set_ne _ _ (by first | assumption | exact Ne.symm (by assumption))).trans ?_)) sz28 (by rfl) (by rfl) (by first | exact Nat.le_refl _ | decide | (simp; done) | (simp; omega)) (Nat.zero_le _) (by rfl) ?_
  simp only [AHeap.set_set, AVal.cells]
  simp (decide := true) only [aOps_nil, ev, putD, Slots.get, Slots.keep, if_true, if_false, setAt, List.set_cons_zero, List.set_cons_succ, Nat.zero_add, Nat.reduceAdd]
  apply hK; clear hK K
  -- region 3  law.go:74
  refine awp_rseq [1, 2, 3, 4, 5, 6] (by rfl) fun K hK => ?_
  refine aOps_callV (V := .tuple [.str [87, 65, 124, 83, 45, 124, 78, 49, 124, 83, 42, 42, 124, 78, 46, 53, 124, 83, 60, 61, 124, 81, 66, 34, 67, 124], faultA ⟨0, 0, 0⟩]) (by rfl) (by rfl) (c_showV w₀ hm _ _ (by decide) sh3) ?_
  simp (decide := true) only [ev, putD, Slots.put, Slots.get, if_true, if_false, true_and, ↓ap_move, pop_move, ↓ap_extract, pop_extract, pExt_tuple, List.getD_cons_zero, List.getD_cons_succ, List.getD_cons_zero, List.getD_cons_succ, faultA]
  refine aOps_alloc ze28 (cs := [.int .i64 0, .int .i64 0, .int .i64 0]) (by rfl) fun k3q4 hk3q4 => ?_
  have ne_3q4_1q4 : k3q4 ≠ k1q4 := by simp only [AHeap.set_none] at hk3q4; simp only [hk3q4, ne_eq, not_false_eq_true]
  have ne_3q4_2q4 : k3q4 ≠ k2q4 := by simp only [AHeap.set_none] at hk3q4; simp only [hk3q4, ne_eq, not_false_eq_true]
  try have hf_3q4 : h k3q4 = none := by first | assumption | (simp only [AHeap.set_none] at hk3q4; simp only [hk3q4])
  simp (decide := true) only [ev, putD, Slots.put, Slots.get, if_true, if_false, true_and, ↓ap_assign, pop_assign]
  refine aOps_store (by rfl) (by rfl) (by repeat (first | exact AHeap.set_same _ _ _ | assumption | refine (AHeap.set_ne _ _ (by first | assumption | exact Ne.symm (by assumption))).trans ?_)) sz28 (by rfl) (by rfl) (by first | exact Nat.le_refl _ | decide | (simp; done) | (simp; omega)) (Nat.zero_le _) (by rfl) ?_
  simp only [AHeap.set_set, AVal.cells]
  simp (decide := true) only [aOps_nil, ev, putD, Slots.get, Slots.keep, if_true, if_false, setAt, List.set_cons_zero, List.set_cons_succ, Nat.zero_add, Nat.reduceAdd]
  apply hK; clear hK K
  -- region 4  law.go:75
  refine awp_rseq [1, 2, 3, 4, 5, 6, 7, 8] (by rfl) fun K hK => ?_
  refine aOps_callV (V := .tuple [.str [61, 61, 61, 124, 87, 49, 65, 124, 61, 61, 61, 124, 87, 66, 89, 124, 78, 55, 124, 46, 46, 124], faultA ⟨0, 0, 0⟩]) (by rfl) (by rfl) (c_showV w₀ hm _ _ (by decide) sh4) ?_
  simp (decide := true) only [ev, putD, Slots.put, Slots.get, if_true, if_false, true_and, ↓ap_move, pop_move, ↓ap_extract, pop_extract, pExt_tuple, List.getD_cons_zero, List.getD_cons_succ, List.getD_cons_zero, List.getD_cons_succ, faultA]
  refine aOps_alloc ze28 (cs := [.int .i64 0, .int .i64 0, .int .i64 0]) (by rfl) fun k4q4 hk4q4 => ?_
  have ne_4q4_1q4 : k4q4 ≠ k1q4 := by simp only [AHeap.set_none] at hk4q4; simp only [hk4q4, ne_eq, not_false_eq_true]
  have ne_4q4_2q4 : k4q4 ≠ k2q4 := by simp only [AHeap.set_none] at hk4q4; simp only [hk4q4, ne_eq, not_false_eq_true]
  have ne_4q4_3q4 : k4q4 ≠ k3q4 := by simp only [AHeap.set_none] at hk4q4; simp only [hk4q4, ne_eq, not_false_eq_true]
  try have hf_4q4 : h k4q4 = none := by first | assumption | (simp only [AHeap.set_none] at hk4q4; simp only [hk4q4])
  simp (decide := true) only [ev, putD, Slots.put, Slots.get, if_true, if_false, true_and, ↓ap_assign, pop_assign]
  refine aOps_store (by rfl) (by rfl) (by repeat (first | exact AHeap.set_same _ _ _ | assumption | refine (AHeap.set_ne _ _ (by first | assumption | exact Ne.symm (by assumption))).trans ?_)) sz28 (by rfl) (by rfl) (by first | exact Nat.le_refl _ | decide | (simp; done) | (simp; omega)) (Nat.zero_le _) (by rfl) ?_
  simp only [AHeap.set_set, AVal.cells]
  simp (decide := true) only [aOps_nil, ev, putD, Slots.get, Slots.keep, if_true, if_false, setAt, List.set_cons_zero, List.set_cons_succ, Nat.zero_add, Nat.reduceAdd]
  apply hK; clear hK K
  -- region 5  law.go:76
  refine awp_rseq [1, 2, 3, 4, 5, 6, 7, 8, 10] (by rfl) fun K hK => ?_
  refine aOps_callV (V := .tuple [.str (showE [88, 32, 65, 45, 44, 32, 89]).1, faultA ⟨4, 1, 14⟩]) (by rfl) (by rfl) (c_showF w₀ hm _ _ (by decide) sh5) ?_
  simp (decide := true) only [ev, putD, Slots.put, Slots.get, if_true, if_false, true_and, ↓ap_move, pop_move, ↓ap_extract, pop_extract, pExt_tuple, List.getD_cons_zero, List.getD_cons_succ, List.getD_cons_zero, List.getD_cons_succ, faultA]
  refine aOps_alloc ze28 (cs := [.int .i64 0, .int .i64 0, .int .i64 0]) (by rfl) fun k5q4 hk5q4 => ?_
  have ne_5q4_1q4 : k5q4 ≠ k1q4 := by simp only [AHeap.set_none] at hk5q4; simp only [hk5q4, ne_eq, not_false_eq_true]
  have ne_5q4_2q4 : k5q4 ≠ k2q4 := by simp only [AHeap.set_none] at hk5q4; simp only [hk5q4, ne_eq, not_false_eq_true]
  have ne_5q4_3q4 : k5q4 ≠ k3q4 := by simp only [AHeap.set_none] at hk5q4; simp only [hk5q4, ne_eq, not_false_eq_true]
  have ne_5q4_4q4 : k5q4 ≠ k4q4 := by simp only [AHeap.set_none] at hk5q4; simp only [hk5q4, ne_eq, not_false_eq_true]
  try have hf_5q4 : h k5q4 = none := by first | assumption | (simp only [AHeap.set_none] at hk5q4; simp only [hk5q4])
  simp (decide := true) only [ev, putD, Slots.put, Slots.get, if_true, if_false, true_and, ↓ap_assign, pop_assign]
  refine aOps_store (by rfl) (by rfl) (by repeat (first | exact AHeap.set_same _ _ _ | assumption | refine (AHeap.set_ne _ _ (by first | assumption | exact Ne.symm (by assumption))).trans ?_)) sz28 (by rfl) (by rfl) (by first | exact Nat.le_refl _ | decide | (simp; done) | (simp; omega)) (Nat.zero_le _) (by rfl) ?_
  simp only [AHeap.set_set, AVal.cells]
  simp (decide := true) only [aOps_nil, ev, putD, Slots.get, Slots.keep, if_true, if_false, setAt, List.set_cons_zero, List.set_cons_succ, Nat.zero_add, Nat.reduceAdd]
  apply hK; clear hK K
  -- region 6  law.go:77
  refine awp_rseq [1, 2, 3, 4, 5, 6, 7, 8, 10, 12] (by rfl) fun K hK => ?_
  refine aOps_callV (V := .tuple [.str (showE [34, 34]).1, faultA ⟨4, 1, 12⟩]) (by rfl) (by rfl) (c_showF w₀ hm _ _ (by decide) sh6) ?_
  simp (decide := true) only [ev, putD, Slots.put, Slots.get, if_true, if_false, true_and, ↓ap_move, pop_move, ↓ap_extract, pop_extract, pExt_tuple, List.getD_cons_zero, List.getD_cons_succ, List.getD_cons_zero, List.getD_cons_succ, faultA]
  refine aOps_alloc ze28 (cs := [.int .i64 0, .int .i64 0, .int .i64 0]) (by rfl) fun k6q4 hk6q4 => ?_
  have ne_6q4_1q4 : k6q4 ≠ k1q4 := by simp only [AHeap.set_none] at hk6q4; simp only [hk6q4, ne_eq, not_false_eq_true]
  have ne_6q4_2q4 : k6q4 ≠ k2q4 := by simp only [AHeap.set_none] at hk6q4; simp only [hk6q4, ne_eq, not_false_eq_true]
  have ne_6q4_3q4 : k6q4 ≠ k3q4 := by simp only [AHeap.set_none] at hk6q4; simp only [hk6q4, ne_eq, not_false_eq_true]
  have ne_6q4_4q4 : k6q4 ≠ k4q4 := by simp only [AHeap.set_none] at hk6q4; simp only [hk6q4, ne_eq, not_false_eq_true]
  have ne_6q4_5q4 : k6q4 ≠ k5q4 := by simp only [AHeap.set_none] at hk6q4; simp only [hk6q4, ne_eq, not_false_eq_true]
  try have hf_6q4 : h k6q4 = none := by first | assumption | (simp only [AHeap.set_none] at hk6q4; simp only [hk6q4])
  simp (decide := true) only [ev, putD, Slots.put, Slots.get, if_true, if_false, true_and, ↓ap_assign, pop_assign]
  refine aOps_store (by rfl) (by rfl) (by repeat (first | exact AHeap.set_same _ _ _ | assumption | refine (AHeap.set_ne _ _ (by first | assumption | exact Ne.symm (by assumption))).trans ?_)) sz28 (by rfl) (by rfl) (by first | exact Nat.le_refl _ | decide | (simp; done) | (simp; omega)) (Nat.zero_le _) (by rfl) ?_
  simp only [AHeap.set_set, AVal.cells]
  simp (decide := true) only [aOps_nil, ev, putD, Slots.get, Slots.keep, if_true, if_false, setAt, List.set_cons_zero, List.set_cons_succ, Nat.zero_add, Nat.reduceAdd]
  apply hK; clear hK K
  -- region 7  law.go:78
  refine awp_rseq [1, 2, 3, 4, 5, 6, 7, 8, 10, 12, 14] (by rfl) fun K hK => ?_
  refine aOps_callV (V := .tuple [.str (showE [49, 45, 50]).1, faultA ⟨4, 1, 12⟩]) (by rfl) (by rfl) (c_showF w₀ hm _ _ (by decide) sh7) ?_
  simp (decide := true) only [ev, putD, Slots.put, Slots.get, if_true, if_false, true_and, ↓ap_move, pop_move, ↓ap_extract, pop_extract, pExt_tuple, List.getD_cons_zero, List.getD_cons_succ, List.getD_cons_zero, List.getD_cons_succ, faultA]
  refine aOps_alloc ze28 (cs := [.int .i64 0, .int .i64 0, .int .i64 0]) (by rfl) fun k7q4 hk7q4 => ?_
  have ne_7q4_1q4 : k7q4 ≠ k1q4 := by simp only [AHeap.set_none] at hk7q4; simp only [hk7q4, ne_eq, not_false_eq_true]
  have ne_7q4_2q4 : k7q4 ≠ k2q4 := by simp only [AHeap.set_none] at hk7q4; simp only [hk7q4, ne_eq, not_false_eq_true]
  have ne_7q4_3q4 : k7q4 ≠ k3q4 := by simp only [AHeap.set_none] at hk7q4; simp only [hk7q4, ne_eq, not_false_eq_true]
  have ne_7q4_4q4 : k7q4 ≠ k4q4 := by simp only [AHeap.set_none] at hk7q4; simp only [hk7q4, ne_eq, not_false_eq_true]
  have ne_7q4_5q4 : k7q4 ≠ k5q4 := by simp only [AHeap.set_none] at hk7q4; simp only [hk7q4, ne_eq, not_false_eq_true]
  have ne_7q4_6q4 : k7q4 ≠ k6q4 := by simp only [AHeap.set_none] at hk7q4; simp only [hk7q4, ne_eq, not_false_eq_true]
  try have hf_7q4 : h k7q4 = none := by first | assumption | (simp only [AHeap.set_none] at hk7q4; simp only [hk7q4])
  simp (decide := true) only [ev, putD, Slots.put, Slots.get, if_true, if_false, true_and, ↓ap_assign, pop_assign]
  refine aOps_store (by rfl) (by rfl) (by repeat (first | exact AHeap.set_same _ _ _ | assumption | refine (AHeap.set_ne _ _ (by first | assumption | exact Ne.symm (by assumption))).trans ?_)) sz28 (by rfl) (by rfl) (by first | exact Nat.le_refl _ | decide | (simp; done) | (simp; omega)) (Nat.zero_le _) (by rfl) ?_
  simp only [AHeap.set_set, AVal.cells]
  simp (decide := true) only [aOps_nil, ev, putD, Slots.get, Slots.keep, if_true, if_false, setAt, List.set_cons_zero, List.set_cons_succ, Nat.zero_add, Nat.reduceAdd]
  apply hK; clear hK K
  -- region 8  law.go:79
  refine awp_rseq [1, 2, 3, 4, 5, 6, 7, 8, 10, 12, 14, 16] (by rfl) fun K hK => ?_
  refine aOps_callV (V := .tuple [.str (showE [80, 73, 67, 32, 46]).1, faultA ⟨4, 1, 16⟩]) (by rfl) (by rfl) (c_showF w₀ hm _ _ (by decide) sh8) ?_
  simp (decide := true) only [ev, putD, Slots.put, Slots.get, if_true, if_false, true_and, ↓ap_move, pop_move, ↓ap_extract, pop_extract, pExt_tuple, List.getD_cons_zero, List.getD_cons_succ, List.getD_cons_zero, List.getD_cons_succ, faultA]
  refine aOps_alloc ze28 (cs := [.int .i64 0, .int .i64 0, .int .i64 0]) (by rfl) fun k8q4 hk8q4 => ?_
  have ne_8q4_1q4 : k8q4 ≠ k1q4 := by simp only [AHeap.set_none] at hk8q4; simp only [hk8q4, ne_eq, not_false_eq_true]
  have ne_8q4_2q4 : k8q4 ≠ k2q4 := by simp only [AHeap.set_none] at hk8q4; simp only [hk8q4, ne_eq, not_false_eq_true]
  have ne_8q4_3q4 : k8q4 ≠ k3q4 := by simp only [AHeap.set_none] at hk8q4; simp only [hk8q4, ne_eq, not_false_eq_true]
  have ne_8q4_4q4 : k8q4 ≠ k4q4 := by simp only [AHeap.set_none] at hk8q4; simp only [hk8q4, ne_eq, not_false_eq_true]
  have ne_8q4_5q4 : k8q4 ≠ k5q4 := by simp only [AHeap.set_none] at hk8q4; simp only [hk8q4, ne_eq, not_false_eq_true]
  have ne_8q4_6q4 : k8q4 ≠ k6q4 := by simp only [AHeap.set_none] at hk8q4; simp only [hk8q4, ne_eq, not_false_eq_true]
  have ne_8q4_7q4 : k8q4 ≠ k7q4 := by simp only [AHeap.set_none] at hk8q4; simp only [hk8q4, ne_eq, not_false_eq_true]
  try have hf_8q4 : h k8q4 = none := by first | assumption | (simp only [AHeap.set_none] at hk8q4; simp only [hk8q4])
  simp (decide := true) only [ev, putD, Slots.put, Slots.get, if_true, if_false, true_and, ↓ap_assign, pop_assign]
  refine aOps_store (by rfl) (by rfl) (by repeat (first | exact AHeap.set_same _ _ _ | assumption | refine (AHeap.set_ne _ _ (by first | assumption | exact Ne.symm (by assumption))).trans ?_)) sz28 (by rfl) (by rfl) (by first | exact Nat.le_refl _ | decide | (simp; done) | (simp; omega)) (Nat.zero_le _) (by rfl) ?_
  simp only [AHeap.set_set, AVal.cells]
  simp (decide := true) only [aOps_nil, ev, putD, Slots.get, Slots.keep, if_true, if_false, setAt, List.set_cons_zero, List.set_cons_succ, Nat.zero_add, Nat.reduceAdd]
  apply hK; clear hK K
  -- region 9  law.go:80
  refine awp_rseq [1, 2, 3, 4, 5, 6, 7, 8, 10, 12, 14, 16, 18] (by rfl) fun K hK => ?_
  refine aOps_callV (V := .tuple [.str (showE [80, 73, 67, 32, 65, 34, 66, 34]).1, faultA ⟨4, 1, 16⟩]) (by rfl) (by rfl) (c_showF w₀ hm _ _ (by decide) sh9) ?_
  simp (decide := true) only [ev, putD, Slots.put, Slots.get, if_true, if_false, true_and, ↓ap_move, pop_move, ↓ap_extract, pop_extract, pExt_tuple, List.getD_cons_zero, List.getD_cons_succ, List.getD_cons_zero, List.getD_cons_succ, faultA]
  refine aOps_alloc ze28 (cs := [.int .i64 0, .int .i64 0, .int .i64 0]) (by rfl) fun k9q4 hk9q4 => ?_
  have ne_9q4_1q4 : k9q4 ≠ k1q4 := by simp only [AHeap.set_none] at hk9q4; simp only [hk9q4, ne_eq, not_false_eq_true]
  have ne_9q4_2q4 : k9q4 ≠ k2q4 := by simp only [AHeap.set_none] at hk9q4; simp only [hk9q4, ne_eq, not_false_eq_true]
  have ne_9q4_3q4 : k9q4 ≠ k3q4 := by simp only [AHeap.set_none] at hk9q4; simp only [hk9q4, ne_eq, not_false_eq_true]
  have ne_9q4_4q4 : k9q4 ≠ k4q4 := by simp only [AHeap.set_none] at hk9q4; simp only [hk9q4, ne_eq, not_false_eq_true]
  have ne_9q4_5q4 : k9q4 ≠ k5q4 := by simp only [AHeap.set_none] at hk9q4; simp only [hk9q4, ne_eq, not_false_eq_true]
  have ne_9q4_6q4 : k9q4 ≠ k6q4 := by simp only [AHeap.set_none] at hk9q4; simp only [hk9q4, ne_eq, not_false_eq_true]
  have ne_9q4_7q4 : k9q4 ≠ k7q4 := by simp only [AHeap.set_none] at hk9q4; simp only [hk9q4, ne_eq, not_false_eq_true]
  have ne_9q4_8q4 : k9q4 ≠ k8q4 := by simp only [AHeap.set_none] at hk9q4; simp only [hk9q4, ne_eq, not_false_eq_true]
  try have hf_9q4 : h k9q4 = none := by first | assumption | (simp only [AHeap.set_none] at hk9q4; simp only [hk9q4])
  simp (decide := true) only [ev, putD, Slots.put, Slots.get, if_true, if_false, true_and, ↓ap_assign, pop_assign]
  refine aOps_store (by rfl) (by rfl) (by repeat (first | exact AHeap.set_same _ _ _ | assumption | refine (AHeap.set_ne _ _ (by first | assumption | exact Ne.symm (by assumption))).trans ?_)) sz28 (by rfl) (by rfl) (by first | exact Nat.le_refl _ | decide | (simp; done) | (simp; omega)) (Nat.zero_le _) (by rfl) ?_
  simp only [AHeap.set_set, AVal.cells]
  simp (decide := true) only [aOps_nil, ev, putD, Slots.get, Slots.keep, if_true, if_false, setAt, List.set_cons_zero, List.set_cons_succ, Nat.zero_add, Nat.reduceAdd]
  apply hK; clear hK K
  -- region 10  law.go:81
  refine awp_rseq [1, 2, 3, 4, 5, 6, 7, 8, 10, 12, 14, 16, 18, 19] (by rfl) fun K hK => ?_
  simp (decide := true) only [ev, absV, absS, putD, Slots.put, Slots.get, if_false, true_and, ↓ap_build, ↓pop_buildL, bld28_, evP, List.map_nil]
  refine aOps_alloc ze28 (cs := [.int .i64 0, .int .i64 0, .int .i64 0]) (by rfl) fun k10q1 hk10q1 => ?_
  have ne_10q1_1q4 : k10q1 ≠ k1q4 := by simp only [AHeap.set_none] at hk10q1; simp only [hk10q1, ne_eq, not_false_eq_true]
  have ne_10q1_2q4 : k10q1 ≠ k2q4 := by simp only [AHeap.set_none] at hk10q1; simp only [hk10q1, ne_eq, not_false_eq_true]
  have ne_10q1_3q4 : k10q1 ≠ k3q4 := by simp only [AHeap.set_none] at hk10q1; simp only [hk10q1, ne_eq, not_false_eq_true]
  have ne_10q1_4q4 : k10q1 ≠ k4q4 := by simp only [AHeap.set_none] at hk10q1; simp only [hk10q1, ne_eq, not_false_eq_true]
  have ne_10q1_5q4 : k10q1 ≠ k5q4 := by simp only [AHeap.set_none] at hk10q1; simp only [hk10q1, ne_eq, not_false_eq_true]
  have ne_10q1_6q4 : k10q1 ≠ k6q4 := by simp only [AHeap.set_none] at hk10q1; simp only [hk10q1, ne_eq, not_false_eq_true]
  have ne_10q1_7q4 : k10q1 ≠ k7q4 := by simp only [AHeap.set_none] at hk10q1; simp only [hk10q1, ne_eq, not_false_eq_true]
  have ne_10q1_8q4 : k10q1 ≠ k8q4 := by simp only [AHeap.set_none] at hk10q1; simp only [hk10q1, ne_eq, not_false_eq_true]
  have ne_10q1_9q4 : k10q1 ≠ k9q4 := by simp only [AHeap.set_none] at hk10q1; simp only [hk10q1, ne_eq, not_false_eq_true]
  try have hf_10q1 : h k10q1 = none := by first | assumption | (simp only [AHeap.set_none] at hk10q1; simp only [hk10q1])
  refine aOps_store (by rfl) (by rfl) (by repeat (first | exact AHeap.set_same _ _ _ | assumption | refine (AHeap.set_ne _ _ (by first | assumption | exact Ne.symm (by assumption))).trans ?_)) sz28 (by rfl) (by rfl) (by first | exact Nat.le_refl _ | decide | (simp; done) | (simp; omega)) (Nat.zero_le _) (by rfl) ?_
  simp only [AHeap.set_set, AVal.cells]
  simp (decide := true) only [aOps_nil, ev, putD, Slots.put, Slots.get, Slots.keep, if_true, if_false, setAt, List.set_cons_zero, List.set_cons_succ, Nat.zero_add, Nat.reduceAdd]
  apply hK; clear hK K
  refine awp_seq ?_
  -- region 11  law.go:82
  refine awp_rseq [10, 12, 14, 16, 18, 90] (by kernel_rfl) fun K hK => ?_
  simp (decide := true) only [aOps_nil, ev, absV, absS, putD, Slots.put, Slots.get, Slots.keep, if_true, if_false, true_and, ↓ap_loadL, apL_mk, pLoad_agg ag28 sz28, ↓ap_binOp, pop_binOp, isNilC_tmp, cond_false, pBinX_agg, ne28, ↓ap_move, pop_move, ↓ag_loadL, agQL_some, agL_mk, agP, agQ_some, nthDst, gKnown_bool, guardB_bool_false, implies_true, decide_true, Bool.not_false, Bool.not_true, condV_true, Bool.and_true, ↓ag_binOp, ↓ap_pick, pop_pick, pPick_bool, pickV_and, ↓ag_move, isNilC_str, pBinX_str, pS_neq, rd_ne', ne_eq, not_false_eq_true, ne_2q4_1q4.symm, ne_3q4_1q4.symm, ne_3q4_2q4.symm, ne_4q4_1q4.symm, ne_4q4_2q4.symm, ne_4q4_3q4.symm, ne_5q4_1q4.symm, ne_5q4_2q4.symm, ne_5q4_3q4.symm, ne_5q4_4q4.symm, ne_6q4_1q4.symm, ne_6q4_2q4.symm, ne_6q4_3q4.symm, ne_6q4_4q4.symm, ne_7q4_1q4.symm, ne_7q4_2q4.symm, ne_7q4_3q4.symm, ne_7q4_4q4.symm, ne_8q4_1q4.symm, ne_8q4_2q4.symm, ne_8q4_3q4.symm, ne_8q4_4q4.symm, ne_9q4_1q4.symm, ne_9q4_2q4.symm, ne_9q4_3q4.symm, ne_9q4_4q4.symm, ne_10q1_1q4.symm, ne_10q1_2q4.symm, ne_10q1_3q4.symm, ne_10q1_4q4.symm, rd_any, cellsAt, List.getD_cons_zero, List.getD_cons_succ, Nat.zero_add, Nat.reduceAdd, lv_int, allLive, Bool.and_true]
  apply hK; clear hK K
  refine awp_cond (b := _) rfl (fun hb1 => ?_) (fun hb1 => ?_)
  · exact absurd hb1 (by decide)
  · try simp only at hb1
    refine awp_skip ?_
    change Awp _ _ _ _ _ _ _
    -- region 13  law.go:85
    refine awp_rseq [0] (by kernel_rfl) fun K hK => ?_
    simp (decide := true) only [aOps_nil, ev, absV, absS, putD, Slots.put, Slots.get, Slots.keep, if_true, if_false, true_and, ↓ap_loadL, apL_mk, pLoad_agg ag28 sz28, ↓ap_build, ↓pop_buildL, bld26_0_1, evP, List.map_cons, List.map_nil, bld28_0_1, ↓ap_binOp, pop_binOp, isNilC_tmp, cond_false, pBinX_agg, eq28, ↓ap_move, pop_move, ↓ag_loadL, agQL_some, agL_mk, agP, agQ_some, nthDst, gKnown_bool, guardB_bool_true, implies_true, decide_true, condV_true, Bool.and_true, ↓ag_build, ↓ag_binOp, ↓ap_pick, pop_pick, pPick_bool, pickV_and, ↓ap_assign, pop_assign, rd_ne', ne_eq, not_false_eq_true, ne_6q4_5q4.symm, ne_7q4_5q4.symm, ne_7q4_6q4.symm, ne_8q4_5q4.symm, ne_8q4_6q4.symm, ne_8q4_7q4.symm, ne_9q4_5q4.symm, ne_9q4_6q4.symm, ne_9q4_7q4.symm, ne_9q4_8q4.symm, ne_10q1_5q4.symm, ne_10q1_6q4.symm, ne_10q1_7q4.symm, ne_10q1_8q4.symm, ne_10q1_9q4.symm, rd_any, cellsAt, List.getD_cons_zero, List.getD_cons_succ, Nat.zero_add, Nat.reduceAdd, lv_int, allLive, Bool.and_true]
    apply hK; clear hK K
    refine awp_ret ?_
    refine retA_ret h (by repeat (first | exact Sub.refl _ | assumption | refine Sub.trans_set ?_ (by assumption))) (resPre_tmp (resPre_nil)) ?_
    simp (decide := true) only [Slots.get, if_true, and_true, resOf_one]
    all_goals first | rfl | exact ⟨rfl, rfl⟩ | (simp (decide := true) only [if_true, if_false, *]; done) | (trace_state; fail)
end Go.Proofs.YtmadddihphkmoaaDoor

/-
  Contracts: Same.
  Conditions: none.
-/
namespace Go.Proofs.YtmadddihphkmoaaDoor
open Go.AM
open Go.Proofs
open Go.Col
open Go.Tok
open Go.RowKit (Below)
set_option maxRecDepth 100000

def sameT (a b : TokC) : Bool := decide (a.kind = b.kind) && decide (a.text = b.text)
def sameE : List TokC → List TokC → Bool
  | [], [] => true
  | a :: l, b :: m => sameT a b && sameE l m
  | _, _ => false
theorem sameE_len : ∀ {l m : List TokC}, l.length ≠ m.length → sameE l m = false
  | [], [], h => absurd rfl h
  | [], _ :: _, _ => rfl
  | _ :: _, [], _ => rfl
  | a :: l, b :: m, h => by
    rw [sameE, sameE_len (l := l) (m := m) (fun e => h (by simp [e])), Bool.and_false]
theorem sameE_step {l m : List TokC} {i : Nat} (h1 : i < l.length) (h2 : i < m.length) : sameE (l.drop i) (m.drop i) = (sameT (l.getD i badT) (m.getD i badT) && sameE (l.drop (i + 1)) (m.drop (i + 1))) := by
  rw [List.drop_eq_getElem_cons h1, List.drop_eq_getElem_cons h2, sameE]
  simp [List.getD, h1, h2]
theorem c_same1 (w₀ : World) (h : AHeap) (a b : TokC) : ACall Tryd.prog w₀ 19 [.agg (tokC a), .agg (tokC b)] h (fun v h' => v = .bool (sameT a b) ∧ h' = h) := by
  unfold tokC
  have ek : decide ((a.kind.toNat : Int) = b.kind.toNat) = decide (a.kind = b.kind) := decide_eq_decide.2 ⟨fun q => UInt8.toNat_inj.1 (by omega), fun q => by rw [q]⟩
  refine acall_intro (n := 17) (rs := [.tmp 4]) Tryd.func19 rfl rfl rfl rfl (Nat.le_of_ble_eq_true rfl) ?_
  simp only [initSlots]
  -- region 0  tokens.go:264
  refine awp_rseq [2, 3] (by rfl) fun K hK => ?_
  refine aOps_box (by rfl) (by rfl) (by rfl) fun k0q0 hk0q0 => ?_
  try have hf_0q0 : h k0q0 = none := by first | assumption | (simp only [AHeap.set_none] at hk0q0; simp only [hk0q0])
  skip
  refine aOps_box (by rfl) (by rfl) (by rfl) fun k0q1 hk0q1 => ?_
  have ne_0q1_0q0 : k0q1 ≠ k0q0 := by simp only [AHeap.set_none] at hk0q1; simp only [hk0q1, ne_eq, not_false_eq_true]
  try have hf_0q1 : h k0q1 = none := by first | assumption | (simp only [AHeap.set_none] at hk0q1; simp only [hk0q1])
  skip
  simp (decide := true) only [aOps_nil, ev, absV, absS, putD, Slots.put, Slots.get, Slots.keep, if_true, if_false, true_and, ↓ap_assign, pop_assign, AVal.cells, Nat.zero_add]
  apply hK; clear hK K
  -- region 1  tokens.go:264
  refine awp_rseq [4] (by rfl) fun K hK => ?_
  simp (decide := true) only [aOps_nil, ev, absV, absS, putD, Slots.put, Slots.get, Slots.keep, if_true, if_false, true_and, ↓ap_fieldAddr, pop_fieldAddr, fa35_0, ↓ap_loadL, apL_mk, pLoad_one ag33, ↓ap_binOp, pop_binOp, isNilC_tmp, cond_false, pBinX_int, pI_eql, ↓ap_move, pop_move, ↓ag_fieldAddr, agP, agQ_some, nthDst, gKnown_bool, guardB_bool_true, implies_true, fa35_1, ↓ag_loadL, agQL_some, agL_mk, agL_ld1, pLoad_one ag9, ↓ag_binOp, cv_binl, cv_binr, cp_binl, cp_binr, pBinX_str, pS_eql, ↓ap_pick, pop_pick, pPick_bool, pickV_cond_l, pickV_and, ↓ap_assign, pop_assign, rd_ne', ne_eq, not_false_eq_true, ne_0q1_0q0.symm, rd_any, List.getD_cons_zero, List.getD_cons_succ, Nat.zero_add, lv_int, lv_str, ek]
  apply hK; clear hK K
  refine awp_ret ?_
  refine retA_ret h (by repeat (first | exact Sub.refl _ | assumption | refine Sub.trans_set ?_ (by assumption))) (resPre_tmp (resPre_nil)) ?_
  simp (decide := true) only [Slots.get, if_true, and_true, resOf_one]
  rfl
theorem c_equalFunc (w₀ : World) (h : AHeap) (v w : AVal) (l m : List TokC) (hv : IsL w₀ h 5 v (l.map tokC)) (hw : IsL w₀ h 5 w (m.map tokC)) (hl : l.length ≤ 1099511627776) :
    ACall Tryd.prog w₀ 18 [v, w, .func 19 []] h (fun r h' => r = .bool (sameE l m) ∧ h' = h) := by
  have hlv := hv.live
  have hlw := hw.live
  have nv := tok_len hv
  have nw := tok_len hw
  refine acall_intro (n := 32) (rs := [.tmp 6]) Tryd.func18 rfl rfl rfl rfl (Nat.le_of_ble_eq_true rfl) ?_
  simp only [initSlots]
  -- region 0  slices.go:37
  refine awp_rseq [0, 1, 2] (by rfl) fun K hK => ?_
  simp (decide := true) only [aOps_nil, ev, absV, absS, putD, Slots.put, Slots.keep, if_true, if_false, true_and, ↓ap_assign, pop_assign, Nat.zero_add, Nat.reduceAdd]
  apply hK; clear hK K
  refine awp_seq ?_
  -- region 1  slices.go:38
  refine awp_rseq [0, 1, 2, 14] (by rfl) fun K hK => ?_
  simp (decide := true) only [aOps_nil, ev, putD, Slots.put, Slots.get, Slots.keep, if_true, if_false, true_and, ↓ap_move, pop_move, ↓ap_len, pop_len, ↓ap_binOp, pop_binOp, isNilC_tmp, cond_false, pBinX_int, pI_neq, nv, nw]
  apply hK; clear hK K
  refine awp_cond (b := _) rfl (fun hb1 => ?_) (fun hb1 => ?_)
  · try simp only [decide_eq_false_iff_not, Bool.not_eq_true'] at hb1
    -- region 2  slices.go:39
    refine awp_rseq [6] (by rfl) fun K hK => ?_
    simp (decide := true) only [aOps_nil, ev, absV, absS, putD, Slots.put, Slots.keep, if_true, if_false, true_and, ↓ap_assign, pop_assign]
    apply hK; clear hK K
    refine awp_ret ?_
    try simp only [thenA_ret]
    refine retA_ret h (by repeat (first | exact Sub.refl _ | assumption | refine Sub.trans_set ?_ (by assumption))) (resPre_tmp (resPre_nil)) ?_
    simp (decide := true) only [Slots.get, if_true, and_true, resOf_one]
    rw [sameE_len (by omega)]
  · try simp only [decide_eq_true_eq, Bool.not_eq_false'] at hb1
    have hlen : l.length = m.length := by omega
    refine awp_skip ?_
    change Awp _ _ _ _ _ _ _
    refine awp_seq ?_
    -- region 3  slices.go:41
    refine awp_rseq [1, 2, 15, 16, 17] (by rfl) fun K hK => ?_
    simp (decide := true) only [aOps_nil, ev, absV, absS, putD, Slots.put, Slots.get, Slots.keep, if_true, if_false, true_and, ↓ap_move, pop_move, ↓ap_len, pop_len, nv]
    apply hK; clear hK K
    refine awp_block ?_
    refine awp_loopG [1, 2, 15, 16, 17] (fun i : Nat => [(1, w), (2, .func 19 []), (15, v), (16, .int .i64 l.length), (17, .int .i64 i)]) (fun i : Nat => h) (fun i : Nat => i ≤ l.length ∧ sameE (l.drop i) (m.drop i) = sameE l m) (fun i : Nat => l.length - i) 0 (by rfl) (Sub.refl _) ⟨Nat.zero_le _, rfl⟩ ?_
    rintro i ⟨hi, hq⟩
    -- region 4  slices.go:41
    refine awp_rseq [1, 2, 15, 16, 17, 18] (by rfl) fun K hK => ?_
    simp (decide := true) only [aOps_nil, ev, putD, Slots.put, Slots.get, Slots.keep, if_true, if_false, true_and, ↓ap_binOp, pop_binOp, isNilC_tmp, cond_false, pBinX_int, pI_lss]
    apply hK; clear hK K
    refine awp_seq (awp_cond (b := _) rfl (fun hb2 => ?_) (fun hb2 => ?_))
    · try simp only [decide_eq_true_eq] at hb2
      have hi' : i < l.length := by omega
      obtain ⟨lc, o, c, rfl⟩ := tok_open hv (by omega)
      obtain ⟨lc', o', c', rfl⟩ := tok_open hw (by omega)
      obtain ⟨e0, e1, e2, e3, e4⟩ := tok_at hv hi'
      obtain ⟨a, ha⟩ : ∃ a, a = l.getD i badT := ⟨_, rfl⟩
      obtain ⟨b, hb⟩ : ∃ b, b = m.getD i badT := ⟨_, rfl⟩
      have hst := sameE_step (l := l) (m := m) hi' (by omega)
      rw [hq] at hst
      rw [← ha] at e0 e1 e2 e3 e4 hst
      rw [← hb] at hst
      have e2' : rd w₀ h lc (o + i * 5 + 1 + 1) = .int .i64 a.line := e2
      have e3' : rd w₀ h lc (o + i * 5 + 1 + 1 + 1) = .int .i64 a.col := e3
      have e4' : rd w₀ h lc (o + i * 5 + 1 + 1 + 1 + 1) = .bool a.left := e4
      refine awp_skip ?_
      change Awp _ _ _ _ _ _ _
      refine awp_seq ?_
      refine awp_block ?_
      -- region 5  slices.go:41
      refine awp_rseq [1, 2, 7, 8, 15, 16, 17] (by rfl) fun K hK => ?_
      simp (decide := true) only [ev, putD, Slots.put, Slots.get, if_true, if_false, true_and, ↓ap_move, pop_move, ↓ap_indexAddrL, apL_mk, pIndexAddr_slice Tryd.underlying23 sz35, ↓ap_loadL, pLoad_agg ag35 sz35, cellsAt, lv_bool, lv_int, lv_str, allLive, Bool.and_true, e0, e1, e2', e3', e4', Int.toNat_natCast]
      repeat (with_reducible refine And.intro ?_ ?_; · first | trivial | omega | (intro hg; simp only [Bool.and_eq_true, Bool.or_eq_true, Bool.not_eq_true', Bool.and_eq_false_iff, Bool.or_eq_false_iff, Bool.not_eq_false', decide_eq_true_eq, decide_eq_false_iff_not, eqNil] at hg; omega) )
      refine aOps_alloc ze35 (cs := [.int .u8 0, .str [], .int .i64 0, .int .i64 0, .bool false]) (by rfl) fun k5q3 hk5q3 => ?_
      try have hf_5q3 : h k5q3 = none := by first | assumption | (simp only [AHeap.set_none] at hk5q3; simp only [hk5q3])
      simp (decide := true) only [ev, putD, Slots.put, Slots.get, if_true, if_false, true_and, ↓ap_assign, pop_assign]
      refine aOps_store (by rfl) (by rfl) (by repeat (first | exact AHeap.set_same _ _ _ | assumption | refine (AHeap.set_ne _ _ (by first | assumption | exact Ne.symm (by assumption))).trans ?_)) sz35 (by rfl) (by rfl) (by first | exact Nat.le_refl _ | decide | (simp; done) | (simp; omega)) (Nat.zero_le _) (by rfl) ?_
      simp only [AHeap.set_set, AVal.cells]
      simp (decide := true) only [aOps_nil, ev, putD, Slots.get, Slots.keep, if_true, if_false, setAt, List.set_cons_zero, List.set_cons_succ, Nat.zero_add, Nat.reduceAdd]
      apply hK; clear hK K
      obtain ⟨H, hH⟩ : ∃ H, H = h.set k5q3 ⟨[.int .u8 a.kind.toNat, .str a.text, .int .i64 a.line, .int .i64 a.col, .bool a.left], 0⟩ := ⟨_, rfl⟩
      have hsH : Sub h H := by rw [hH]; exact Sub.set hk5q3
      obtain ⟨d0, d1, d2, d3, d4⟩ := tok_at (hw.mono hsH) (i := i) (by omega)
      rw [← hb] at d0 d1 d2 d3 d4
      have d2' : rd w₀ H lc' (o' + i * 5 + 1 + 1) = .int .i64 b.line := d2
      have d3' : rd w₀ H lc' (o' + i * 5 + 1 + 1 + 1) = .int .i64 b.col := d3
      have d4' : rd w₀ H lc' (o' + i * 5 + 1 + 1 + 1 + 1) = .bool b.left := d4
      rw [hH] at d0 d1 d2' d3' d4'
      -- region 6  slices.go:42
      refine awp_rseq [1, 2, 8, 9, 15, 16, 17] (by rfl) fun K hK => ?_
      simp (decide := true) only [ev, putD, Slots.put, Slots.get, if_true, if_false, true_and, ↓ap_move, pop_move, ↓ap_indexAddrL, apL_mk, pIndexAddr_slice Tryd.underlying23 sz35, ↓ap_loadL, pLoad_agg ag35 sz35, cellsAt, lv_bool, lv_int, lv_str, allLive, Bool.and_true, d0, d1, d2', d3', d4', Int.toNat_natCast]
      repeat (with_reducible refine And.intro ?_ ?_; · first | trivial | omega | (intro hg; simp only [Bool.and_eq_true, Bool.or_eq_true, Bool.not_eq_true', Bool.and_eq_false_iff, Bool.or_eq_false_iff, Bool.not_eq_false', decide_eq_true_eq, decide_eq_false_iff_not, eqNil] at hg; omega) )
      refine aOps_alloc ze35 (cs := [.int .u8 0, .str [], .int .i64 0, .int .i64 0, .bool false]) (by rfl) fun k6q4 hk6q4 => ?_
      have ne_6q4_5q3 : k6q4 ≠ k5q3 := by simp only [AHeap.set_none] at hk6q4; simp only [hk6q4, ne_eq, not_false_eq_true]
      try have hf_6q4 : h k6q4 = none := by first | assumption | (simp only [AHeap.set_none] at hk6q4; simp only [hk6q4])
      refine aOps_store (by rfl) (by rfl) (by repeat (first | exact AHeap.set_same _ _ _ | assumption | refine (AHeap.set_ne _ _ (by first | assumption | exact Ne.symm (by assumption))).trans ?_)) sz35 (by rfl) (by rfl) (by first | exact Nat.le_refl _ | decide | (simp; done) | (simp; omega)) (Nat.zero_le _) (by rfl) ?_
      simp only [AHeap.set_set, AVal.cells]
      simp (decide := true) only [aOps_nil, ev, putD, Slots.put, Slots.get, Slots.keep, if_true, if_false, setAt, List.set_cons_zero, List.set_cons_succ, Nat.zero_add, Nat.reduceAdd]
      apply hK; clear hK K
      -- region 7  slices.go:43
      refine awp_rseq [1, 2, 15, 16, 17, 30] (by rfl) fun K hK => ?_
      simp (decide := true) only [ev, putD, Slots.put, Slots.get, if_true, if_false, true_and, ↓ap_move, pop_move, ↓ap_loadL, apL_mk, pLoad_agg ag35 sz35, rd_ne', ne_eq, not_false_eq_true, ne_6q4_5q3.symm, rd_any, cellsAt, List.getD_cons_zero, List.getD_cons_succ, Nat.zero_add, Nat.reduceAdd, lv_bool, lv_int, lv_str, allLive, Bool.and_true]
      refine aOps_callV (V := .bool (sameT a b)) (by rfl) (by rfl) (c_same1 w₀ _ a b) ?_
      simp (decide := true) only [aOps_nil, ev, putD, Slots.put, Slots.get, Slots.keep, if_true, if_false, true_and, ↓ap_unOp, pop_unOp, pU_not]
      apply hK; clear hK K
      refine awp_cond (b := _) rfl (fun hb3 => ?_) (fun hb3 => ?_)
      · try simp only [Bool.not_eq_true'] at hb3
        -- region 8  slices.go:44
        refine awp_rseq [6] (by rfl) fun K hK => ?_
        simp (decide := true) only [aOps_nil, ev, absV, absS, putD, Slots.put, Slots.keep, if_true, if_false, true_and, ↓ap_assign, pop_assign]
        apply hK; clear hK K
        refine awp_ret ?_
        try simp only [thenA_ret, inBlockA_ret]
        refine retA_ret h (by repeat (first | exact Sub.refl _ | assumption | refine Sub.trans_set ?_ (by assumption))) (resPre_tmp (resPre_nil)) ?_
        simp (decide := true) only [Slots.get, if_true, and_true, resOf_one]
        rw [hst, hb3, Bool.false_and]
      · try simp only [Bool.not_eq_false'] at hb3
        refine awp_skip ?_
        change Awp _ _ _ _ _ _ _
        -- region 9  slices.go:41
        refine awp_r [1, 2, 15, 16, 17] (by rfl) ?_
        simp (decide := true) only [aOps_nil, ev, absV, absS, putD, Slots.put, Slots.get, Slots.keep, if_true, if_false, true_and, ↓ap_binOp, pop_binOp, isNilC_int, cond_false, pBinX_int, pI_add, ↓ap_move, pop_move]
        try simp (disch := omega) only [wrap_i64]
        try simp only [thenA_normal]
        exact ⟨i + 1, rfl, (by repeat (first | exact Sub.refl _ | assumption | refine Sub.set_both ?_ _ _ | refine Sub.trans_set ?_ (by repeat (first | assumption | refine (AHeap.set_ne _ _ (by first | assumption | exact Ne.symm (by assumption))).trans ?_)))), ⟨hi', by rw [hst, hb3, Bool.true_and]⟩, by omega⟩
    · try simp only [decide_eq_false_iff_not] at hb2
      refine awp_exit ?_
      change Awp _ _ _ _ _ _ _
      -- region 10  slices.go:47
      refine awp_rseq [6] (by rfl) fun K hK => ?_
      simp (decide := true) only [aOps_nil, ev, absV, absS, putD, Slots.put, Slots.keep, if_true, if_false, true_and, ↓ap_assign, pop_assign]
      apply hK; clear hK K
      refine awp_ret ?_
      refine retA_ret h (by repeat (first | exact Sub.refl _ | assumption | refine Sub.trans_set ?_ (by assumption))) (resPre_tmp (resPre_nil)) ?_
      simp (decide := true) only [Slots.get, if_true, and_true, resOf_one]
      rw [← hq, List.drop_eq_nil_of_le (by omega), List.drop_eq_nil_of_le (by omega)]
      rfl
theorem c_Same (w₀ : World) (h : AHeap) (v w : AVal) (l m : List TokC) (hv : IsL w₀ h 5 v (l.map tokC)) (hw : IsL w₀ h 5 w (m.map tokC)) (hl : l.length ≤ 1099511627776) :
    ACall Tryd.prog w₀ 10 [v, w] h (fun r h' => r = .bool (sameE l m) ∧ h' = h) := by
  have hlv := hv.live
  have hlw := hw.live
  refine acall_intro (n := 8) (rs := [.tmp 4]) Tryd.func10 rfl rfl rfl rfl (Nat.le_of_ble_eq_true rfl) ?_
  simp only [initSlots]
  -- region 0  tokens.go:263
  refine awp_rseq [0, 1] (by rfl) fun K hK => ?_
  simp (decide := true) only [aOps_nil, ev, absV, absS, putD, Slots.put, Slots.keep, if_true, if_false, true_and, ↓ap_assign, pop_assign]
  apply hK; clear hK K
  -- region 1  tokens.go:264
  refine awp_rseq [4] (by rfl) fun K hK => ?_
  simp (decide := true) only [ev, putD, Slots.put, Slots.get, if_true, if_false, true_and, ↓ap_move, pop_move]
  refine aOps_callV (V := .bool (sameE l m)) (by rfl) (by rfl) (c_equalFunc w₀ _ v w l m hv hw hl) ?_
  simp (decide := true) only [aOps_nil, ev, putD, Slots.put, Slots.get, Slots.keep, if_true, if_false, true_and, ↓ap_assign, pop_assign]
  apply hK; clear hK K
  refine awp_ret ?_
  refine retA_ret _ (Sub.refl _) (resPre_tmp (resPre_nil)) ?_
  simp (decide := true) only [Slots.get, if_true, and_true, resOf_one]
  all_goals first | rfl | exact ⟨rfl, rfl⟩ | (simp (decide := true) only [if_true, if_false, *]; done) | (trace_state; fail)
end Go.Proofs.YtmadddihphkmoaaDoor

/-
  Contracts: Split.
  Conditions: none.
-/
namespace Go.Proofs.YtmadddihphkmoaaDoor
open Go.AM
open Go.Proofs
open Go.Col
open Go.Tok
open Go.RowKit (Below)
set_option maxRecDepth 100000

/-! ### Two growing slices of elements of different width -/
theorem bufSwap2 {H : AHeap} {ea eb : Nat} {a b : Option Buf} (ha : bufOk H ea a) (hb : bufOk (bufH H a) eb b) : bufH (bufH H a) b = bufH (bufH H b) a ∧ bufOk H eb b ∧ bufOk (bufH H b) ea a := by
  cases a with
  | none => exact ⟨rfl, hb, trivial⟩
  | some a =>
    cases b with
    | none => exact ⟨rfl, trivial, ha⟩
    | some b =>
      have hne : b.blk ≠ a.blk := fun e => by
        have := hb.1
        rw [e, show bufH H (some a) = H.set a.blk ⟨a.cells, 0⟩ from rfl, AHeap.set_same] at this
        cases this
      have hb1 : H b.blk = none := by
        have := hb.1
        rwa [show bufH H (some a) = H.set a.blk ⟨a.cells, 0⟩ from rfl, AHeap.set_ne _ _ hne] at this
      exact ⟨AHeap.set_comm _ _ _ hne, ⟨hb1, hb.2⟩, ⟨(AHeap.set_ne _ _ hne.symm).trans ha.1, ha.2⟩⟩
/-! ### The parts between periods -/
def splitGo : List TokC → List TokC → List (List TokC)
  | [], cur => if cur = [] then [] else [cur]
  | t :: r, cur => if t.kind ≠ 6 then splitGo r (cur ++ [t]) else cur :: splitGo r []
def splitE (l : List TokC) : List (List TokC) := splitGo l []
theorem splitGo_step {l : List TokC} {i : Nat} (hi : i < l.length) (cur : List TokC) : splitGo (l.drop i) cur = if (l.getD i badT).kind ≠ 6 then splitGo (l.drop (i + 1)) (cur ++ [l.getD i badT]) else cur :: splitGo (l.drop (i + 1)) [] := by
  rw [List.drop_eq_getElem_cons hi, splitGo]
  simp [List.getD, hi]
/-- A slice of slices of tokens. -/
def partV (p : List TokC × AVal) : List AVal := [p.2]
def IsParts (w₀ : World) (h : AHeap) (v : AVal) (ps : List (List TokC)) : Prop := ∃ qs : List (List TokC × AVal), ps = qs.map (·.1) ∧ IsL w₀ h 1 v (qs.map partV) ∧ ∀ p ∈ qs, IsL w₀ h 5 p.2 (p.1.map tokC) ∧ capL p.2 = p.2
structure SpG where
  i : Nat
  B : AHeap
  pb : Option Buf
  tb : Option Buf
  done : List (List TokC × AVal)
  cur : List TokC
structure SpOk (w₀ : World) (h : AHeap) (l : List TokC) (g : SpG) : Prop where
  i : g.i ≤ l.length
  sub : Sub h g.B
  okp : bufOk g.B 5 g.pb
  okt : bufOk (bufH g.B g.pb) 1 g.tb
  eqp : bufC g.pb = (g.cur.map tokC).flatten
  eqt : bufC g.tb = (g.done.map partV).flatten
  parts : ∀ p ∈ g.done, IsL w₀ g.B 5 p.2 (p.1.map tokC) ∧ capL p.2 = p.2
  go : g.done.map (·.1) ++ splitGo (l.drop g.i) g.cur = splitE l
  few : g.done.length ≤ g.i
  cl : g.cur.length ≤ g.i
theorem capL_idemT (v : AVal) : capL (capL v) = capL v := by cases v <;> rfl
theorem partV_wide {ps : List (List TokC × AVal)} : ∀ x ∈ ps.map partV, x.length = 1 := fun x hx => by obtain ⟨y, _, rfl⟩ := List.mem_map.1 hx; rfl
theorem c_clipP (w₀ : World) (h : AHeap) (v : AVal) (xs : List (List AVal)) (hv : IsL w₀ h 1 v xs) : ACall Tryd.prog w₀ 17 [v] h (fun r h' => r = capL v ∧ h' = h) := by
  have hlen := hv.len Tryd.underlying37
  have h3 := hv.slice3 Tryd.underlying37 sz23 .i64 .i64 none rfl
  refine acall_intro (n := 9) (rs := [.tmp 2]) Tryd.func17 rfl rfl rfl rfl (Nat.le_of_ble_eq_true rfl) ?_
  simp only [initSlots]
  -- region 0  slices.go:435
  refine awp_rseq [0] (by rfl) fun K hK => ?_
  simp (decide := true) only [aOps_nil, ev, absV, absS, putD, Slots.put, Slots.keep, if_true, if_false, true_and, ↓ap_assign, pop_assign]
  apply hK; clear hK K
  -- region 1  slices.go:436
  refine awp_rseq [2] (by rfl) fun K hK => ?_
  simp (decide := true) only [aOps_nil, ev, putD, Slots.put, Slots.get, Slots.keep, if_true, if_false, true_and, ↓ap_move, pop_move, ↓ap_len, pop_len, ↓ap_slice, pop_slice, evO, ↓ap_assign, pop_assign, hlen, h3]
  apply hK; clear hK K
  refine awp_ret ?_
  refine retA_ret _ (Sub.refl _) (resPre_tmp (resPre_nil)) ?_
  simp (decide := true) only [Slots.get, if_true, and_true, resOf_one]
  all_goals first | rfl | exact ⟨rfl, rfl⟩ | (simp (decide := true) only [if_true, if_false, *]; done) | (trace_state; fail)
end Go.Proofs.YtmadddihphkmoaaDoor

/-
  Contracts: Split.
  Conditions: none.
-/
namespace Go.Proofs.YtmadddihphkmoaaDoor
open Go.AM
open Go.Proofs
open Go.Col
open Go.Tok
open Go.RowKit (Below)
set_option maxRecDepth 100000

set_option maxHeartbeats 1000000 in
theorem c_Split (w₀ : World) (h : AHeap) (v : AVal) (l : List TokC) (hv : IsL w₀ h 5 v (l.map tokC)) (hl : l.length ≤ 1000000) :
    ACall Tryd.prog w₀ 9 [v] h (fun r h' => IsParts w₀ h' r (splitE l) ∧ capL r = r ∧ Sub h h') := by
  have hlv := hv.live
  have nv := tok_len hv
  refine acall_intro (n := 36) (rs := [.tmp 2]) Tryd.func9 rfl rfl rfl rfl (Nat.le_of_ble_eq_true rfl) ?_
  simp only [initSlots]
  -- region 0  tokens.go:268
  refine awp_rseq [0] (by rfl) fun K hK => ?_
  simp (decide := true) only [aOps_nil, ev, absV, absS, putD, Slots.put, Slots.keep, if_true, if_false, true_and, ↓ap_assign, pop_assign]
  apply hK; clear hK K
  -- region 1  tokens.go:269
  refine awp_rseq [0, 3] (by rfl) fun K hK => ?_
  simp (decide := true) only [aOps_nil, ev, absV, absS, putD, Slots.put, Slots.keep, if_true, if_false, true_and, ↓ap_assign, pop_assign]
  apply hK; clear hK K
  -- region 2  tokens.go:270
  refine awp_rseq [0, 3, 4] (by rfl) fun K hK => ?_
  simp (decide := true) only [aOps_nil, ev, absV, absS, putD, Slots.put, Slots.keep, if_true, if_false, true_and, ↓ap_assign, pop_assign]
  apply hK; clear hK K
  refine awp_seq ?_
  -- region 3  tokens.go:271
  refine awp_rseq [3, 4, 7, 8, 9] (by rfl) fun K hK => ?_
  simp (decide := true) only [aOps_nil, ev, absV, absS, putD, Slots.put, Slots.get, Slots.keep, if_true, if_false, true_and, ↓ap_move, pop_move, ↓ap_len, pop_len, nv]
  apply hK; clear hK K
  refine awp_block ?_
  refine awp_loopG [3, 4, 7, 8, 9] (fun g : SpG => [(3, bufV 1 g.tb), (4, bufV 5 g.pb), (7, v), (8, .int .i64 l.length), (9, .int .i64 g.i)]) (fun g : SpG => bufH (bufH g.B g.pb) g.tb) (fun g : SpG => SpOk w₀ h l g) (fun g : SpG => l.length - g.i) ⟨0, h, none, none, [], []⟩ (by rfl) (Sub.refl _) ⟨Nat.zero_le _, Sub.refl _, trivial, trivial, rfl, rfl, fun p hp => by (cases hp), rfl, Nat.zero_le _, Nat.zero_le _⟩ ?_
  rintro ⟨i, B, pb, tb, done, cur⟩ ⟨g1, g2, g3, g4, g5, g6, g7, g8, g9, g10⟩
  simp only at g1 g2 g3 g4 g5 g6 g7 g8 g9 g10 ⊢
  obtain ⟨sw1, sw2, sw3⟩ := bufSwap2 g3 g4
  obtain ⟨H1, hH1⟩ : ∃ H1, H1 = bufH (bufH B pb) tb := ⟨_, rfl⟩
  have hs_H1 : Sub h H1 := by rw [hH1]; exact g2.trans ((Sub.buf g3).trans (Sub.buf g4))
  have hlp := bufV_live 5 pb
  have hlt := bufV_live 1 tb
  have hcl : IsL w₀ H1 5 (bufV 5 pb) (cur.map tokC) := (IsL.buf g3 (by decide) g5 tokC_wide (Sub.refl _)).mono (by rw [hH1]; exact Sub.buf g4)
  have ncl := tok_len hcl
  show Awp _ _ _ _ _ _ (bufH (bufH B pb) tb)
  rw [← hH1]
  -- region 4  tokens.go:271
  refine awp_rseq [3, 4, 7, 8, 9, 10] (by rfl) fun K hK => ?_
  simp (decide := true) only [aOps_nil, ev, putD, Slots.put, Slots.get, Slots.keep, if_true, if_false, true_and, ↓ap_binOp, pop_binOp, isNilC_tmp, cond_false, pBinX_int, pI_lss]
  apply hK; clear hK K
  refine awp_seq (awp_cond (b := _) rfl (fun hb1 => ?_) (fun hb1 => ?_))
  · try simp only [decide_eq_true_eq] at hb1
    have hi : i < l.length := by omega
    obtain ⟨lc, o, c, rfl⟩ := tok_open hv (by omega)
    obtain ⟨e0, e1, e2, e3, e4⟩ := tok_at (hv.mono hs_H1) hi
    obtain ⟨a, ha⟩ : ∃ a, a = l.getD i badT := ⟨_, rfl⟩
    have hst := splitGo_step hi cur
    rw [← ha] at e0 e1 e2 e3 e4 hst
    have e2' : rd w₀ H1 lc (o + i * 5 + 1 + 1) = .int .i64 a.line := e2
    have e3' : rd w₀ H1 lc (o + i * 5 + 1 + 1 + 1) = .int .i64 a.col := e3
    have e4' : rd w₀ H1 lc (o + i * 5 + 1 + 1 + 1 + 1) = .bool a.left := e4
    rw [hst] at g8
    refine awp_skip ?_
    change Awp _ _ _ _ _ _ _
    refine awp_seq ?_
    refine awp_block ?_
    -- region 5  tokens.go:271
    refine awp_rseq [3, 4, 6, 7, 8, 9] (by rfl) fun K hK => ?_
    simp (decide := true) only [ev, putD, Slots.put, Slots.get, if_true, if_false, true_and, ↓ap_indexAddrL, apL_mk, pIndexAddr_slice Tryd.underlying23 sz35, ↓ap_loadL, pLoad_agg ag35 sz35, cellsAt, lv_bool, lv_int, lv_str, allLive, Bool.and_true, e0, e1, e2', e3', e4', Int.toNat_natCast]
    repeat (with_reducible refine And.intro ?_ ?_; · first | trivial | omega | (intro hg; simp only [Bool.and_eq_true, Bool.or_eq_true, Bool.not_eq_true', Bool.and_eq_false_iff, Bool.or_eq_false_iff, Bool.not_eq_false', decide_eq_true_eq, decide_eq_false_iff_not, eqNil] at hg; omega) )
    refine aOps_alloc ze35 (cs := [.int .u8 0, .str [], .int .i64 0, .int .i64 0, .bool false]) (by rfl) fun k5q2 hk5q2 => ?_
    have hn_5q2 : H1 k5q2 = none := by first | assumption | (simp only [AHeap.set_none] at hk5q2; simp only [hk5q2])
    have hf_5q2 : h k5q2 = none := Sub.none hs_H1 hn_5q2
    refine aOps_store (by rfl) (by rfl) (by repeat (first | exact AHeap.set_same _ _ _ | assumption | refine (AHeap.set_ne _ _ (by first | assumption | exact Ne.symm (by assumption))).trans ?_)) sz35 (by rfl) (by rfl) (by first | exact Nat.le_refl _ | decide | (simp; done) | (simp; omega)) (Nat.zero_le _) (by rfl) ?_
    simp only [AHeap.set_set, AVal.cells]
    simp (decide := true) only [aOps_nil, ev, putD, Slots.put, Slots.get, Slots.keep, if_true, if_false, setAt, List.set_cons_zero, List.set_cons_succ, Nat.zero_add, Nat.reduceAdd]
    apply hK; clear hK K
    refine awp_seq ?_
    -- region 6  tokens.go:272
    refine awp_rseq [3, 4, 6, 7, 8, 9, 15] (by rfl) fun K hK => ?_
    simp (decide := true) only [aOps_nil, ev, absV, absS, putD, Slots.put, Slots.get, Slots.keep, if_true, if_false, true_and, ↓ap_fieldAddr, pop_fieldAddr, fa35_0, ↓ap_loadL, apL_mk, pLoad_one ag33, ↓ap_binOp, pop_binOp, isNilC_int, cond_false, pBinX_int, pI_neq, rd_any, List.getD_cons_zero, Nat.zero_add, lv_int]
    apply hK; clear hK K
    refine awp_cond (b := _) rfl (fun hb2 => ?_) (fun hb2 => ?_)
    · try simp only [decide_eq_false_iff_not, Bool.not_eq_true'] at hb2
      have hk : a.kind ≠ 6 := fun q => hb2 ((u8_eq _ 6).mpr q)
      rw [if_pos hk] at g8
      -- region 7  tokens.go:273
      refine awp_rseq [3, 4, 7, 8, 9] (by rfl) fun K hK => ?_
      simp (decide := true) only [ev, putD, Slots.put, Slots.get, if_true, if_false, true_and, ↓ap_move, pop_move, ↓ap_loadL, apL_mk, pLoad_agg ag35 sz35, rd_any, cellsAt, List.getD_cons_zero, List.getD_cons_succ, Nat.zero_add, Nat.reduceAdd, lv_bool, lv_int, lv_str, allLive, Bool.and_true]
      refine aOps_buildSlice (cs := tokC a) (by kernel_rfl) fun k7q2 hk7q2 => ?_
      have ne_7q2_5q2 : k7q2 ≠ k5q2 := by simp only [AHeap.set_none] at hk7q2; simp only [hk7q2, ne_eq, not_false_eq_true]
      have hn_7q2 : H1 k7q2 = none := by first | assumption | (simp only [AHeap.set_none] at hk7q2; simp only [hk7q2])
      have hf_7q2 : h k7q2 = none := Sub.none hs_H1 hn_7q2
      refine aOps_appendL (es := 5) (zs := cur.map tokC) (xs := [tokC a]) (h₀ := bufH B tb) (b := pb) (by rfl) (by rfl) Tryd.underlying23 Tryd.underlying23 (fun k e => by cases e) sz35 by35 ze35 (by rfl) (by decide) (by rfl) sw3 g5 tokC_wide (by rw [← sw1, ← hH1]; exact (by repeat (first | exact Sub.refl _ | assumption | refine Sub.set_both ?_ _ _ | refine Sub.trans_set ?_ (by repeat (first | assumption | refine (AHeap.set_ne _ _ (by first | assumption | exact Ne.symm (by assumption))).trans ?_))))) (by rfl) (IsL.own (AHeap.set_same _ _ _) (by simp [tokC]) (by rfl) (by rfl) (.exact 1) (Nat.le_refl _)) (by rfl) (by simp; omega) (by simp; omega) fun pb2 h7 o1 o2 o3 => ?_
      obtain ⟨q1, q2, q3⟩ := bufSwap2 sw2 o1
      simp (decide := true) only [aOps_nil, ev, putD, Slots.put, Slots.get, Slots.keep, if_true, if_false, true_and, ↓ap_assign, pop_assign]
      apply hK; clear hK K
      refine awp_exit ?_
      change Awp _ _ _ _ _ _ _
      -- region 10  tokens.go:271
      refine awp_r [3, 4, 7, 8, 9] (by rfl) ?_
      simp (decide := true) only [aOps_nil, ev, absV, absS, putD, Slots.put, Slots.get, Slots.keep, if_true, if_false, true_and, ↓ap_binOp, pop_binOp, isNilC_int, cond_false, pBinX_int, pI_add, ↓ap_move, pop_move]
      try simp (disch := omega) only [wrap_i64]
      try simp only [thenA_normal]
      first
      | exact ⟨⟨i + 1, B, pb2, tb, done, cur ++ [a]⟩, rfl, by rw [← q1]; exact o3, ⟨hi, g2, q2, q3, by rw [o2, List.map_append]; rfl, g6, g7, g8, by simp only; omega, by simp only [List.length_append, List.length_cons, List.length_nil]; omega⟩, by simp only; omega⟩
      | exact ⟨⟨i + 1, bufH B pb, none, tb2, done ++ [(cur, capL (bufV 5 pb))], []⟩, rfl, o3, ⟨hi, g2.trans (Sub.buf g3), trivial, o1, rfl, by rw [o2, List.map_append]; rfl, fun p hp => by
         rw [List.mem_append, List.mem_singleton] at hp
         rcases hp with hp | rfl
         · exact ⟨(g7 p hp).1.mono (Sub.buf g3), (g7 p hp).2⟩
         · exact ⟨(IsL.buf g3 (by decide) g5 tokC_wide (Sub.refl _)).clip, capL_idemT _⟩, by rw [List.map_append, List.append_assoc]; exact g8, by simp only [List.length_append, List.length_cons, List.length_nil]; omega, Nat.zero_le _⟩, by simp only; omega⟩
    · try simp only [decide_eq_true_eq, Bool.not_eq_false'] at hb2
      have hk : ¬ a.kind ≠ 6 := fun q => q ((u8_eq _ 6).mp (by simpa using hb2))
      rw [if_neg hk] at g8
      refine awp_skip ?_
      change Awp _ _ _ _ _ _ _
      -- region 8  tokens.go:276
      refine awp_rseq [3, 7, 8, 9] (by rfl) fun K hK => ?_
      simp (decide := true) only [ev, putD, Slots.put, Slots.get, if_true, if_false, true_and, ↓ap_move, pop_move]
      refine aOps_callV (V := capL (bufV 5 pb)) (by rfl) (by rfl) (c_clipT w₀ _ _ (cur.map tokC) (hcl.mono (by repeat (first | exact Sub.refl _ | assumption | refine Sub.set_both ?_ _ _ | refine Sub.trans_set ?_ (by repeat (first | assumption | refine (AHeap.set_ne _ _ (by first | assumption | exact Ne.symm (by assumption))).trans ?_)))))) ?_
      refine aOps_buildSlice (cs := [capL (bufV 5 pb)]) (by cases pb <;> rfl) fun k8q3 hk8q3 => ?_
      have ne_8q3_5q2 : k8q3 ≠ k5q2 := by simp only [AHeap.set_none] at hk8q3; simp only [hk8q3, ne_eq, not_false_eq_true]
      have hn_8q3 : H1 k8q3 = none := by first | assumption | (simp only [AHeap.set_none] at hk8q3; simp only [hk8q3])
      have hf_8q3 : h k8q3 = none := Sub.none hs_H1 hn_8q3
      refine aOps_appendL (es := 1) (zs := done.map partV) (xs := [partV (cur, capL (bufV 5 pb))]) (h₀ := bufH B pb) (b := tb) (by rfl) (by rfl) Tryd.underlying37 Tryd.underlying37 (fun k e => by cases e) sz23 by23 ze23 (by rfl) (by decide) (by rfl) g4 g6 partV_wide (by rw [← hH1]; exact (by repeat (first | exact Sub.refl _ | assumption | refine Sub.set_both ?_ _ _ | refine Sub.trans_set ?_ (by repeat (first | assumption | refine (AHeap.set_ne _ _ (by first | assumption | exact Ne.symm (by assumption))).trans ?_))))) (by rfl) (IsL.own (AHeap.set_same _ _ _) (by simp [partV]) (by rfl) (by cases pb <;> rfl) (.exact 1) (Nat.le_refl _)) (by cases pb <;> rfl) (by simp; omega) (by simp; omega) fun tb2 h8 o1 o2 o3 => ?_
      simp (decide := true) only [aOps_nil, ev, putD, Slots.put, Slots.get, Slots.keep, if_true, if_false, true_and, ↓ap_assign, pop_assign]
      apply hK; clear hK K
      -- region 9  tokens.go:277
      refine awp_r [3, 4, 7, 8, 9] (by rfl) ?_
      simp (decide := true) only [aOps_nil, ev, absV, absS, putD, Slots.put, Slots.keep, if_true, if_false, true_and, ↓ap_assign, pop_assign]
      change Awp _ _ _ _ _ _ _
      -- region 10  tokens.go:271
      refine awp_r [3, 4, 7, 8, 9] (by rfl) ?_
      simp (decide := true) only [aOps_nil, ev, absV, absS, putD, Slots.put, Slots.get, Slots.keep, if_true, if_false, true_and, ↓ap_binOp, pop_binOp, isNilC_int, cond_false, pBinX_int, pI_add, ↓ap_move, pop_move]
      try simp (disch := omega) only [wrap_i64]
      try simp only [thenA_normal]
      first
      | exact ⟨⟨i + 1, B, pb2, tb, done, cur ++ [a]⟩, rfl, by rw [← q1]; exact o3, ⟨hi, g2, q2, q3, by rw [o2, List.map_append]; rfl, g6, g7, g8, by simp only; omega, by simp only [List.length_append, List.length_cons, List.length_nil]; omega⟩, by simp only; omega⟩
      | exact ⟨⟨i + 1, bufH B pb, none, tb2, done ++ [(cur, capL (bufV 5 pb))], []⟩, rfl, o3, ⟨hi, g2.trans (Sub.buf g3), trivial, o1, rfl, by rw [o2, List.map_append]; rfl, fun p hp => by
         rw [List.mem_append, List.mem_singleton] at hp
         rcases hp with hp | rfl
         · exact ⟨(g7 p hp).1.mono (Sub.buf g3), (g7 p hp).2⟩
         · exact ⟨(IsL.buf g3 (by decide) g5 tokC_wide (Sub.refl _)).clip, capL_idemT _⟩, by rw [List.map_append, List.append_assoc]; exact g8, by simp only [List.length_append, List.length_cons, List.length_nil]; omega, Nat.zero_le _⟩, by simp only; omega⟩
  · try simp only [decide_eq_false_iff_not] at hb1
    have hie : i = l.length := by omega
    have hsg : splitGo (l.drop i) cur = if cur = [] then [] else [cur] := by rw [List.drop_eq_nil_of_le (by omega)]; rfl
    rw [hsg] at g8
    refine awp_exit ?_
    change Awp _ _ _ _ _ _ _
    refine awp_seq ?_
    -- region 11  tokens.go:279
    refine awp_rseq [3, 4, 28] (by rfl) fun K hK => ?_
    simp (decide := true) only [aOps_nil, ev, absV, absS, putD, Slots.put, Slots.get, Slots.keep, if_true, if_false, true_and, ↓ap_move, pop_move, ↓ap_len, pop_len, ↓ap_binOp, pop_binOp, isNilC_int, cond_false, pBinX_int, pI_gtr, ncl]
    apply hK; clear hK K
    refine awp_cond (b := _) rfl (fun hb3 => ?_) (fun hb3 => ?_)
    · try simp only [decide_eq_true_eq] at hb3
      have hne : cur ≠ [] := fun e => by rw [e] at hb3; exact absurd hb3 (by decide)
      rw [if_neg hne] at g8
      -- region 12  tokens.go:280
      refine awp_r [3] (by rfl) ?_
      simp (decide := true) only [ev, putD, Slots.put, Slots.get, if_true, if_false, true_and, ↓ap_move, pop_move]
      refine aOps_callV (V := capL (bufV 5 pb)) (by rfl) (by rfl) (c_clipT w₀ _ _ (cur.map tokC) (hcl.mono (by repeat (first | exact Sub.refl _ | assumption | refine Sub.set_both ?_ _ _ | refine Sub.trans_set ?_ (by repeat (first | assumption | refine (AHeap.set_ne _ _ (by first | assumption | exact Ne.symm (by assumption))).trans ?_)))))) ?_
      refine aOps_buildSlice (cs := [capL (bufV 5 pb)]) (by cases pb <;> rfl) fun k12q3 hk12q3 => ?_
      have hn_12q3 : H1 k12q3 = none := by first | assumption | (simp only [AHeap.set_none] at hk12q3; simp only [hk12q3])
      have hf_12q3 : h k12q3 = none := Sub.none hs_H1 hn_12q3
      refine aOps_appendL (es := 1) (zs := done.map partV) (xs := [partV (cur, capL (bufV 5 pb))]) (h₀ := bufH B pb) (b := tb) (by rfl) (by rfl) Tryd.underlying37 Tryd.underlying37 (fun k e => by cases e) sz23 by23 ze23 (by rfl) (by decide) (by rfl) g4 g6 partV_wide (by rw [← hH1]; exact (by repeat (first | exact Sub.refl _ | assumption | refine Sub.set_both ?_ _ _ | refine Sub.trans_set ?_ (by repeat (first | assumption | refine (AHeap.set_ne _ _ (by first | assumption | exact Ne.symm (by assumption))).trans ?_))))) (by rfl) (IsL.own (AHeap.set_same _ _ _) (by simp [partV]) (by rfl) (by cases pb <;> rfl) (.exact 1) (Nat.le_refl _)) (by cases pb <;> rfl) (by simp; omega) (by simp; omega) fun tb2 h12 o1 o2 o3 => ?_
      have hlt2 := bufV_live 1 tb2
      obtain ⟨fin, hfin⟩ : ∃ fin, fin = done ++ [(cur, capL (bufV 5 pb))] := ⟨_, rfl⟩
      have hfL : IsL w₀ h12 1 (bufV 1 tb2) (fin.map partV) := IsL.buf o1 (by decide) (by rw [o2, hfin, List.map_append]; rfl) partV_wide o3
      have hfs : Sub H1 h12 ∨ True := .inr trivial
      simp (decide := true) only [aOps_nil, ev, putD, Slots.put, Slots.get, Slots.keep, if_true, if_false, true_and, ↓ap_assign, pop_assign]
      change Awp _ _ _ _ _ _ _
      -- region 13  tokens.go:282
      refine awp_rseq [2] (by rfl) fun K hK => ?_
      simp (decide := true) only [ev, putD, Slots.put, Slots.get, if_true, if_false, true_and, ↓ap_move, pop_move]
      refine aOps_callV (V := capL (bufV 1 tb2)) (by rfl) (by rfl) (c_clipP w₀ _ _ (fin.map partV) hfL) ?_
      simp (decide := true) only [aOps_nil, ev, putD, Slots.put, Slots.get, Slots.keep, if_true, if_false, true_and, ↓ap_assign, pop_assign]
      apply hK; clear hK K
      refine awp_ret ?_
      refine retA_retE (resPre_tmp (resPre_nil)) ?_
      simp (decide := true) only [Slots.get, if_true, resOf_one]
      have hB12 : Sub (bufH B pb) h12 := (Sub.buf o1).trans o3
      exact ⟨h12, Sub.refl _, ⟨fin, by rw [← g8, hfin, List.map_append]; rfl, hfL.clip, fun p hp => by
       rw [hfin, List.mem_append, List.mem_singleton] at hp
       rcases hp with hp | rfl
       · exact ⟨(g7 p hp).1.mono ((Sub.buf g3).trans hB12), (g7 p hp).2⟩
       · exact ⟨((IsL.buf g3 (by decide) g5 tokC_wide (Sub.refl _)).clip).mono hB12, capL_idemT _⟩⟩, capL_idemT _, (g2.trans (Sub.buf g3)).trans hB12⟩
    · try simp only [decide_eq_false_iff_not] at hb3
      have hne : cur = [] := List.eq_nil_of_length_eq_zero (by omega)
      rw [if_pos hne, List.append_nil] at g8
      obtain ⟨tb2, htb2⟩ : ∃ tb2, tb2 = tb := ⟨_, rfl⟩
      have hlt2 := bufV_live 1 tb2
      obtain ⟨fin, hfin⟩ : ∃ fin, fin = done := ⟨_, rfl⟩
      have hfL : IsL w₀ H1 1 (bufV 1 tb2) (fin.map partV) := by rw [htb2, hfin, hH1]; exact IsL.buf g4 (by decide) g6 partV_wide (Sub.refl _)
      rw [← htb2]
      refine awp_skip ?_
      change Awp _ _ _ _ _ _ _
      -- region 13  tokens.go:282
      refine awp_rseq [2] (by rfl) fun K hK => ?_
      simp (decide := true) only [ev, putD, Slots.put, Slots.get, if_true, if_false, true_and, ↓ap_move, pop_move]
      refine aOps_callV (V := capL (bufV 1 tb2)) (by rfl) (by rfl) (c_clipP w₀ _ _ (fin.map partV) hfL) ?_
      simp (decide := true) only [aOps_nil, ev, putD, Slots.put, Slots.get, Slots.keep, if_true, if_false, true_and, ↓ap_assign, pop_assign]
      apply hK; clear hK K
      refine awp_ret ?_
      refine retA_retE (resPre_tmp (resPre_nil)) ?_
      simp (decide := true) only [Slots.get, if_true, resOf_one]
      exact ⟨H1, Sub.refl _, ⟨fin, by rw [← g8, hfin], hfL.clip, fun p hp => by
       rw [hfin] at hp
       exact ⟨(g7 p hp).1.mono (by rw [hH1]; exact (Sub.buf g3).trans (Sub.buf g4)), (g7 p hp).2⟩⟩, capL_idemT _, hs_H1⟩
end Go.Proofs.YtmadddihphkmoaaDoor

/-
  Plain: the parts of Split.
  Conditions: none.
-/
namespace Go.Proofs.YtmadddihphkmoaaDoor
open Go.AM
open Go.Proofs
open Go.Col
open Go.Tok
open Go.RowKit (Below)
set_option maxRecDepth 100000

theorem splitGo_head : ∀ (l cur p : List TokC) (rest : List (List TokC)), splitGo l cur = p :: rest → ∃ a tail, p = cur ++ a ∧ l = a ++ tail ∧ (∀ t ∈ a, t.kind ≠ 6) ∧ ((∃ t0 tl, tail = t0 :: tl ∧ t0.kind = 6 ∧ splitGo tl [] = rest) ∨ (tail = [] ∧ rest = [] ∧ p ≠ []))
  | [], cur, p, rest, h => by
    rw [splitGo] at h
    split at h
    · cases h
    · rename_i q
      injection h with h1 h2
      subst h1
      exact ⟨[], [], by simp, rfl, (fun t ht => by cases ht), .inr ⟨rfl, h2.symm, q⟩⟩
  | t :: r, cur, p, rest, h => by
    rw [splitGo] at h
    split at h
    · rename_i q
      obtain ⟨a, tail, h1, h2, h3, h4⟩ := splitGo_head r _ _ _ h
      refine ⟨t :: a, tail, by rw [h1]; simp, by rw [h2]; rfl, fun u hu => ?_, h4⟩
      rcases List.mem_cons.1 hu with rfl | hu
      · exact q
      · exact h3 u hu
    · rename_i q
      injection h with h1 h2
      subst h1
      exact ⟨[], t :: r, by simp, rfl, (fun t ht => by cases ht), .inl ⟨t, r, rfl, Decidable.of_not_not q, h2⟩⟩
theorem splitGo_ne : ∀ (l cur : List TokC), cur ≠ [] → splitGo l cur ≠ []
  | [], cur, h => by rw [splitGo, if_neg h]; simp
  | t :: r, cur, h => by
    rw [splitGo]
    split
    · exact splitGo_ne r _ (by simp)
    · simp
theorem splitGo_nil {l : List TokC} (h : splitGo l [] = []) : l = [] := by
  cases l with
  | nil => rfl
  | cons t r =>
    rw [splitGo] at h
    split at h
    · exact absurd h (splitGo_ne r _ (by simp))
    · cases h
theorem splitGo_few : ∀ (l cur : List TokC), (splitGo l cur).length ≤ l.length + 1
  | [], cur => by rw [splitGo]; split <;> simp
  | t :: r, cur => by
    rw [splitGo]
    split
    · have := splitGo_few r (cur ++ [t])
      simp only [List.length_cons]
      omega
    · have := splitGo_few r []
      simp only [List.length_cons]
      omega
/-- What part i says of the tokens from k on. -/
structure PartAt (l : List TokC) (ps : List (List TokC)) (k i : Nat) (p : List TokC) : Prop where
  fit : k + p.length ≤ l.length
  tok : ∀ j, j < p.length → l.getD (k + j) badT = p.getD j badT ∧ (p.getD j badT).kind ≠ 6
  rest : (k + p.length < l.length ∧ (l.getD (k + p.length) badT).kind = 6 ∧ splitGo (l.drop (k + p.length + 1)) [] = ps.drop (i + 1)) ∨ (k + p.length = l.length ∧ i + 1 = ps.length ∧ p.length ≠ 0 ∧ splitGo (l.drop (k + p.length)) [] = ps.drop (i + 1))
theorem part_at {l : List TokC} {ps : List (List TokC)} {k i : Nat} (hk : k ≤ l.length) (h : splitGo (l.drop k) [] = ps.drop i) (hi : i < ps.length) : PartAt l ps k i (ps.getD i []) := by
  rw [List.drop_eq_getElem_cons hi] at h
  obtain ⟨p, hp⟩ : ∃ p, p = ps.getD i [] := ⟨_, rfl⟩
  have e : ps[i] = p := by rw [hp]; simp [List.getD, hi]
  rw [e] at h
  rw [← hp]
  obtain ⟨a, tail, h1, h2, h3, h4⟩ := splitGo_head _ _ _ _ h
  rw [List.nil_append] at h1
  subst h1
  have hlen : l.length - k = p.length + tail.length := by rw [← List.length_drop, h2, List.length_append]
  have hat : ∀ j, l.getD (k + j) badT = (p ++ tail).getD j badT := fun j => by rw [← h2]; simp [List.getD]
  have htl : l.drop (k + p.length) = tail := by rw [← List.drop_drop, h2, List.drop_left]
  refine ⟨by omega, fun j hj => ?_, ?_⟩
  · have e2 : (p ++ tail).getD j badT = p.getD j badT := by rw [List.getD, List.getD, List.getElem?_append_left hj]
    refine ⟨by rw [hat, e2], h3 _ ?_⟩
    rw [List.getD, List.getElem?_eq_getElem hj]
    exact List.getElem_mem hj
  · rcases h4 with ⟨t0, tl, q1, q2, q3⟩ | ⟨q1, q2, q3⟩
    · left
      have : tail.length = tl.length + 1 := by rw [q1]; rfl
      refine ⟨by omega, ?_, ?_⟩
      · rw [hat, q1, List.getD, List.getElem?_append_right (Nat.le_refl _), Nat.sub_self]
        exact q2
      · rw [← List.drop_drop, htl, q1]
        exact q3
    · right
      have : tail.length = 0 := by rw [q1]; rfl
      have hr := congrArg List.length q2
      rw [List.length_drop, List.length_nil] at hr
      refine ⟨by omega, by omega, fun e => q3 (List.eq_nil_of_length_eq_zero e), ?_⟩
      rw [htl, q1, q2]
      rfl
/-- Same, place by place. -/
def sameTo (l m : List TokC) (i : Nat) : Bool := sameE (l.take i) (m.take i)
theorem sameE_snoc : ∀ {l m : List TokC} {a b : TokC}, l.length = m.length → sameE (l ++ [a]) (m ++ [b]) = (sameE l m && sameT a b)
  | [], [], a, b, _ => by simp [sameE]
  | x :: l, y :: m, a, b, h => by
    rw [List.cons_append, List.cons_append, sameE, sameE, sameE_snoc (by simpa using h), Bool.and_assoc]
theorem sameTo_step {l m : List TokC} {i : Nat} (h1 : i < l.length) (h2 : i < m.length) : sameTo l m (i + 1) = (sameTo l m i && sameT (l.getD i badT) (m.getD i badT)) := by
  unfold sameTo
  rw [List.take_add_one, List.take_add_one, List.getElem?_eq_getElem h1, List.getElem?_eq_getElem h2]
  have := sameE_snoc (l := l.take i) (m := m.take i) (a := l.getD i badT) (b := m.getD i badT) (by rw [List.length_take, List.length_take]; omega)
  rw [← this]
  simp [List.getD, h1, h2]
theorem sameE_pre : ∀ (i : Nat) (l m : List TokC), sameE l m = true → sameE (l.take i) (m.take i) = true
  | 0, l, m, _ => by simp [sameE]
  | i + 1, [], [], _ => by simp [sameE]
  | i + 1, [], _ :: _, h => by simp [sameE] at h
  | i + 1, _ :: _, [], h => by simp [sameE] at h
  | i + 1, a :: l, b :: m, h => by
    rw [sameE, Bool.and_eq_true] at h
    rw [List.take_succ_cons, List.take_succ_cons, sameE, h.1, sameE_pre i l m h.2]
    rfl
theorem sameE_refl : ∀ l : List TokC, sameE l l = true
  | [] => rfl
  | a :: l => by rw [sameE, sameE_refl l]; simp [sameT]
end Go.Proofs.YtmadddihphkmoaaDoor

/-
  An assertion layer over the model's wp, part BB: a long statement, walked piece by piece.
  Conditions: none. Nothing here is about a particular program.
-/
namespace Go.AM
section
variable {P : Program} {w₀ : World} {ops : List Oper} {K : Slots → AHeap → Prop}
end
end Go.AM

/-
  The law TokensSplit.
  Conditions: none.
-/
namespace Go.Proofs.YtmadddihphkmoaaDoor
open Go.AM
open Go.Proofs
open Go.Col
open Go.Tok
open Go.RowKit (Below)
set_option maxRecDepth 100000

structure LsG where
  i : Nat
  k : Nat
set_option maxHeartbeats 4000000 in
theorem l_TokensSplit (w₀ : World) (hm : MaxL w₀) (h : AHeap) (v : AVal) (l : List TokC) (hv : IsL w₀ h 5 v (l.map tokC)) (hll : l.length ≤ 9223372036854775807) (_ : ∀ t ∈ l, t.text.length ≤ 9223372036854775807) (w : AVal) (m : List TokC) (hw : IsL w₀ h 5 w (m.map tokC)) (hlm : m.length ≤ 9223372036854775807) (_ : ∀ t ∈ m, t.text.length ≤ 9223372036854775807) :
    ACall Tryd.prog w₀ 4 [v, w] h (fun x _ => x = .bool true) := by
  refine ACall.mono (R := fun x h' => x = .bool true ∧ h' = h) ?_ fun x h' hx => hx.1
  have hlv := hv.live
  have hlw := hw.live
  have nv := tok_len hv
  have nw := tok_len hw
  refine acall_intro (n := 167) (rs := [.tmp 4]) Tryd.func4 rfl rfl rfl rfl (Nat.le_of_ble_eq_true rfl) ?_
  simp only [initSlots]
  -- region 0  law.go:186
  refine awp_rseq [0, 1] (by rfl) fun K hK => ?_
  simp (decide := true) only [aOps_nil, ev, absV, absS, putD, Slots.put, Slots.keep, if_true, if_false, true_and, ↓ap_assign, pop_assign, Nat.zero_add]
  apply hK; clear hK K
  refine awp_seq ?_
  -- region 1  law.go:187
  refine awp_rseq [0, 1, 18] (by rfl) fun K hK => ?_
  simp (decide := true) only [aOps_nil, ev, absV, absS, putD, Slots.put, Slots.get, Slots.keep, if_true, if_false, true_and, ↓ap_move, pop_move, ↓ap_len, pop_len, ↓ap_binOp, pop_binOp, isNilC_int, cond_false, pBinX_int, pI_gtr, ↓ag_move, agP, agQ_some, nthDst, gKnown_bool, guardB_bool_false, implies_true, ↓ag_len, cv_len, cp_len, ↓ag_binOp, cv_binl, cp_binl, ↓ap_pick, pop_pick, pPick_bool, pickV_cond_r, pickV_or, nv, nw]
  apply hK; clear hK K
  refine awp_cond (b := _) rfl (fun hb1 => ?_) (fun hb1 => ?_)
  · try simp only [decide_eq_true_eq, Bool.or_eq_true] at hb1
    -- region 2  law.go:188
    refine awp_rseq [4] (by rfl) fun K hK => ?_
    refine aOps_callV (V := .bool true) (by rfl) (by rfl) (c_lives03 w₀ hm _) ?_
    simp (decide := true) only [aOps_nil, ev, putD, Slots.put, Slots.get, Slots.keep, if_true, if_false, true_and, ↓ap_assign, pop_assign]
    apply hK; clear hK K
    refine awp_ret ?_
    try simp only [thenA_ret]
    refine retA_ret h (by repeat (first | exact Sub.refl _ | assumption | refine Sub.trans_set ?_ (by assumption))) (resPre_tmp (resPre_nil)) ?_
    simp (decide := true) only [Slots.get, if_true, and_true, resOf_one]
    all_goals first | rfl | exact ⟨rfl, rfl⟩ | (simp (decide := true) only [if_true, if_false, *]; done) | (trace_state; fail)
  · try simp only [decide_eq_false_iff_not, Bool.or_eq_false_iff] at hb1
    have hl1 : l.length ≤ 100 := by omega
    have hm1 : m.length ≤ 100 := by omega
    refine awp_skip ?_
    change Awp _ _ _ _ _ _ _
    -- region 3  law.go:190
    refine awp_rseq [0, 1, 5] (by rfl) fun K hK => ?_
    simp (decide := true) only [ev, putD, Slots.put, Slots.get, if_true, if_false, true_and, ↓ap_move, pop_move]
    refine aOps_call (by rfl) (by rfl) (c_Split w₀ _ v l (hv.mono (by repeat (first | exact Sub.refl _ | assumption | refine Sub.set_both ?_ _ _ | refine Sub.trans_set ?_ (by repeat (first | assumption | refine (AHeap.set_ne _ _ (by first | assumption | exact Ne.symm (by assumption))).trans ?_))))) (by omega)) fun x3q1 h3q1 hx3q1 => ?_
    obtain ⟨⟨qs, hqs, hpL, hpP⟩, hcp, hs3⟩ := hx3q1
    have hlp := hpL.live
    have np := hpL.len Tryd.underlying37
    rw [List.length_map] at np
    have ncp := hpL.cap Tryd.underlying37
    rw [hcp, List.length_map] at ncp
    have hqn : qs.length ≤ l.length + 1 := by
      have h0 : (splitE l).length = qs.length := by rw [hqs, List.length_map]
      rw [← h0]
      exact splitGo_few l []
    have hv3 := hv.mono hs3
    have hw3 := hw.mono hs3
    have hs_h3q1 : Sub h h3q1 := Sub.trans (by repeat (first | exact Sub.refl _ | assumption | refine Sub.trans_set ?_ (by assumption))) hs3
    have hr_h3q1 := hs_h3q1
    simp (decide := true) only [aOps_nil, ev, putD, Slots.put, Slots.get, Slots.keep, if_true, if_false, true_and, ↓ap_assign, pop_assign]
    apply hK; clear hK K
    -- region 4  law.go:191
    refine awp_rseq [0, 1, 5, 6] (by rfl) fun K hK => ?_
    simp (decide := true) only [aOps_nil, ev, absV, absS, putD, Slots.put, Slots.keep, if_true, if_false, true_and, ↓ap_assign, pop_assign]
    apply hK; clear hK K
    refine awp_seq ?_
    -- region 5  law.go:192
    refine awp_rseq [0, 1, 5, 6, 7] (by rfl) fun K hK => ?_
    simp (decide := true) only [aOps_nil, ev, absV, absS, putD, Slots.put, Slots.keep, if_true, if_false, true_and, ↓ap_assign, pop_assign]
    apply hK; clear hK K
    refine awp_block ?_
    refine awp_loopG [0, 1, 5, 6, 7] (fun g : LsG => [(0, v), (1, w), (5, x3q1), (6, .int .i64 g.k), (7, .int .i64 g.i)]) (fun g : LsG => h3q1) (fun g : LsG => g.i ≤ qs.length ∧ g.k ≤ l.length ∧ splitGo (l.drop g.k) [] = (splitE l).drop g.i) (fun g : LsG => qs.length - g.i) ⟨0, 0⟩ (by rfl) (Sub.refl _) ⟨Nat.zero_le _, Nat.zero_le _, rfl⟩ ?_
    rintro ⟨i, k⟩ ⟨g1, g2, g3⟩
    simp only at g1 g2 g3 ⊢
    refine awp_seq ?_
    -- region 6  law.go:192
    refine awp_rseq [0, 1, 5, 6, 7, 25] (by rfl) fun K hK => ?_
    simp (decide := true) only [aOps_nil, ev, putD, Slots.put, Slots.get, Slots.keep, if_true, if_false, true_and, ↓ap_move, pop_move, ↓ap_len, pop_len, ↓ap_binOp, pop_binOp, isNilC_tmp, cond_false, pBinX_int, pI_lss, np]
    apply hK; clear hK K
    refine awp_cond (b := _) rfl (fun hb2 => ?_) (fun hb2 => ?_)
    · try simp only [decide_eq_true_eq] at hb2
      have hi : i < qs.length := by omega
      have hpa := part_at g2 g3 (by rw [hqs, List.length_map]; exact hi)
      obtain ⟨q, hq⟩ : ∃ q, q = qs.getD i ([], .nilSlice) := ⟨_, rfl⟩
      have hqm : q ∈ qs := by rw [hq, List.getD, List.getElem?_eq_getElem hi]; exact List.getElem_mem hi
      have hqp : (splitE l).getD i [] = q.1 := by rw [hqs, hq]; simp [List.getD, hi]
      rw [hqp] at hpa
      obtain ⟨hqL, hqc⟩ := hpP q hqm
      obtain ⟨lcp, op, cp, hpe⟩ := hpL.open (fun e => by rw [List.map_eq_nil_iff] at e; rw [e] at hi; exact absurd hi (by simp))
      rw [List.length_map] at hpe
      subst hpe
      have hlpos : 0 < l.length := by
        rcases Nat.eq_zero_or_pos l.length with z | z
        · exfalso
          have : l = [] := List.eq_nil_of_length_eq_zero z
          have h0 : (splitE l).length = qs.length := by rw [hqs, List.length_map]
          rw [this] at h0
          simp [splitE, splitGo] at h0
          omega
        · exact z
      obtain ⟨lc, o, c, rfl⟩ := tok_open hv hlpos
      have hel := hpL.elem (xs := qs.map partV) (i := i) (by rw [List.length_map]; exact hi)
      rw [getD_map ([], .nilSlice) hi, ← hq] at hel
      simp only [cellsAt, partV, List.cons.injEq, and_true, Nat.mul_one] at hel
      obtain ⟨pq, hpq⟩ : ∃ p, p = q.1 := ⟨_, rfl⟩
      rw [← hpq] at hpa hqL
      have hql := hqL.live
      have nq := tok_len hqL
      have ncq := hqL.cap Tryd.underlying23
      rw [hqc, List.length_map] at ncq
      obtain ⟨qv, hqv⟩ : ∃ v, v = q.2 := ⟨_, rfl⟩
      rw [← hqv] at hel hql nq ncq hqL
      refine awp_skip ?_
      change Awp _ _ _ _ _ _ _
      refine awp_seq ?_
      refine awp_block ?_
      refine awp_seq ?_
      -- region 8  law.go:193
      refine awp_dseq_all [0, 1, 5, 6, 7, 38] mixed (by kernel_rfl) (by rfl) (by rfl) fun K hK => ?_
      simp (decide := true) only [aOps_nil, ev, putD, Slots.put, Slots.get, Slots.keep, if_true, if_false, true_and, ↓ap_move, pop_move, ↓ap_indexAddrL, apL_mk, pIndexAddr_slice Tryd.underlying37 sz23, ↓ap_loadL, pLoad_one ag23, ↓ap_cap, pop_cap, ↓ap_len, pop_len, ↓ap_binOp, pop_binOp, isNilC_tmp, cond_false, pBinX_int, pI_neq, hel, hql, nq, ncq, Int.toNat_natCast, Nat.mul_one]
      repeat (with_reducible refine And.intro ?_ ?_; · first | trivial | omega | (intro hg; simp only [Bool.and_eq_true, Bool.or_eq_true, Bool.not_eq_true', Bool.and_eq_false_iff, Bool.or_eq_false_iff, Bool.not_eq_false', decide_eq_true_eq, decide_eq_false_iff_not, eqNil] at hg; omega) )
      apply hK; clear hK K
      refine awp_cond (b := _) rfl (fun hb3 => ?_) (fun hb3 => ?_)
      · exact absurd hb3 (by simp)
      · try simp only [decide_eq_true_eq, Bool.not_eq_false'] at hb3
        refine awp_skip ?_
        change Awp _ _ _ _ _ _ _
        refine awp_seq ?_
        -- region 10  law.go:196
        refine awp_rseq [0, 1, 5, 6, 7, 8] (by rfl) fun K hK => ?_
        simp (decide := true) only [aOps_nil, ev, absV, absS, putD, Slots.put, Slots.keep, if_true, if_false, true_and, ↓ap_assign, pop_assign]
        apply hK; clear hK K
        refine awp_block ?_
        refine awp_loopG [0, 1, 5, 6, 7, 8] (fun j : Nat => [(0, .slice lc o l.length c), (1, w), (5, .slice lcp op qs.length cp), (6, .int .i64 ((k + j : Nat) : Int)), (7, .int .i64 i), (8, .int .i64 j)]) (fun j : Nat => h3q1) (fun j : Nat => j ≤ pq.length) (fun j : Nat => pq.length - j) 0 (by rfl) (Sub.refl _) (Nat.zero_le _) ?_
        intro j hj
        refine awp_seq ?_
        -- region 11  law.go:196
        refine awp_rseq [0, 1, 5, 6, 7, 8, 45] (by rfl) fun K hK => ?_
        simp (decide := true) only [aOps_nil, ev, putD, Slots.put, Slots.get, Slots.keep, if_true, if_false, true_and, ↓ap_move, pop_move, ↓ap_indexAddrL, apL_mk, pIndexAddr_slice Tryd.underlying37 sz23, ↓ap_loadL, pLoad_one ag23, ↓ap_len, pop_len, ↓ap_binOp, pop_binOp, isNilC_tmp, cond_false, pBinX_int, pI_lss, hel, hql, nq, Int.toNat_natCast, Nat.mul_one]
        repeat (with_reducible refine And.intro ?_ ?_; · first | trivial | omega | (intro hg; simp only [Bool.and_eq_true, Bool.or_eq_true, Bool.not_eq_true', Bool.and_eq_false_iff, Bool.or_eq_false_iff, Bool.not_eq_false', decide_eq_true_eq, decide_eq_false_iff_not, eqNil] at hg; omega) )
        apply hK; clear hK K
        refine awp_cond (b := _) rfl (fun hb4 => ?_) (fun hb4 => ?_)
        · try simp only [decide_eq_true_eq] at hb4
          have hj' : j < pq.length := by omega
          have hfit := hpa.fit
          obtain ⟨htk, hk6⟩ := hpa.tok j hj'
          obtain ⟨lq, oq, cq, rfl⟩ := tok_open hqL (by omega)
          obtain ⟨d0, d1, d2, d3, d4⟩ := tok_at hqL hj'
          obtain ⟨e0, e1, e2, e3, e4⟩ := tok_at hv3 (i := k + j) (by omega)
          rw [htk] at e0 e1 e2 e3 e4
          obtain ⟨t, ht⟩ : ∃ t, t = pq.getD j badT := ⟨_, rfl⟩
          rw [← ht] at d0 d1 d2 d3 d4 e0 e1 e2 e3 e4 hk6
          have hk6' : ¬ ((t.kind.toNat : Int) = 6) := fun z => hk6 ((u8_eq _ 6).mp z)
          have hge : ¬ ((l.length : Int) ≤ ((k + j : Nat) : Int)) := by omega
          have d2' : rd w₀ h3q1 lq (oq + j * 5 + 1 + 1) = .int .i64 t.line := d2
          have d3' : rd w₀ h3q1 lq (oq + j * 5 + 1 + 1 + 1) = .int .i64 t.col := d3
          have d4' : rd w₀ h3q1 lq (oq + j * 5 + 1 + 1 + 1 + 1) = .bool t.left := d4
          have e2' : rd w₀ h3q1 lc (o + (k + j) * 5 + 1 + 1) = .int .i64 t.line := e2
          have e3' : rd w₀ h3q1 lc (o + (k + j) * 5 + 1 + 1 + 1) = .int .i64 t.col := e3
          have e4' : rd w₀ h3q1 lc (o + (k + j) * 5 + 1 + 1 + 1 + 1) = .bool t.left := e4
          refine awp_skip ?_
          change Awp _ _ _ _ _ _ _
          refine awp_seq ?_
          refine awp_block ?_
          refine awp_seq ?_
          -- region 13  law.go:197
          refine awp_dseq_all [0, 1, 5, 6, 7, 8, 73] mixed (by kernel_rfl) (by kernel_rfl) (by kernel_rfl) fun K hK => ?_
          simp (decide := true) only [aOps_nil, ev, absV, absS, putD, Slots.put, Slots.get, Slots.keep, if_true, if_false, true_and, ↓ap_move, pop_move, ↓ap_len, pop_len, pLen_slice Tryd.underlying23, ↓ap_binOp, pop_binOp, isNilC_tmp, cond_false, pBinX_int, pI_geq, ↓ag_move, agP, agQ_some, nthDst, gKnown_bool, guardB_bool_false, implies_true, decide_true, decide_false, Bool.not_false, Bool.not_true, condV_true, forall_const, Bool.and_true, ↓ag_indexAddrL, agQL_some, agL_mk, pIndexAddr_slice Tryd.underlying37 sz23, ↓ag_loadL, pLoad_one ag23, pIndexAddr_slice Tryd.underlying23 sz35, pLoad_agg ag35 sz35, ↓ag_binOp, pBinX_agg, ne35, ↓ap_pick, pop_pick, pPick_bool, pickV_and, ↓ag_fieldAddr, pop_fieldAddr, fa35_0, pLoad_one ag33, isNilC_int, pI_eql, cellsAt, lv_bool, lv_int, lv_str, allLive, Bool.and_true, hel, hql, Int.toNat_natCast, Nat.mul_one, Nat.add_zero, hge, d0, d1, d2', d3', d4', e0, e1, e2', e3', e4', hk6', beq_self_eq_true]
          repeat (with_reducible refine And.intro ?_ ?_; · first | trivial | omega | (intro hg; simp only [Bool.and_eq_true, Bool.or_eq_true, Bool.not_eq_true', Bool.and_eq_false_iff, Bool.or_eq_false_iff, Bool.not_eq_false', decide_eq_true_eq, decide_eq_false_iff_not, eqNil] at hg; omega) )
          apply hK; clear hK K
          refine awp_cond (b := _) rfl (fun hb5 => ?_) (fun hb5 => ?_)
          · exact absurd hb5 (by simp)
          · try simp only at hb5
            refine awp_skip ?_
            change Awp _ _ _ _ _ _ _
            -- region 15  law.go:200
            refine awp_r [0, 1, 5, 6, 7, 8] (by rfl) ?_
            simp (decide := true) only [aOps_nil, ev, absV, absS, putD, Slots.put, Slots.get, Slots.keep, if_true, if_false, true_and, ↓ap_move, pop_move, ↓ap_binOp, pop_binOp, isNilC_int, cond_false, pBinX_int, pI_add, ↓ap_assign, pop_assign]
            try simp (disch := omega) only [wrap_i64]
            change Awp _ _ _ _ _ _ _
            -- region 12  law.go:196
            refine awp_r [0, 1, 5, 6, 7, 8] (by rfl) ?_
            simp (decide := true) only [aOps_nil, ev, absV, absS, putD, Slots.put, Slots.get, Slots.keep, if_true, if_false, true_and, ↓ap_move, pop_move, ↓ap_binOp, pop_binOp, isNilC_int, cond_false, pBinX_int, pI_add, ↓ap_assign, pop_assign]
            try simp (disch := omega) only [wrap_i64]
            try simp only [thenA_normal]
            exact ⟨j + 1, rfl, Sub.refl _, hj', by omega⟩
        · try simp only [decide_eq_false_iff_not] at hb4
          have hje : j = pq.length := by omega
          subst hje
          have hfit := hpa.fit
          have hrest := hpa.rest
          obtain ⟨n, hn⟩ : ∃ n, n = k + pq.length := ⟨_, rfl⟩
          rw [← hn] at hfit hrest ⊢
          obtain ⟨kb, hkb⟩ : ∃ kb : Int, kb = if n < l.length then ((l.getD n badT).kind.toNat : Int) else 0 := ⟨_, rfl⟩
          have hX : condV (decide ((n : Int) < l.length)) (rd w₀ h3q1 lc (o + n * 5)) = condV (decide ((n : Int) < l.length)) (.int .u8 kb) := by
            by_cases z : n < l.length
            · rw [(tok_at hv3 z).1, hkb, if_pos z]
            · rw [decide_eq_false (show ¬ (n : Int) < l.length by omega)]
              rfl
          have hXl : (decide ((n : Int) < l.length) = true → (rd w₀ h3q1 lc (o + n * 5)).live = true) = True := eq_true fun z => by
            rw [decide_eq_true_eq] at z
            rw [(tok_at hv3 (show n < l.length by omega)).1]
            rfl
          refine awp_exit ?_
          change Awp _ _ _ _ _ _ _
          -- region 16  law.go:202
          refine awp_rseq [0, 1, 5, 6, 7, 87] (by rfl) fun K hK => ?_
          simp (decide := true) only [aOps_nil, ev, absV, absS, putD, Slots.put, Slots.get, Slots.keep, if_true, if_false, true_and, ↓ap_move, pop_move, ↓ap_len, pop_len, pLen_slice Tryd.underlying23, ↓ap_binOp, pop_binOp, isNilC_tmp, cond_false, pBinX_int, pI_lss, ↓ag_move, agP, agQ_some, nthDst, gKnown_bool, guardB_bool_true, implies_true, ↓ag_indexAddrL, agQL_some, agL_mk, agL_il1, agL_ir1, pIndexAddr_slice Tryd.underlying23 sz35, ↓ag_fieldAddr, pop_fieldAddr, fa35_0, cv_fieldAddr, cp_fieldAddr, ↓ag_loadL, agL_ld1, pLoad_one ag33, ↓ag_binOp, isNilC_int, cv_binl, cp_binl, pI_eql, ↓ap_pick, pop_pick, pPick_bool, pickV_cond_l, pickV_and, Int.toNat_natCast, Nat.add_zero, hX, hXl]
          repeat (with_reducible refine And.intro ?_ ?_; · first | trivial | omega | (intro hg; simp only [decide_eq_true_eq] at hg; omega) )
          apply hK; clear hK K
          refine awp_cond (b := _) rfl (fun hb6 => ?_) (fun hb6 => ?_)
          · try simp only [decide_eq_true_eq, Bool.and_eq_true] at hb6
            have hA : (n < l.length ∧ (l.getD n badT).kind = 6 ∧ splitGo (l.drop (n + 1)) [] = (splitE l).drop (i + 1)) := by
              rcases hrest with q | q
              · exact q
              · exfalso
                omega
            -- region 17  law.go:203
            refine awp_r [0, 1, 5, 6, 7] (by rfl) ?_
            simp (decide := true) only [aOps_nil, ev, absV, absS, putD, Slots.put, Slots.get, Slots.keep, if_true, if_false, true_and, ↓ap_move, pop_move, ↓ap_binOp, pop_binOp, isNilC_int, cond_false, pBinX_int, pI_add, ↓ap_assign, pop_assign]
            try simp (disch := omega) only [wrap_i64]
            change Awp _ _ _ _ _ _ _
            -- region 7  law.go:192
            refine awp_r [0, 1, 5, 6, 7] (by rfl) ?_
            simp (decide := true) only [aOps_nil, ev, absV, absS, putD, Slots.put, Slots.get, Slots.keep, if_true, if_false, true_and, ↓ap_move, pop_move, ↓ap_binOp, pop_binOp, isNilC_int, cond_false, pBinX_int, pI_add, ↓ap_assign, pop_assign]
            try simp (disch := omega) only [wrap_i64]
            try simp only [thenA_normal]
            first
            | exact ⟨⟨i + 1, n + 1⟩, rfl, Sub.refl _, ⟨hi, hA.1, hA.2.2⟩, by simp only; omega⟩
            | exact ⟨⟨i + 1, n⟩, rfl, Sub.refl _, ⟨hi, by simp only; omega, by rw [hqs]; exact hB.2.2.2⟩, by simp only; omega⟩
          · try simp only [decide_eq_false_iff_not, Bool.and_eq_false_iff] at hb6
            have hB : n = l.length ∧ i + 1 = (splitE l).length ∧ pq.length ≠ 0 ∧ splitGo (l.drop n) [] = (splitE l).drop (i + 1) := by
              rcases hrest with q | q
              · exfalso
                rcases hb6 with z | z
                · omega
                · apply z
                  rw [hkb, if_pos q.1, q.2.1]
                  rfl
              · exact q
            rw [hqs, List.length_map] at hB
            -- region 18  law.go:204
            refine awp_rseq [0, 1, 5, 6, 7, 102] (by rfl) fun K hK => ?_
            simp (decide := true) only [aOps_nil, ev, absV, absS, putD, Slots.put, Slots.get, Slots.keep, if_true, if_false, true_and, ↓ap_move, pop_move, ↓ap_len, pop_len, pLen_slice Tryd.underlying37, ↓ap_binOp, pop_binOp, isNilC_int, cond_false, pBinX_int, pI_sub, isNilC_tmp, pI_neq, ↓ag_move, agP, agQ_some, nthDst, gKnown_bool, guardB_bool_false, implies_true, Bool.not_not, ↓ag_indexAddrL, agQL_some, agL_mk, agL_il5, agL_ir5, pIndexAddr_slice Tryd.underlying37 sz23, ↓ag_loadL, agL_ld5, pLoad_one ag23, ↓ag_len, cv_len, cp_len, ↓ag_binOp, cv_binl, cp_binl, pI_eql, ↓ap_pick, pop_pick, pPick_bool, pickV_cond_rn, pickV_or, hel, hql, nq, Int.toNat_natCast, Nat.mul_one]
            try simp (disch := omega) only [wrap_i64]
            repeat (with_reducible refine And.intro ?_ ?_; · first | trivial | omega | (intro hg; simp only [Bool.and_eq_true, Bool.or_eq_true, Bool.not_eq_true', Bool.and_eq_false_iff, Bool.or_eq_false_iff, Bool.not_eq_false', decide_eq_true_eq, decide_eq_false_iff_not, eqNil] at hg; omega) )
            apply hK; clear hK K
            refine awp_cond (b := _) rfl (fun hb7 => ?_) (fun hb7 => ?_)
            · try simp only [decide_eq_true_eq, decide_eq_false_iff_not, Bool.not_eq_true', Bool.or_eq_true] at hb7
              rcases hb7 with z | z <;> omega
            · try simp only [decide_eq_true_eq, decide_eq_false_iff_not, Bool.not_eq_false', Bool.or_eq_false_iff] at hb7
              refine awp_skip ?_
              change Awp _ _ _ _ _ _ _
              -- region 7  law.go:192
              refine awp_r [0, 1, 5, 6, 7] (by rfl) ?_
              simp (decide := true) only [aOps_nil, ev, absV, absS, putD, Slots.put, Slots.get, Slots.keep, if_true, if_false, true_and, ↓ap_move, pop_move, ↓ap_binOp, pop_binOp, isNilC_int, cond_false, pBinX_int, pI_add, ↓ap_assign, pop_assign]
              try simp (disch := omega) only [wrap_i64]
              try simp only [thenA_normal]
              first
              | exact ⟨⟨i + 1, n + 1⟩, rfl, Sub.refl _, ⟨hi, hA.1, hA.2.2⟩, by simp only; omega⟩
              | exact ⟨⟨i + 1, n⟩, rfl, Sub.refl _, ⟨hi, by simp only; omega, by rw [hqs]; exact hB.2.2.2⟩, by simp only; omega⟩
    · try simp only [decide_eq_false_iff_not] at hb2
      have hke : k = l.length := by
        have h1 : (splitE l).drop i = [] := List.drop_eq_nil_of_le (by rw [hqs, List.length_map]; omega)
        rw [h1] at g3
        have h2 := congrArg List.length (splitGo_nil g3)
        rw [List.length_drop, List.length_nil] at h2
        omega
      subst hke
      have hs0 : (decide ((l.length : Int) = m.length)) = (decide (l.length = m.length) && sameTo l m 0) := by
        rw [show sameTo l m 0 = true from rfl, Bool.and_true]
        exact decide_eq_decide.2 (by omega)
      refine awp_exit ?_
      change Awp _ _ _ _ _ _ _
      -- region 20  law.go:208
      refine awp_rseq [0, 1, 5, 6, 9] (by rfl) fun K hK => ?_
      simp (decide := true) only [aOps_nil, ev, putD, Slots.put, Slots.get, Slots.keep, if_true, if_false, true_and, ↓ap_move, pop_move, ↓ap_len, pop_len, ↓ap_binOp, pop_binOp, isNilC_tmp, cond_false, pBinX_int, pI_eql, ↓ap_assign, pop_assign, nv, nw]
      apply hK; clear hK K
      refine awp_seq ?_
      -- region 21  law.go:209
      refine awp_rseq [0, 1, 5, 6, 9, 10] (by rfl) fun K hK => ?_
      simp (decide := true) only [aOps_nil, ev, absV, absS, putD, Slots.put, Slots.keep, if_true, if_false, true_and, ↓ap_assign, pop_assign]
      apply hK; clear hK K
      refine awp_block ?_
      refine awp_loopG [0, 1, 5, 6, 9, 10] (fun i : Nat => [(0, v), (1, w), (5, x3q1), (6, .int .i64 l.length), (9, .bool (decide (l.length = m.length) && sameTo l m i)), (10, .int .i64 i)]) (fun i : Nat => h3q1) (fun i : Nat => i ≤ l.length) (fun i : Nat => l.length - i) 0 (by rw [hs0]; rfl) (Sub.refl _) (Nat.zero_le _) ?_
      intro i hi
      refine awp_seq ?_
      -- region 22  law.go:209
      refine awp_rseq [0, 1, 5, 6, 9, 10, 114] (by rfl) fun K hK => ?_
      simp (decide := true) only [aOps_nil, ev, absV, absS, putD, Slots.put, Slots.get, Slots.keep, if_true, if_false, true_and, ↓ap_move, pop_move, ↓ap_len, pop_len, ↓ap_binOp, pop_binOp, isNilC_tmp, cond_false, pBinX_int, pI_lss, ↓ag_move, agP, agQ_some, nthDst, gKnown_bool, guardB_bool_true, implies_true, ↓ap_pick, pop_pick, pPick_bool, pickV_cond_l, pickV_and, nv]
      apply hK; clear hK K
      refine awp_cond (b := _) rfl (fun hb8 => ?_) (fun hb8 => ?_)
      · try simp only [decide_eq_true_eq, Bool.and_eq_true] at hb8
        have hi' : i < l.length := by omega
        have hle : l.length = m.length := by
          have := hb8.2.1
          exact this
        have hsi := hb8.2.2
        obtain ⟨lc, o, c, rfl⟩ := tok_open hv (by omega)
        obtain ⟨lw, ow, cw, rfl⟩ := tok_open hw (by omega)
        obtain ⟨e0, e1, _, _, _⟩ := tok_at hv3 hi'
        obtain ⟨d0, d1, _, _, _⟩ := tok_at hw3 (i := i) (by omega)
        have hst := sameTo_step hi' (show i < m.length by omega)
        obtain ⟨a, ha⟩ : ∃ a, a = l.getD i badT := ⟨_, rfl⟩
        obtain ⟨b, hb⟩ : ∃ b, b = m.getD i badT := ⟨_, rfl⟩
        rw [← ha] at e0 e1 hst
        rw [← hb] at d0 d1 hst
        have ek : decide ((a.kind.toNat : Int) = b.kind.toNat) = decide (a.kind = b.kind) := decide_eq_decide.2 ⟨fun q => UInt8.toNat_inj.1 (by omega), fun q => by rw [q]⟩
        rw [hsi, Bool.true_and] at hst
        refine awp_skip ?_
        change Awp _ _ _ _ _ _ _
        refine awp_seq ?_
        refine awp_block ?_
        -- region 24  law.go:210
        refine awp_draw_all mixed (by kernel_rfl) (by rfl) (by rfl) ?_
        simp (decide := true) only [aOps_nil, ev, absV, absS, putD, Slots.put, Slots.get, if_true, if_false, true_and, ↓ap_move, pop_move, ↓ap_indexAddrL, apL_mk, pIndexAddr_slice Tryd.underlying23 sz35, ↓ap_fieldAddr, pop_fieldAddr, fa35_0, ↓ap_loadL, pLoad_one ag33, ↓ap_binOp, pop_binOp, isNilC_tmp, cond_false, pBinX_int, pI_eql, ↓ag_move, agP, agQ_some, nthDst, gKnown_bool, guardB_bool_true, implies_true, ↓ag_indexAddrL, agQL_some, agL_mk, agL_il1, agL_ir1, ↓ag_fieldAddr, fa35_1, cv_fieldAddr, cp_fieldAddr, ↓ag_loadL, agL_ld1, pLoad_one ag9, ↓ag_binOp, cv_binl, cv_binr, cp_binl, cp_binr, pBinX_str, pS_eql, ↓ap_pick, pop_pick, pPick_bool, pickV_cond_l, pickV_and, ↓ap_assign, pop_assign, lv_int, lv_str, e0, e1, d0, d1, ek, Int.toNat_natCast, Nat.add_zero]
        repeat (with_reducible refine And.intro ?_ ?_; · first | trivial | omega | (intro hg; simp only [Bool.and_eq_true, Bool.or_eq_true, Bool.not_eq_true', Bool.and_eq_false_iff, Bool.or_eq_false_iff, Bool.not_eq_false', decide_eq_true_eq, decide_eq_false_iff_not, eqNil] at hg; omega) )
        change Awp _ _ _ _ _ _ _
        -- region 23  law.go:209
        refine awp_r [0, 1, 5, 6, 9, 10] (by rfl) ?_
        simp (decide := true) only [aOps_nil, ev, absV, absS, putD, Slots.put, Slots.get, Slots.keep, if_true, if_false, true_and, ↓ap_move, pop_move, ↓ap_binOp, pop_binOp, isNilC_int, cond_false, pBinX_int, pI_add, ↓ap_assign, pop_assign]
        try simp (disch := omega) only [wrap_i64]
        try simp only [thenA_normal]
        exact ⟨i + 1, by rw [hst, decide_eq_true hle]; rfl, Sub.refl _, hi', by omega⟩
      · try simp only [decide_eq_false_iff_not, Bool.and_eq_false_iff] at hb8
        have hfin : (decide (l.length = m.length) && sameTo l m i) = sameE l m := by
          by_cases hle : l.length = m.length
          · rw [decide_eq_true hle, Bool.true_and]
            rcases hb8 with z | z | z
            · unfold sameTo
              rw [List.take_of_length_le (by omega), List.take_of_length_le (by omega)]
            · exact absurd hle z
            · rw [z]
              cases hq : sameE l m with
              | false => rfl
              | true =>
                have := sameE_pre i l m hq
                unfold sameTo at z
                rw [this] at z
                cases z
          · rw [decide_eq_false hle, Bool.false_and, sameE_len hle]
        rw [hfin]
        refine awp_exit ?_
        change Awp _ _ _ _ _ _ _
        -- region 25  law.go:212
        refine awp_rseq [4] (by kernel_rfl) fun K hK => ?_
        simp (decide := true) only [ev, absV, absS, putD, Slots.put, Slots.get, if_true, if_false, true_and, ↓ap_move, pop_move, ↓ap_len, pop_len, ↓ap_binOp, pop_binOp, isNilC_tmp, cond_false, pBinX_int, pI_eql, ↓ag_move, agP, agQ_some, nthDst, gKnown_bool, guardB_bool_true, implies_true, decide_true, condV_true, Bool.and_true, ↓ag_cap, pop_cap, ↓ag_len, ↓ag_binOp, ↓ap_pick, pop_pick, pPick_bool, pickV_and, Bool.and_true, nv, np, ncp]
        (refine aOps_yes (by rfl) ?_; refine aOps_callV (V := .bool (sameE l m)) (by rfl) (by rfl) (c_Same w₀ _ v w l m hv3 hw3 (by omega)) ?_)
        simp (decide := true) only [ev, absV, absS, putD, Slots.put, Slots.get, if_true, if_false, true_and, nthDst, guardB_bool_true, ↓ag_move, pop_move, agP, agQ_some, gKnown_bool, implies_true, condV_true, Bool.true_and, ↓ag_binOp, pop_binOp, isNilC_tmp, cond_false, pBinX_beq, Tryd.underlying4, ↓ap_pick, pop_pick, pPick_bool, pickV_and, ↓ap_move]
        (refine aOps_gcall (V := .bool true) (f := _) (cap := _) (xs := _) (by first | rfl | (simp (decide := true) only [gv, nthDst, Slots.get, if_true, if_false, gKnown_cond, gKnown_bool])) (fun hg => ⟨rfl, ?_⟩) (fun hg => by rw [← sameE_refl l]; exact c_Same w₀ _ v v l l hv3 hv3 (by omega)) ?_; · (simp (decide := true) only [gv, nthDst, Slots.get, if_true, if_false, guardB_bool_true] at hg; simp (decide := true) only [evs, ev, Slots.get, if_true, if_false, hg, condV_true, List.append_nil, List.map_cons, List.map_nil] <;> try rfl))
        simp (decide := true) only [ev, absV, absS, putD, Slots.put, Slots.get, if_true, if_false, true_and, gv, nthDst, guardB_bool_true, ↓ap_pick, pop_pick, pPick_bool, pickV_cond_l, pickV_and, ↓ap_move, pop_move, Bool.and_true]
        (refine aOps_gcall (V := .bool true) (f := _) (cap := _) (xs := _) (by first | rfl | (simp (decide := true) only [gv, nthDst, Slots.get, if_true, if_false, gKnown_cond, gKnown_bool])) (fun hg => ⟨rfl, ?_⟩) (fun hg => c_lives03 w₀ hm _) ?_; · (simp (decide := true) only [gv, nthDst, Slots.get, if_true, if_false, guardB_bool_true] at hg; simp (decide := true) only [evs, hg, condV_true, List.append_nil, List.map_nil] <;> try rfl))
        simp (decide := true) only [aOps_nil, ev, absV, absS, putD, Slots.put, Slots.get, Slots.keep, if_true, if_false, true_and, gv, nthDst, guardB_bool_true, ↓ap_pick, pop_pick, pPick_bool, pickV_cond_l, pickV_and, ↓ap_assign, pop_assign, Bool.and_true]
        apply hK; clear hK K
        refine awp_ret ?_
        refine retA_ret h (by repeat (first | exact Sub.refl _ | assumption | refine Sub.trans_set ?_ (by assumption))) (resPre_tmp (resPre_nil)) ?_
        simp (decide := true) only [Slots.get, if_true, and_true, resOf_one]
        rw [beq_self_eq_true]
end Go.Proofs.YtmadddihphkmoaaDoor

/-
  The arguments of the statements, opened: booleans, texts, integers, pairs of bytes; the wrap that hands on the world's shape.
  Conditions: none.
-/
namespace Go.Proofs.YtmadddihphkmoaaDoor
open Go.AM
open Go.ChangeShapes Go.WideShapes Go.ChangeAt Go.RowKit
set_option maxRecDepth 100000

section
variable {H : Type} {enc : TypeId × Value → H} {W : World} {base : Nat} {v : Value} {x : DataW H × List MemPlace}
end

/-- The plain wrap of a row with listed variables, the world's shape handed on. -/
theorem returns_and_shaped {H : Type} {enc : TypeId × Value → H} {a : Assume} {C : Checked} {os : Os} {f : FuncId} {fn : Func} {s : ChangeSpec} {conds : List PathCond} {apart fresh handsOn again : Bool} {X : World → Array Value → Prop}
    (hX : ∀ (w w' : World) (args : Array Value), w.heap = w'.heap → X w args → X w' args)
    (own : ownKnob C.prog.godebug = none) (started : os.Started) (noInit : C.prog.inits.idxOf? f = none) (hfn : C.prog.funcs[f]? = some fn)
    (witness : ∃ (w : World) (tape : Tape) (i : Input), w.os = os ∧ (w.forCall tape i).Shaped C.prog ∧ i.vars = [] ∧ Input.okWide C.prog (w.forCall tape i) .any w.heap.size f i ∧
      ((s.pre enc C.prog fn conds apart (w.forCall tape i).memory i.args ∧ X (w.forCall tape i).memory i.args) ∧ sizedMet enc C.prog fn (OpenSpec.ofChange s) apart (w.forCall tape i).memory i.args) ∧ a.holds C.prog (lone (Frame.enter C.prog f i.args .normal) [] (w.forCall tape i)))
    (contract : ∀ (W : World) (base : Nat) (args : Array Value) (ds gs : List (DataW H)) (before : List MemPlace), W.ShapedOpen C.prog →
      (∀ (j : Nat) t v, fn.params[j]? = some t → args[j]? = some v → Value.okWide C.prog W .any base t v) →
      DataW.Whole enc C.prog fn.params.toList s.vars apart W args.toList ds gs before →
      conds.all (PathCond.test C.prog ⟨fn.params.toList, ds, s.plain.varTypes C.prog, gs⟩) = true →
      (DataW.weightsEach C.prog (fn.params.toList ++ s.plain.varTypes C.prog) (ds ++ gs)).all (· ≤ reachBytes) = true → X W args →
      a.holds C.prog (lone (Frame.enter C.prog f args .normal) [] W) →
      Calls C.prog f args W fun e W' => ∃ v, e = .returned v ∧ s.post enc C.prog fn apart fresh handsOn again W args v W') :
    ReturnsInHanded a C os f .any (fun w args => (s.pre enc C.prog fn conds apart w args ∧ X w args) ∧ sizedMet enc C.prog fn (OpenSpec.ofChange s) apart w args) (s.post enc C.prog fn apart fresh handsOn again) := by
  refine returnsInHanded_of_calls own started noInit witness ?_
  intro w tape i _ hsh _ hok hpre hholds
  obtain ⟨_, _, _, fn', hfn', _, _, _, _, hval⟩ := hok
  have e : fn' = fn := Option.some.inj (hfn'.symm.trans hfn)
  subst e
  obtain ⟨⟨⟨ds, gs, before, hw, hc⟩, hx⟩, hz⟩ := hpre
  have hw' := DataW.Whole.of_heap (w' := w.forCall tape i) (by rfl) hw
  refine (contract (w.forCall tape i) w.heap.size i.args ds gs before hsh hval hw' hc (hz.weights hw) (hX _ _ _ (by rfl) hx) hholds).mono fun e W' ⟨v, he, hp⟩ => ?_
  subst he
  exact ChangeSpec.post_blind hp
end Go.Proofs.YtmadddihphkmoaaDoor

/-
  What the world of a statement about columns gives: the listed table, the cell of the longest text.
  Conditions: none.
-/
namespace Go.Proofs.YtmadddihphkmoaaDoor
open Go.AM
open Go.ChangeShapes Go.WideShapes Go.ChangeAt Go.RowKit
set_option maxRecDepth 100000
/-- The listed table of powers of ten. -/
theorem maxl_of {W : World} (h : W.ShapedOpen Tryd.prog) : MaxL W :=
  cell_of_shapedOpen_int (t := 3) (zero := #[.int .i64 0]) h (of_decide_eq_true (by kernel_rfl)) (by kernel_rfl) rfl (by kernel_rfl) (by kernel_rfl) Tryd.underlying3
end Go.Proofs.YtmadddihphkmoaaDoor

/-
  The arguments of the statements, opened: tokens.
  Conditions: none.
-/
namespace Go.Proofs.YtmadddihphkmoaaDoor
open Go.AM
open Go.Col
open Go.Tok
open Go.ChangeShapes Go.WideShapes Go.ChangeAt Go.RowKit
set_option maxRecDepth 100000

section
variable {H : Type} {enc : TypeId × Value → H} {W : World} {base : Nat} {v : Value} {x : DataW H × List MemPlace}

def tokVs (m : TokC) : List Value := [.int .u8 m.kind.toNat, .string ⟨⟨m.text⟩⟩, .int .i64 m.line, .int .i64 m.col, .bool m.left]
theorem tok_cells {n : Nat} {cs : List Value} {y : DataW H × List MemPlace} (h : DataW.trod enc Tryd.prog W 0 (fun _ => true) true n 35 cs = some y) :
    ∃ m : TokC, cs = tokVs m ∧ m.text.length ≤ 9223372036854775807 := by
  obtain ⟨y0, y1, y2, y3, n', _, hl, h0, h1, h2, h3⟩ := Go.Joins.trod_struct4 Tryd.underlying35 h
  obtain ⟨z0, z1, n'', _, hl', g0, g1⟩ := trod_struct2 Tryd.underlying26 h2
  rw [show Tryd.prog.cellsOf 35 = 5 by kernel_rfl] at hl
  match cs, hl with
  | [c0, c1, c2, c3, c4], _ =>
    simp only [show Tryd.prog.cellsOf 33 = 1 by kernel_rfl, show Tryd.prog.cellsOf 9 = 1 by kernel_rfl, show Tryd.prog.cellsOf 4 = 1 by kernel_rfl, show Tryd.prog.cellsOf 3 = 1 by kernel_rfl, show Tryd.prog.cellsOf 26 = 2 by kernel_rfl, List.drop_zero, List.drop_succ_cons, List.take_succ_cons, List.take_zero] at h0 h1 h2 h3 g0 g1
    obtain ⟨a, e0, _, ha⟩ := DataW.trod_int Tryd.underlying33 h0
    obtain ⟨s, e1, _, hs⟩ := DataW.trod_string Tryd.underlying9 h1
    obtain ⟨b, e2, _, _⟩ := DataW.trod_int Tryd.underlying3 g0
    obtain ⟨c, e3, _, _⟩ := DataW.trod_int Tryd.underlying3 g1
    obtain ⟨d, e4, _⟩ := DataW.trod_bool Tryd.underlying4 h3
    simp only [List.cons.injEq, and_true] at e0 e1 e2 e3 e4
    subst e0 e1 e2 e3 e4
    obtain ⟨a0, a1⟩ := wf_u8 ha
    refine ⟨⟨UInt8.ofNat a.toNat, s.data.toList, b, c, d⟩, ?_, str_le hs⟩
    unfold tokVs
    have ea : ((UInt8.ofNat a.toNat).toNat : Int) = a := by
      rw [UInt8.toNat_ofNat']
      omega
    simp only [ea]
theorem toks_row {a : Addr} {len : Nat} (h : ∀ i, i < len → ∃ m : TokC, m.text.length ≤ 9223372036854775807 ∧ ∀ j, j < 5 → W.cell? (a.add (i * 5 + j)) = (tokVs m)[j]?) :
    ∃ ms : List TokC, ms.length = len ∧ (∀ m ∈ ms, m.text.length ≤ 9223372036854775807) ∧ ∀ i, i < len → ∀ j, j < 5 → W.cell? (a.add (i * 5 + j)) = (tokVs (ms.getD i badT))[j]? := by
  induction len with
  | zero => exact ⟨[], rfl, by simp, fun i hi => by omega⟩
  | succ n ih =>
    obtain ⟨ms, h1, h3, h2⟩ := ih fun i hi => h i (by omega)
    obtain ⟨m, hm3, hm⟩ := h n (by omega)
    refine ⟨ms ++ [m], by simp [h1], ?_, fun i hi j hj => ?_⟩
    · intro x hx
      rw [List.mem_append, List.mem_singleton] at hx
      rcases hx with hx | rfl
      · exact h3 x hx
      · exact hm3
    by_cases hin : i < n
    · have : (ms ++ [m]).getD i badT = ms.getD i badT := by simp only [List.getD, List.getElem?_append_left (show i < ms.length by omega)]
      rw [this]
      exact h2 i hin j hj
    · have hin' : i = n := by omega
      subst hin'
      have : (ms ++ [m]).getD i badT = m := by simp [List.getD, h1]
      rw [this]
      exact hm j hj
theorem isL_toks {w : World} {b o len cap : Nat} {ms : List TokC} (h1 : ms.length = len) (hcap : len ≤ cap) (h2 : ∀ i, i < len → ∀ j, j < 5 → w.cell? ((⟨b, o, none⟩ : Addr).add (i * 5 + j)) = (tokVs (ms.getD i badT))[j]?) :
    IsL w (fun _ => none) 5 (.slice (.base b) o len (.exact cap)) (ms.map tokC) := by
  refine .mk _ _ _ _ _ (by rw [List.length_map, h1]) tokC_wide ?_ (allLive_flatten.2 fun x hx => by obtain ⟨y, _, rfl⟩ := List.mem_map.1 hx; rfl) hcap
  apply List.ext_getElem?
  intro q
  by_cases hq : q < len * 5
  · rw [cellsAt_get _ _ _ _ _ _ hq]
    obtain ⟨i, hi⟩ : ∃ i, i = q / 5 := ⟨_, rfl⟩
    obtain ⟨j, hj⟩ : ∃ j, j = q % 5 := ⟨_, rfl⟩
    have hqe : q = i * 5 + j := by omega
    have hi' : i < len := by omega
    have hj' : j < 5 := by omega
    have hcell := h2 i hi' j hj'
    have ea : (⟨b, o, none⟩ : Addr).add (i * 5 + j) = ⟨b, o + (i * 5 + j), none⟩ := by by_cases e : i * 5 + j = 0 <;> simp [Addr.add, e] <;> omega
    rw [ea] at hcell
    rw [hqe, flatten_get tokC_wide (by rw [List.length_map]; omega) hj', getD_map badT (by omega)]
    have fin : ∀ z : Value, w.cell? ⟨b, o + (i * 5 + j), none⟩ = some z → AM.rd w (fun _ => none) (.base b) (o + (i * 5 + j)) = absS z := fun z hz => by
      have hlt : b < w.heap.size := cell_lt hz
      simp only [AM.rd, hlt, if_true, hz]
    match j, hj' with
    | 0, _ => rw [fin _ hcell]; rfl
    | 1, _ => rw [fin _ hcell]; rfl
    | 2, _ => rw [fin _ hcell]; rfl
    | 3, _ => rw [fin _ hcell]; rfl
    | 4, _ => rw [fin _ hcell]; rfl
  · rw [List.getElem?_eq_none (by rw [cellsAt_length]; omega), List.getElem?_eq_none (by rw [flatten_len tokC_wide, List.length_map, h1]; omega)]
theorem arg_Tokens (h : ∃ fuel, DataW.trod enc Tryd.prog W 0 (fun _ => true) true fuel 23 v.cells.toList = some x) (hv : Value.okWide Tryd.prog W .any base 23 v) :
    ∃ (l : List TokC) (y : AVal), VR (fun _ => none) y v ∧ IsL W (fun _ => none) 5 y (l.map tokC) ∧ l.length ≤ 9223372036854775807 ∧ ∀ t ∈ l, t.text.length ≤ 9223372036854775807 := by
  obtain ⟨fuel, h2⟩ := h
  obtain ⟨a0, len0, cap0, rfl⟩ := okWide_slice Tryd.underlying23 hv
  have h2' : DataW.trod enc Tryd.prog W 0 (fun _ => true) true fuel 23 [.slice a0 len0 cap0] = some x := h2
  have fin : ∀ (y : AVal) (ms : List TokC), VR (fun _ => none) y (.slice a0 len0 cap0) → IsL W (fun _ => none) 5 y (ms.map tokC) → ms.length ≤ 9223372036854775807 → (∀ m ∈ ms, m.text.length ≤ 9223372036854775807) → ∃ (l : List TokC) (y : AVal), VR (fun _ => none) y (.slice a0 len0 cap0) ∧ IsL W (fun _ => none) 5 y (l.map tokC) ∧ l.length ≤ 9223372036854775807 ∧ ∀ t ∈ l, t.text.length ≤ 9223372036854775807 :=
    fun y ms q1 q2 q3 q4 => ⟨ms, y, q1, q2, q3, q4⟩
  rcases DataW.trod_slice Tryd.underlying23 h2' with ⟨hcs, _⟩ | ⟨a, len, cap, elems, rest, n', _, hcs, _, _, hlc, hcm, hel, hcell, hspare, _⟩
  · simp only [List.cons.injEq, and_true] at hcs
    rw [hcs] at fin ⊢
    exact fin .nilSlice [] (by simp [VR]) .nil (by simp) (by simp)
  · simp only [List.cons.injEq, and_true] at hcs
    rw [hcs] at fin ⊢
    have hlen : len ≤ 9223372036854775807 := Nat.le_trans hlc hcm
    obtain ⟨ms, m1, m3, m2⟩ := toks_row (W := W) (a := a) (len := len) fun i hi => by
      have he := hcell i hi
      rw [List.getElem?_eq_getElem (by omega), Option.bind_eq_some_iff] at he
      obtain ⟨cs', hcs', hy⟩ := he
      obtain ⟨m, rfl, hmt⟩ := tok_cells hy
      rw [show Tryd.prog.cellsOf 35 = 5 by kernel_rfl] at hcs'
      refine ⟨m, hmt, fun j hj => ?_⟩
      have := (World.cells?_some hcs').2.2 j hj
      rw [← this]
      congr 1
      obtain ⟨ab, ao, asp⟩ := a
      by_cases e1 : i * 5 = 0 <;> by_cases e2 : j = 0 <;> simp [Addr.add, e1, e2, Nat.add_assoc]
    obtain ⟨ab, ao, asp⟩ := a
    rcases Nat.eq_zero_or_pos len with e | e
    · have hms : ms = [] := List.eq_nil_of_length_eq_zero (by omega)
      subst hms
      subst e
      refine fin (.slice (.base ab) ao 0 (.exact cap)) [] ?_ (isL_toks rfl (Nat.zero_le _) fun i hi => by omega) (by simp) (by simp)
      simp only [VR]
      refine ⟨_, rfl, fun hc => ?_⟩
      have hc : 0 < cap := by omega
      obtain ⟨r1, r2⟩ := hspare rfl
      have hr := r2 0 (by omega)
      rw [List.getElem?_eq_getElem (by omega), Option.bind_eq_some_iff] at hr
      obtain ⟨cs', hcs', hy⟩ := hr
      obtain ⟨m, rfl, hmt⟩ := tok_cells hy
      rw [show Tryd.prog.cellsOf 35 = 5 by kernel_rfl] at hcs'
      have h3 := (World.cells?_some hcs').2.2 0 (by omega)
      have := World.cell?_spot (h3.trans rfl)
      simp only [Addr.add] at this
      simp at this
      subst this
      rfl
    · have hs : asp = none := by
        have := World.cell?_spot (m2 0 (by omega) 0 (by omega))
        simpa [Addr.add] using this
      subst hs
      refine fin (.slice (.base ab) ao len (.exact cap)) ms ?_ (isL_toks m1 hlc m2) (by omega) m3
      simp only [VR]
      exact ⟨_, rfl, fun _ => rfl⟩
end
end Go.Proofs.YtmadddihphkmoaaDoor

