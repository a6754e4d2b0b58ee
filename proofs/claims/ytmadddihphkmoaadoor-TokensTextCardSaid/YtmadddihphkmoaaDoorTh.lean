/-
  Texts of this proof, joined: TkU, TkV, LwR, LwS, LwU.
  Conditions: none.
-/
import Derived.Test.YtmadddihphkmoaaDoorTg
import Derived.Test.YtmadddihphkmoaaDoorProg
import Derived.Test.YtmadddihphkmoaaDoorTb
import Derived.WalkKit
import Derived.ProofKit
import Derived.OpenShut
import Derived.ShutString
import Derived.ChangeOld
import Derived.Below
import Derived.Deep.Strs
import Derived.Handed
import Derived.HandedShaped
import Derived.Shelf.Vars
import Derived.Test.YtmadddihphkmoaaDoorTc
import Derived.Test.YtmadddihphkmoaaDoorRows
import Derived.Lib.LaidTab
import Derived.MakeChecks
import Derived.Lib.SmallJoins
set_option linter.unusedSimpArgs false
set_option linter.unnecessarySimpa false
set_option linter.unusedVariables false
/-
  Contracts: Text of the package tokens.
  Conditions: none.
-/
namespace Go.Proofs.YtmadddihphkmoaaDoor
open Go.AM
open Go.Proofs
open Go.Col
open Go.Tok
open Go.RowKit (Below)
set_option maxRecDepth 100000

def dblE : Str → Str
  | [] => []
  | b :: s => if b = 34 then 34 :: 34 :: dblE s else b :: dblE s
theorem dblE_app : ∀ a b : Str, dblE (a ++ b) = dblE a ++ dblE b
  | [], _ => rfl
  | x :: a, b => by
    rw [List.cons_append, dblE, dblE, dblE_app a b]
    split <;> rfl
theorem dblE_none : ∀ {a : Str}, (34 : UInt8) ∉ a → dblE a = a
  | [], _ => rfl
  | x :: a, h => by
    simp only [List.mem_cons, not_or] at h
    rw [dblE, if_neg (fun e => h.1 e.symm), dblE_none h.2]
theorem dblE_len (s : Str) : (dblE s).length ≤ 2 * s.length := by
  induction s with
  | nil => exact Nat.le_refl _
  | cons b s ih =>
    rw [dblE]
    split <;> simp only [List.length_cons] <;> omega
theorem repl_eq : ∀ (n : Nat) (s : Str), s.length ≤ n → Lib.replaceK [34] [34, 34] (Lib.count s [34]) s = dblE s
  | 0, s, h => by
    have : s = [] := List.eq_nil_of_length_eq_zero (by omega)
    subst this
    rfl
  | n + 1, s, h => by
    rcases index_one s 34 with ⟨h1, h2⟩ | ⟨i, h1, h2, h3, h4⟩
    · rw [Lib.count_miss h1, dblE_none h2]
      rfl
    · have hc : Lib.count s [34] = Lib.count (s.drop (i + 1)) [34] + 1 := by
        have := Lib.count_hit (s := s) (sub := [34]) (i := i) (by decide) h1
        rw [this, Nat.add_comm]
        rfl
      rw [hc, Lib.replaceK_hit _ _ _ _ i h1]
      have ih := repl_eq n (s.drop (i + 1)) (by rw [List.length_drop]; omega)
      show s.take i ++ [34, 34] ++ Lib.replaceK [34] [34, 34] (Lib.count (s.drop (i + 1)) [34]) (s.drop (i + 1)) = _
      rw [ih]
      conv => rhs; rw [h3, dblE_app, dblE_none h4, dblE, if_pos rfl]
      simp
theorem repl_len (s : Str) : Lib.count s [34] ≤ s.length := by
  have : ∀ (n : Nat) (s : Str), s.length ≤ n → Lib.count s [34] ≤ s.length := by
    intro n
    induction n with
    | zero =>
      intro s h
      have : s = [] := List.eq_nil_of_length_eq_zero (by omega)
      subst this
      exact Nat.le_refl _
    | succ n ih =>
      intro s h
      rcases index_one s 34 with ⟨h1, h2⟩ | ⟨i, h1, h2, h3, h4⟩
      · rw [Lib.count_miss h1]; exact Nat.zero_le _
      · rw [Lib.count_hit (s := s) (sub := [34]) (i := i) (by decide) h1]
        have := ih (s.drop (i + [34].length)) (by rw [List.length_drop]; simp; omega)
        rw [List.length_drop] at this
        simp only [List.length_cons, List.length_nil] at this ⊢
        omega
  exact this _ s (Nat.le_refl _)
theorem c_dbl (w₀ : World) (hm : MaxL w₀) (h : AHeap) (s : Str) (hl : s.length ≤ 100000000) : ACall Tryd.prog w₀ 20 [.str s, .str [34], .str [34, 34]] h (fun v h' => v = .str (dblE s) ∧ h' = h) := by
  obtain ⟨m, hm⟩ := hm
  have hlt : 0 < w₀.heap.size := cell_lt hm
  refine acall_of_callsB (vals := [.string ⟨⟨s⟩⟩, .string ⟨⟨[34]⟩⟩, .string ⟨⟨[34, 34]⟩⟩]) (val := .string ⟨⟨dblE s⟩⟩) Tryd.func20 rfl rfl (fun φ vs hv => ?_) (fun φ => rfl) fun w hb => ?_
  · simp only [VRs, VR] at hv
    obtain ⟨v, vs', rfl, rfl, v2, vs2, rfl, rfl, v3, vs3, rfl, rfl, rfl⟩ := hv
    rfl
  · have hw : w.cell? ⟨0, 0, none⟩ = some (.int .i64 m) := (hb.cell (p := ⟨0, 0, none⟩) hlt).trans hm
    have hcn : Lib.countB ⟨⟨s⟩⟩ ⟨⟨[34]⟩⟩ ≤ s.length := by
      have h1 := repl_len s
      exact h1
    refine (Tryd.strings_ReplaceAll ⟨⟨s⟩⟩ ⟨⟨[34]⟩⟩ ⟨⟨[34, 34]⟩⟩ m w (by show s.length < _; omega) hw (by decide) (by show s.length + _ * 2 ≤ _; omega)).mono fun e w' ⟨e1, e2⟩ => ⟨?_, e2⟩
    rw [e1]
    show Ending.returned (.string ⟨⟨Lib.replaceAll s [34] [34, 34]⟩⟩) = _
    unfold Lib.replaceAll Lib.replace Lib.replaceNum
    rw [if_neg (by decide), if_pos (.inl (by decide)), repl_eq _ _ (Nat.le_refl _)]
/-- A token as text. -/
def textT (t : TokC) : Str := if t.kind = 3 then 34 :: dblE t.text ++ [34] else if t.kind = 6 then [46] else if t.kind = 7 then [61, 61] else t.text
def textE (l : List TokC) : Str := Lib.join (l.map textT) [32]
theorem textT_len (t : TokC) : (textT t).length ≤ 2 * t.text.length + 2 := by
  have := dblE_len t.text
  unfold textT
  split
  · simp; omega
  split
  · simp
  split
  · simp
  · omega
def strT (s : Str) : List AVal := [.str s]
structure TxtOk (h : AHeap) (l : List TokC) (g : Nat × Option Buf) : Prop where
  i : g.1 ≤ l.length
  ok : bufOk h 1 g.2
  eq : bufC g.2 = ((l.take g.1).map fun t => strT (textT t)).flatten
theorem join_lenT {sep : Str} {m : Nat} : ∀ {l : List Str}, (∀ x ∈ l, x.length ≤ m) → (Lib.join l sep).length ≤ l.length * (m + sep.length)
  | [], _ => by simp [Lib.join]
  | [x], h => by
    have := h x (by simp)
    simp [Lib.join]
    omega
  | x :: y :: l, h => by
    have ih := join_lenT (sep := sep) (l := y :: l) fun z hz => h z (by simp [hz])
    have hx := h x (by simp)
    have e : Lib.join (x :: y :: l) sep = x ++ sep ++ Lib.join (y :: l) sep := by
      unfold Lib.join
      rw [List.intercalate_cons_cons]
    rw [e]
    simp only [List.length_append]
    have : (x :: y :: l).length * (m + sep.length) = (y :: l).length * (m + sep.length) + (m + sep.length) := by
      rw [List.length_cons, Nat.add_mul, Nat.one_mul]
    omega
set_option maxHeartbeats 1000000 in
theorem c_Text (w₀ : World) (hm : MaxL w₀) (h : AHeap) (v : AVal) (l : List TokC) (hv : IsL w₀ h 5 v (l.map tokC)) (hl : l.length ≤ 65536) (hb : ∀ t ∈ l, t.text.length ≤ 100000000) :
    ACall Tryd.prog w₀ 11 [v] h (fun r h' => r = .str (textE l) ∧ h' = h) := by
  have hlv := hv.live
  have hlen := tok_len hv
  refine acall_intro (n := 42) (rs := [.tmp 2]) Tryd.func11 rfl rfl rfl rfl (Nat.le_of_ble_eq_true rfl) ?_
  simp only [initSlots]
  -- region 0  tokens.go:245
  refine awp_rseq [0] (by rfl) fun K hK => ?_
  simp (decide := true) only [aOps_nil, ev, absV, absS, putD, Slots.put, Slots.keep, if_true, if_false, true_and, ↓ap_assign, pop_assign]
  repeat (with_reducible refine And.intro ?_ ?_; · first | trivial | omega | (intro hg; simp only [Bool.and_eq_true, Bool.or_eq_true, Bool.not_eq_true', Bool.and_eq_false_iff, Bool.or_eq_false_iff, Bool.not_eq_false', decide_eq_true_eq, decide_eq_false_iff_not, eqNil] at hg; omega) | (simp only [List.length_append, List.length_map, List.length_range, List.length_replicate, List.length_take, List.length_drop, List.length_cons, List.length_nil, List.length_set, List.length_reverse]; omega))
  apply hK; clear hK K
  -- region 1  tokens.go:246
  refine awp_rseq [0, 3] (by rfl) fun K hK => ?_
  simp (decide := true) only [aOps_nil, ev, absV, absS, putD, Slots.put, Slots.keep, if_true, if_false, true_and, ↓ap_assign, pop_assign]
  repeat (with_reducible refine And.intro ?_ ?_; · first | trivial | omega | (intro hg; simp only [Bool.and_eq_true, Bool.or_eq_true, Bool.not_eq_true', Bool.and_eq_false_iff, Bool.or_eq_false_iff, Bool.not_eq_false', decide_eq_true_eq, decide_eq_false_iff_not, eqNil] at hg; omega) | (simp only [List.length_append, List.length_map, List.length_range, List.length_replicate, List.length_take, List.length_drop, List.length_cons, List.length_nil, List.length_set, List.length_reverse]; omega))
  apply hK; clear hK K
  refine awp_seq ?_
  -- region 2  tokens.go:247
  refine awp_rseq [3, 6, 7, 8] (by rfl) fun K hK => ?_
  simp (decide := true) only [aOps_nil, ev, absV, absS, putD, Slots.put, Slots.get, Slots.keep, if_true, if_false, true_and, ↓ap_move, pop_move, ↓ap_len, pop_len, hlen]
  repeat (with_reducible refine And.intro ?_ ?_; · first | trivial | omega | (intro hg; simp only [Bool.and_eq_true, Bool.or_eq_true, Bool.not_eq_true', Bool.and_eq_false_iff, Bool.or_eq_false_iff, Bool.not_eq_false', decide_eq_true_eq, decide_eq_false_iff_not, eqNil] at hg; omega) | (simp only [List.length_append, List.length_map, List.length_range, List.length_replicate, List.length_take, List.length_drop, List.length_cons, List.length_nil, List.length_set, List.length_reverse]; omega))
  apply hK; clear hK K
  refine awp_block ?_
  refine awp_loopG [3, 6, 7, 8] (fun g : Nat × Option Buf => [(3, bufV 1 g.2), (6, v), (7, .int .i64 l.length), (8, .int .i64 g.1)]) (fun g : Nat × Option Buf => bufH h g.2) (fun g : Nat × Option Buf => TxtOk h l g) (fun g : Nat × Option Buf => l.length - g.1) (0, none) (by rfl) (Sub.refl _) ⟨Nat.zero_le _, trivial, rfl⟩ ?_
  rintro ⟨i, b⟩ ⟨g1, g2, g3⟩
  simp only at g1 g2 g3 ⊢
  have hbs := Sub.buf g2
  -- region 3  tokens.go:247
  refine awp_rseq [3, 6, 7, 8, 9] (by rfl) fun K hK => ?_
  simp (decide := true) only [aOps_nil, ev, putD, Slots.put, Slots.get, Slots.keep, if_true, if_false, true_and, ↓ap_binOp, pop_binOp, isNilC_tmp, cond_false, pBinX_int, pI_lss]
  repeat (with_reducible refine And.intro ?_ ?_; · first | trivial | omega | (intro hg; simp only [Bool.and_eq_true, Bool.or_eq_true, Bool.not_eq_true', Bool.and_eq_false_iff, Bool.or_eq_false_iff, Bool.not_eq_false', decide_eq_true_eq, decide_eq_false_iff_not, eqNil] at hg; omega) | (simp only [List.length_append, List.length_map, List.length_range, List.length_replicate, List.length_take, List.length_drop, List.length_cons, List.length_nil, List.length_set, List.length_reverse]; omega))
  apply hK; clear hK K
  refine awp_seq (awp_cond (b := _) rfl (fun hb1 => ?_) (fun hb1 => ?_))
  · try simp only [decide_eq_true_eq] at hb1
    have hi : i < l.length := by omega
    obtain ⟨lc, o, c, rfl⟩ := tok_open hv (by omega)
    obtain ⟨e0, e1, e2, e3, e4⟩ := tok_at (hv.mono hbs) hi
    obtain ⟨t, ht⟩ : ∃ t, t = l.getD i badT := ⟨_, rfl⟩
    have htk : l.take (i + 1) = l.take i ++ [t] := by rw [List.take_add_one, List.getElem?_eq_getElem hi, ht]; simp [List.getD, hi]
    rw [← ht] at e0 e1 e2 e3 e4
    have htb := hb t (by rw [ht, List.getD, List.getElem?_eq_getElem hi]; exact List.getElem_mem hi)
    have hdl := dblE_len t.text
    refine awp_skip ?_
    change Awp _ _ _ _ _ _ _
    refine awp_seq ?_
    refine awp_block ?_
    -- region 4  tokens.go:247
    refine awp_rseq [3, 5, 6, 7, 8] (by rfl) fun K hK => ?_
    simp (decide := true) only [ev, putD, Slots.put, Slots.get, if_true, if_false, true_and, ↓ap_indexAddrL, apL_mk, pIndexAddr_slice Tryd.underlying23 sz35, ↓ap_loadL, pLoad_agg ag35 sz35, cellsAt, lv_bool, lv_int, lv_str, allLive, Bool.and_true, e0, e1, e2, e3, e4, Int.toNat_natCast]
    repeat (with_reducible refine And.intro ?_ ?_; · first | trivial | omega | (intro hg; simp only [Bool.and_eq_true, Bool.or_eq_true, Bool.not_eq_true', Bool.and_eq_false_iff, Bool.or_eq_false_iff, Bool.not_eq_false', decide_eq_true_eq, decide_eq_false_iff_not, eqNil] at hg; omega) | (simp only [List.length_append, List.length_map, List.length_range, List.length_replicate, List.length_take, List.length_drop, List.length_cons, List.length_nil, List.length_set, List.length_reverse]; omega))
    refine aOps_alloc ze35 (cs := [.int .u8 0, .str [], .int .i64 0, .int .i64 0, .bool false]) (by rfl) fun k4q2 hk4q2 => ?_
    try have hf_4q2 : h k4q2 = none := by first | assumption | (simp only [AHeap.set_none] at hk4q2; simp only [hk4q2])
    refine aOps_store (by rfl) (by rfl) (by repeat (first | exact AHeap.set_same _ _ _ | assumption | refine (AHeap.set_ne _ _ (by first | assumption | exact Ne.symm (by assumption))).trans ?_)) sz35 (by rfl) (by rfl) (by first | exact Nat.le_refl _ | decide | (simp; done) | (simp; omega)) (Nat.zero_le _) (by rfl) ?_
    simp only [AHeap.set_set, AVal.cells]
    simp (decide := true) only [aOps_nil, ev, putD, Slots.put, Slots.get, Slots.keep, if_true, if_false, setAt, List.set_cons_zero, List.set_cons_succ, Nat.zero_add, Nat.reduceAdd]
    repeat (with_reducible refine And.intro ?_ ?_; · first | trivial | omega | (intro hg; simp only [Bool.and_eq_true, Bool.or_eq_true, Bool.not_eq_true', Bool.and_eq_false_iff, Bool.or_eq_false_iff, Bool.not_eq_false', decide_eq_true_eq, decide_eq_false_iff_not, eqNil] at hg; omega) | (simp only [List.length_append, List.length_map, List.length_range, List.length_replicate, List.length_take, List.length_drop, List.length_cons, List.length_nil, List.length_set, List.length_reverse]; omega))
    apply hK; clear hK K
    -- region 5  tokens.go:248
    refine awp_rseq [3, 5, 6, 7, 8, 13] (by rfl) fun K hK => ?_
    simp (decide := true) only [aOps_nil, ev, putD, Slots.put, Slots.get, Slots.keep, if_true, if_false, true_and, ↓ap_fieldAddr, pop_fieldAddr, fa35_0, ↓ap_loadL, apL_mk, pLoad_one ag33, rd_any, List.getD_cons_zero, Nat.zero_add, lv_int]
    repeat (with_reducible refine And.intro ?_ ?_; · first | trivial | omega | (intro hg; simp only [Bool.and_eq_true, Bool.or_eq_true, Bool.not_eq_true', Bool.and_eq_false_iff, Bool.or_eq_false_iff, Bool.not_eq_false', decide_eq_true_eq, decide_eq_false_iff_not, eqNil] at hg; omega) | (simp only [List.length_append, List.length_map, List.length_range, List.length_replicate, List.length_take, List.length_drop, List.length_cons, List.length_nil, List.length_set, List.length_reverse]; omega))
    apply hK; clear hK K
    refine awp_block ?_
    -- region 7  tokens.go:249
    refine awp_rseq [3, 5, 6, 7, 8, 13, 19] (by rfl) fun K hK => ?_
    simp (decide := true) only [aOps_nil, ev, absV, absS, putD, Slots.put, Slots.get, Slots.keep, if_true, if_false, true_and, ↓ap_binOp, pop_binOp, isNilC_int, cond_false, pBinX_int, pI_eql, ↓ap_assign, pop_assign]
    repeat (with_reducible refine And.intro ?_ ?_; · first | trivial | omega | (intro hg; simp only [Bool.and_eq_true, Bool.or_eq_true, Bool.not_eq_true', Bool.and_eq_false_iff, Bool.or_eq_false_iff, Bool.not_eq_false', decide_eq_true_eq, decide_eq_false_iff_not, eqNil] at hg; omega) | (simp only [List.length_append, List.length_map, List.length_range, List.length_replicate, List.length_take, List.length_drop, List.length_cons, List.length_nil, List.length_set, List.length_reverse]; omega))
    apply hK; clear hK K
    refine awp_cond (b := _) rfl (fun hb2 => ?_) (fun hb2 => ?_)
    · try simp only [decide_eq_true_eq] at hb2
      have hk : t.kind = 3 := (u8_eq _ 3).mp hb2
      have htx : textT t = [34] ++ dblE t.text ++ [34] := by unfold textT; rw [if_pos hk]; rfl
      -- region 8  tokens.go:250
      refine awp_r [3, 6, 7, 8] (by rfl) ?_
      simp (decide := true) only [ev, putD, Slots.put, Slots.get, if_true, if_false, true_and, ↓ap_move, pop_move, ↓ap_fieldAddr, pop_fieldAddr, fa35_1, ↓ap_loadL, apL_mk, pLoad_one ag9, rd_any, List.getD_cons_zero, List.getD_cons_succ, Nat.zero_add, lv_str]
      repeat (with_reducible refine And.intro ?_ ?_; · first | trivial | omega | (intro hg; simp only [Bool.and_eq_true, Bool.or_eq_true, Bool.not_eq_true', Bool.and_eq_false_iff, Bool.or_eq_false_iff, Bool.not_eq_false', decide_eq_true_eq, decide_eq_false_iff_not, eqNil] at hg; omega) | (simp only [List.length_append, List.length_map, List.length_range, List.length_replicate, List.length_take, List.length_drop, List.length_cons, List.length_nil, List.length_set, List.length_reverse]; omega))
      refine aOps_callV (V := .str (dblE t.text)) (by rfl) (by rfl) (c_dbl w₀ hm _ t.text htb) ?_
      simp (decide := true) only [ev, absV, absS, putD, Slots.put, Slots.get, if_true, if_false, ↓ap_binOp, pop_binOp, isNilC_tmp, cond_false, pBinX_str, pS_add, isNilC_str]
      repeat (with_reducible refine And.intro ?_ ?_; · first | trivial | omega | (intro hg; simp only [Bool.and_eq_true, Bool.or_eq_true, Bool.not_eq_true', Bool.and_eq_false_iff, Bool.or_eq_false_iff, Bool.not_eq_false', decide_eq_true_eq, decide_eq_false_iff_not, eqNil] at hg; omega) | (simp only [List.length_append, List.length_cons, List.length_nil]; omega))
      refine aOps_buildSlice (cs := [.str ([34] ++ dblE t.text ++ [34])]) (by kernel_rfl) fun k8q6 hk8q6 => ?_
      have ne_8q6_4q2 : k8q6 ≠ k4q2 := by simp only [AHeap.set_none] at hk8q6; simp only [hk8q6, ne_eq, not_false_eq_true]
      try have hf_8q6 : h k8q6 = none := by first | assumption | (simp only [AHeap.set_none] at hk8q6; simp only [hk8q6])
      refine aOps_appendL (es := 1) (zs := (l.take i).map fun t => strT (textT t)) (xs := [strT ([34] ++ dblE t.text ++ [34])]) (h₀ := h) (b := b) (by rfl) (by rfl) Tryd.underlying31 Tryd.underlying31 (fun k e => by cases e) sz9 by9 ze9 (by rfl) (by decide) (by rfl) g2 g3 (fun y hy => by obtain ⟨d, _, rfl⟩ := List.mem_map.1 hy; rfl) ((Sub.set hk4q2).trans (Sub.set hk8q6)) (by rfl) (IsL.own (AHeap.set_same _ _ _) (by simp [strT]) (by rfl) (by rfl) (.exact 1) (Nat.le_refl _)) (by rfl) (by simp; omega) (by simp; omega) fun b' h5 o1 o2 o3 => ?_
      have hbl' := bufV_live 1 b'
      simp (decide := true) only [aOps_nil, ev, putD, Slots.put, Slots.get, Slots.keep, if_true, if_false, true_and, ↓ap_assign, pop_assign]
      repeat (with_reducible refine And.intro ?_ ?_; · first | trivial | omega | (intro hg; simp only [Bool.and_eq_true, Bool.or_eq_true, Bool.not_eq_true', Bool.and_eq_false_iff, Bool.or_eq_false_iff, Bool.not_eq_false', decide_eq_true_eq, decide_eq_false_iff_not, eqNil] at hg; omega) | (simp only [List.length_append, List.length_map, List.length_range, List.length_replicate, List.length_take, List.length_drop, List.length_cons, List.length_nil, List.length_set, List.length_reverse]; omega))
      change Awp _ _ _ _ _ _ _
      -- region 13  tokens.go:247
      refine awp_r [3, 6, 7, 8] (by rfl) ?_
      simp (decide := true) only [aOps_nil, ev, absV, absS, putD, Slots.put, Slots.get, Slots.keep, if_true, if_false, true_and, ↓ap_binOp, pop_binOp, isNilC_int, cond_false, pBinX_int, pI_add, ↓ap_move, pop_move]
      try simp (disch := omega) only [wrap_i64]
      repeat (with_reducible refine And.intro ?_ ?_; · first | trivial | omega | (intro hg; simp only [Bool.and_eq_true, Bool.or_eq_true, Bool.not_eq_true', Bool.and_eq_false_iff, Bool.or_eq_false_iff, Bool.not_eq_false', decide_eq_true_eq, decide_eq_false_iff_not, eqNil] at hg; omega) | (simp only [List.length_append, List.length_map, List.length_range, List.length_replicate, List.length_take, List.length_drop, List.length_cons, List.length_nil, List.length_set, List.length_reverse]; omega))
      try simp only [thenA_normal]
      exact ⟨(i + 1, b'), rfl, o3, ⟨hi, o1, by simp only; rw [o2, htk, List.map_append, List.map_cons, List.map_nil, htx]⟩, by simp only; omega⟩
    · try simp only [decide_eq_false_iff_not] at hb2
      have hk3 : ¬ t.kind = 3 := fun q => hb2 ((u8_eq _ 3).mpr q)
      -- region 9  tokens.go:251
      refine awp_rseq [3, 5, 6, 7, 8, 13, 29] (by rfl) fun K hK => ?_
      simp (decide := true) only [aOps_nil, ev, absV, absS, putD, Slots.put, Slots.get, Slots.keep, if_true, if_false, true_and, ↓ap_binOp, pop_binOp, isNilC_int, cond_false, pBinX_int, pI_eql, ↓ap_assign, pop_assign]
      repeat (with_reducible refine And.intro ?_ ?_; · first | trivial | omega | (intro hg; simp only [Bool.and_eq_true, Bool.or_eq_true, Bool.not_eq_true', Bool.and_eq_false_iff, Bool.or_eq_false_iff, Bool.not_eq_false', decide_eq_true_eq, decide_eq_false_iff_not, eqNil] at hg; omega) | (simp only [List.length_append, List.length_map, List.length_range, List.length_replicate, List.length_take, List.length_drop, List.length_cons, List.length_nil, List.length_set, List.length_reverse]; omega))
      apply hK; clear hK K
      refine awp_cond (b := _) rfl (fun hb3 => ?_) (fun hb3 => ?_)
      · try simp only [decide_eq_true_eq] at hb3
        have hk : t.kind = 6 := (u8_eq _ 6).mp hb3
        have htx : textT t = [46] := by unfold textT; rw [if_neg hk3, if_pos hk]
        -- region 10  tokens.go:252
        refine awp_r [3, 6, 7, 8] (by rfl) ?_
        simp (decide := true) only [ev, putD, Slots.put, Slots.get, if_true, if_false, true_and, ↓ap_move, pop_move]
        repeat (with_reducible refine And.intro ?_ ?_; · first | trivial | omega | (intro hg; simp only [Bool.and_eq_true, Bool.or_eq_true, Bool.not_eq_true', Bool.and_eq_false_iff, Bool.or_eq_false_iff, Bool.not_eq_false', decide_eq_true_eq, decide_eq_false_iff_not, eqNil] at hg; omega) | (simp only [List.length_append, List.length_map, List.length_range, List.length_replicate, List.length_take, List.length_drop, List.length_cons, List.length_nil, List.length_set, List.length_reverse]; omega))
        refine aOps_buildSlice (cs := [.str ([46])]) (by kernel_rfl) fun k10q1 hk10q1 => ?_
        have ne_10q1_4q2 : k10q1 ≠ k4q2 := by simp only [AHeap.set_none] at hk10q1; simp only [hk10q1, ne_eq, not_false_eq_true]
        try have hf_10q1 : h k10q1 = none := by first | assumption | (simp only [AHeap.set_none] at hk10q1; simp only [hk10q1])
        refine aOps_appendL (es := 1) (zs := (l.take i).map fun t => strT (textT t)) (xs := [strT ([46])]) (h₀ := h) (b := b) (by rfl) (by rfl) Tryd.underlying31 Tryd.underlying31 (fun k e => by cases e) sz9 by9 ze9 (by rfl) (by decide) (by rfl) g2 g3 (fun y hy => by obtain ⟨d, _, rfl⟩ := List.mem_map.1 hy; rfl) ((Sub.set hk4q2).trans (Sub.set hk10q1)) (by rfl) (IsL.own (AHeap.set_same _ _ _) (by simp [strT]) (by rfl) (by rfl) (.exact 1) (Nat.le_refl _)) (by rfl) (by simp; omega) (by simp; omega) fun b' h5 o1 o2 o3 => ?_
        have hbl' := bufV_live 1 b'
        simp (decide := true) only [aOps_nil, ev, putD, Slots.put, Slots.get, Slots.keep, if_true, if_false, true_and, ↓ap_assign, pop_assign]
        repeat (with_reducible refine And.intro ?_ ?_; · first | trivial | omega | (intro hg; simp only [Bool.and_eq_true, Bool.or_eq_true, Bool.not_eq_true', Bool.and_eq_false_iff, Bool.or_eq_false_iff, Bool.not_eq_false', decide_eq_true_eq, decide_eq_false_iff_not, eqNil] at hg; omega) | (simp only [List.length_append, List.length_map, List.length_range, List.length_replicate, List.length_take, List.length_drop, List.length_cons, List.length_nil, List.length_set, List.length_reverse]; omega))
        change Awp _ _ _ _ _ _ _
        -- region 13  tokens.go:247
        refine awp_r [3, 6, 7, 8] (by rfl) ?_
        simp (decide := true) only [aOps_nil, ev, absV, absS, putD, Slots.put, Slots.get, Slots.keep, if_true, if_false, true_and, ↓ap_binOp, pop_binOp, isNilC_int, cond_false, pBinX_int, pI_add, ↓ap_move, pop_move]
        try simp (disch := omega) only [wrap_i64]
        repeat (with_reducible refine And.intro ?_ ?_; · first | trivial | omega | (intro hg; simp only [Bool.and_eq_true, Bool.or_eq_true, Bool.not_eq_true', Bool.and_eq_false_iff, Bool.or_eq_false_iff, Bool.not_eq_false', decide_eq_true_eq, decide_eq_false_iff_not, eqNil] at hg; omega) | (simp only [List.length_append, List.length_map, List.length_range, List.length_replicate, List.length_take, List.length_drop, List.length_cons, List.length_nil, List.length_set, List.length_reverse]; omega))
        try simp only [thenA_normal]
        exact ⟨(i + 1, b'), rfl, o3, ⟨hi, o1, by simp only; rw [o2, htk, List.map_append, List.map_cons, List.map_nil, htx]⟩, by simp only; omega⟩
      · try simp only [decide_eq_false_iff_not] at hb3
        have hk6 : ¬ t.kind = 6 := fun q => hb3 ((u8_eq _ 6).mpr q)
        -- region 11  tokens.go:253
        refine awp_rseq [3, 5, 6, 7, 8, 34] (by rfl) fun K hK => ?_
        simp (decide := true) only [aOps_nil, ev, absV, absS, putD, Slots.put, Slots.get, Slots.keep, if_true, if_false, true_and, ↓ap_binOp, pop_binOp, isNilC_int, cond_false, pBinX_int, pI_eql, ↓ap_assign, pop_assign]
        repeat (with_reducible refine And.intro ?_ ?_; · first | trivial | omega | (intro hg; simp only [Bool.and_eq_true, Bool.or_eq_true, Bool.not_eq_true', Bool.and_eq_false_iff, Bool.or_eq_false_iff, Bool.not_eq_false', decide_eq_true_eq, decide_eq_false_iff_not, eqNil] at hg; omega) | (simp only [List.length_append, List.length_map, List.length_range, List.length_replicate, List.length_take, List.length_drop, List.length_cons, List.length_nil, List.length_set, List.length_reverse]; omega))
        apply hK; clear hK K
        refine awp_cond (b := _) rfl (fun hb4 => ?_) (fun hb4 => ?_)
        · try simp only [decide_eq_true_eq] at hb4
          have hk : t.kind = 7 := (u8_eq _ 7).mp hb4
          have htx : textT t = [61, 61] := by unfold textT; rw [if_neg hk3, if_neg hk6, if_pos hk]
          -- region 12  tokens.go:254
          refine awp_r [3, 6, 7, 8] (by rfl) ?_
          simp (decide := true) only [ev, putD, Slots.put, Slots.get, if_true, if_false, true_and, ↓ap_move, pop_move]
          repeat (with_reducible refine And.intro ?_ ?_; · first | trivial | omega | (intro hg; simp only [Bool.and_eq_true, Bool.or_eq_true, Bool.not_eq_true', Bool.and_eq_false_iff, Bool.or_eq_false_iff, Bool.not_eq_false', decide_eq_true_eq, decide_eq_false_iff_not, eqNil] at hg; omega) | (simp only [List.length_append, List.length_map, List.length_range, List.length_replicate, List.length_take, List.length_drop, List.length_cons, List.length_nil, List.length_set, List.length_reverse]; omega))
          refine aOps_buildSlice (cs := [.str ([61, 61])]) (by kernel_rfl) fun k12q1 hk12q1 => ?_
          have ne_12q1_4q2 : k12q1 ≠ k4q2 := by simp only [AHeap.set_none] at hk12q1; simp only [hk12q1, ne_eq, not_false_eq_true]
          try have hf_12q1 : h k12q1 = none := by first | assumption | (simp only [AHeap.set_none] at hk12q1; simp only [hk12q1])
          refine aOps_appendL (es := 1) (zs := (l.take i).map fun t => strT (textT t)) (xs := [strT ([61, 61])]) (h₀ := h) (b := b) (by rfl) (by rfl) Tryd.underlying31 Tryd.underlying31 (fun k e => by cases e) sz9 by9 ze9 (by rfl) (by decide) (by rfl) g2 g3 (fun y hy => by obtain ⟨d, _, rfl⟩ := List.mem_map.1 hy; rfl) ((Sub.set hk4q2).trans (Sub.set hk12q1)) (by rfl) (IsL.own (AHeap.set_same _ _ _) (by simp [strT]) (by rfl) (by rfl) (.exact 1) (Nat.le_refl _)) (by rfl) (by simp; omega) (by simp; omega) fun b' h5 o1 o2 o3 => ?_
          have hbl' := bufV_live 1 b'
          simp (decide := true) only [aOps_nil, ev, putD, Slots.put, Slots.get, Slots.keep, if_true, if_false, true_and, ↓ap_assign, pop_assign]
          repeat (with_reducible refine And.intro ?_ ?_; · first | trivial | omega | (intro hg; simp only [Bool.and_eq_true, Bool.or_eq_true, Bool.not_eq_true', Bool.and_eq_false_iff, Bool.or_eq_false_iff, Bool.not_eq_false', decide_eq_true_eq, decide_eq_false_iff_not, eqNil] at hg; omega) | (simp only [List.length_append, List.length_map, List.length_range, List.length_replicate, List.length_take, List.length_drop, List.length_cons, List.length_nil, List.length_set, List.length_reverse]; omega))
          change Awp _ _ _ _ _ _ _
          -- region 13  tokens.go:247
          refine awp_r [3, 6, 7, 8] (by rfl) ?_
          simp (decide := true) only [aOps_nil, ev, absV, absS, putD, Slots.put, Slots.get, Slots.keep, if_true, if_false, true_and, ↓ap_binOp, pop_binOp, isNilC_int, cond_false, pBinX_int, pI_add, ↓ap_move, pop_move]
          try simp (disch := omega) only [wrap_i64]
          repeat (with_reducible refine And.intro ?_ ?_; · first | trivial | omega | (intro hg; simp only [Bool.and_eq_true, Bool.or_eq_true, Bool.not_eq_true', Bool.and_eq_false_iff, Bool.or_eq_false_iff, Bool.not_eq_false', decide_eq_true_eq, decide_eq_false_iff_not, eqNil] at hg; omega) | (simp only [List.length_append, List.length_map, List.length_range, List.length_replicate, List.length_take, List.length_drop, List.length_cons, List.length_nil, List.length_set, List.length_reverse]; omega))
          try simp only [thenA_normal]
          exact ⟨(i + 1, b'), rfl, o3, ⟨hi, o1, by simp only; rw [o2, htk, List.map_append, List.map_cons, List.map_nil, htx]⟩, by simp only; omega⟩
        · try simp only [decide_eq_false_iff_not] at hb4
          have hk7 : ¬ t.kind = 7 := fun q => hb4 ((u8_eq _ 7).mpr q)
          have htx : textT t = t.text := by unfold textT; rw [if_neg hk3, if_neg hk6, if_neg hk7]
          -- region 6  tokens.go:256
          refine awp_r [3, 6, 7, 8] (by rfl) ?_
          simp (decide := true) only [ev, putD, Slots.put, Slots.get, if_true, if_false, true_and, ↓ap_move, pop_move, ↓ap_fieldAddr, pop_fieldAddr, fa35_1, ↓ap_loadL, apL_mk, pLoad_one ag9, rd_any, List.getD_cons_zero, List.getD_cons_succ, Nat.zero_add, lv_str]
          repeat (with_reducible refine And.intro ?_ ?_; · first | trivial | omega | (intro hg; simp only [Bool.and_eq_true, Bool.or_eq_true, Bool.not_eq_true', Bool.and_eq_false_iff, Bool.or_eq_false_iff, Bool.not_eq_false', decide_eq_true_eq, decide_eq_false_iff_not, eqNil] at hg; omega) | (simp only [List.length_append, List.length_map, List.length_range, List.length_replicate, List.length_take, List.length_drop, List.length_cons, List.length_nil, List.length_set, List.length_reverse]; omega))
          refine aOps_buildSlice (cs := [.str (t.text)]) (by kernel_rfl) fun k6q3 hk6q3 => ?_
          have ne_6q3_4q2 : k6q3 ≠ k4q2 := by simp only [AHeap.set_none] at hk6q3; simp only [hk6q3, ne_eq, not_false_eq_true]
          try have hf_6q3 : h k6q3 = none := by first | assumption | (simp only [AHeap.set_none] at hk6q3; simp only [hk6q3])
          refine aOps_appendL (es := 1) (zs := (l.take i).map fun t => strT (textT t)) (xs := [strT (t.text)]) (h₀ := h) (b := b) (by rfl) (by rfl) Tryd.underlying31 Tryd.underlying31 (fun k e => by cases e) sz9 by9 ze9 (by rfl) (by decide) (by rfl) g2 g3 (fun y hy => by obtain ⟨d, _, rfl⟩ := List.mem_map.1 hy; rfl) ((Sub.set hk4q2).trans (Sub.set hk6q3)) (by rfl) (IsL.own (AHeap.set_same _ _ _) (by simp [strT]) (by rfl) (by rfl) (.exact 1) (Nat.le_refl _)) (by rfl) (by simp; omega) (by simp; omega) fun b' h5 o1 o2 o3 => ?_
          have hbl' := bufV_live 1 b'
          simp (decide := true) only [aOps_nil, ev, putD, Slots.put, Slots.get, Slots.keep, if_true, if_false, true_and, ↓ap_assign, pop_assign]
          repeat (with_reducible refine And.intro ?_ ?_; · first | trivial | omega | (intro hg; simp only [Bool.and_eq_true, Bool.or_eq_true, Bool.not_eq_true', Bool.and_eq_false_iff, Bool.or_eq_false_iff, Bool.not_eq_false', decide_eq_true_eq, decide_eq_false_iff_not, eqNil] at hg; omega) | (simp only [List.length_append, List.length_map, List.length_range, List.length_replicate, List.length_take, List.length_drop, List.length_cons, List.length_nil, List.length_set, List.length_reverse]; omega))
          change Awp _ _ _ _ _ _ _
          -- region 13  tokens.go:247
          refine awp_r [3, 6, 7, 8] (by rfl) ?_
          simp (decide := true) only [aOps_nil, ev, absV, absS, putD, Slots.put, Slots.get, Slots.keep, if_true, if_false, true_and, ↓ap_binOp, pop_binOp, isNilC_int, cond_false, pBinX_int, pI_add, ↓ap_move, pop_move]
          try simp (disch := omega) only [wrap_i64]
          repeat (with_reducible refine And.intro ?_ ?_; · first | trivial | omega | (intro hg; simp only [Bool.and_eq_true, Bool.or_eq_true, Bool.not_eq_true', Bool.and_eq_false_iff, Bool.or_eq_false_iff, Bool.not_eq_false', decide_eq_true_eq, decide_eq_false_iff_not, eqNil] at hg; omega) | (simp only [List.length_append, List.length_map, List.length_range, List.length_replicate, List.length_take, List.length_drop, List.length_cons, List.length_nil, List.length_set, List.length_reverse]; omega))
          try simp only [thenA_normal]
          exact ⟨(i + 1, b'), rfl, o3, ⟨hi, o1, by simp only; rw [o2, htk, List.map_append, List.map_cons, List.map_nil, htx]⟩, by simp only; omega⟩
  · try simp only [decide_eq_false_iff_not] at hb1
    refine awp_exit ?_
    change Awp _ _ _ _ _ _ _
    have hie : i = l.length := by omega
    rw [hie, List.take_length] at g3
    have hst : IsStrs w₀ (bufH h b) (bufV 1 b) (l.map textT) := by
      have := IsL.buf (w₀ := w₀) g2 (by decide) g3 (by simp [strT]) (h := bufH h b) (Sub.refl _)
      unfold IsStrs
      rw [List.map_map]
      exact this
    have hjl : (Lib.join (l.map textT) [32]).length ≤ 140737488355328 := by
      refine Nat.le_trans (join_lenT (m := 200000002) fun y hy => ?_) ?_
      · obtain ⟨d, hd, rfl⟩ := List.mem_map.1 hy
        have h1 := textT_len d
        have h2 := hb d hd
        omega
      · rw [List.length_map]
        exact Nat.le_trans (Nat.mul_le_mul_right _ hl) (by decide)
    -- region 14  tokens.go:259
    refine awp_rseq [2] (by rfl) fun K hK => ?_
    simp (decide := true) only [ev, putD, Slots.put, Slots.get, if_true, if_false, true_and, ↓ap_move, pop_move]
    repeat (with_reducible refine And.intro ?_ ?_; · first | trivial | omega | (intro hg; simp only [Bool.and_eq_true, Bool.or_eq_true, Bool.not_eq_true', Bool.and_eq_false_iff, Bool.or_eq_false_iff, Bool.not_eq_false', decide_eq_true_eq, decide_eq_false_iff_not, eqNil] at hg; omega) | (simp only [List.length_append, List.length_map, List.length_range, List.length_replicate, List.length_take, List.length_drop, List.length_cons, List.length_nil, List.length_set, List.length_reverse]; omega))
    refine aOps_callV (V := .str (textE l)) (by rfl) (by rfl) (c_join w₀ _ _ _ _ hst (by simp; omega) hjl) ?_
    simp (decide := true) only [aOps_nil, ev, putD, Slots.put, Slots.get, Slots.keep, if_true, if_false, true_and, ↓ap_assign, pop_assign]
    repeat (with_reducible refine And.intro ?_ ?_; · first | trivial | omega | (intro hg; simp only [Bool.and_eq_true, Bool.or_eq_true, Bool.not_eq_true', Bool.and_eq_false_iff, Bool.or_eq_false_iff, Bool.not_eq_false', decide_eq_true_eq, decide_eq_false_iff_not, eqNil] at hg; omega) | (simp only [List.length_append, List.length_map, List.length_range, List.length_replicate, List.length_take, List.length_drop, List.length_cons, List.length_nil, List.length_set, List.length_reverse]; omega))
    apply hK; clear hK K
    refine awp_ret ?_
    try simp only [thenA_ret, inBlockA_ret]
    refine retA_ret h hbs (resPre_tmp (resPre_nil)) ?_
    simp (decide := true) only [Slots.get, if_true, and_true, resOf_one]
    all_goals first | rfl | exact ⟨rfl, rfl⟩ | (simp (decide := true) only [if_true, if_false, *]; done) | (trace_state; fail)
end Go.Proofs.YtmadddihphkmoaaDoor

/-
  The law TokensText.
  Conditions: none.
-/
namespace Go.Proofs.YtmadddihphkmoaaDoor
open Go.AM
open Go.Proofs
open Go.Col
open Go.Tok
open Go.RowKit (Below)
set_option maxRecDepth 100000

theorem join_snoc (x sep : Str) : ∀ {l : List Str}, Lib.join (l ++ [x]) sep = (if l = [] then [] else Lib.join l sep ++ sep) ++ x
  | [] => by simp [Lib.join]
  | [y] => by simp [Lib.join]
  | y :: z :: l => by
    have ih := join_snoc x sep (l := z :: l)
    rw [if_neg (by simp)] at ih ⊢
    have e : ∀ (a b : Str) (r : List Str), Lib.join (a :: b :: r) sep = a ++ sep ++ Lib.join (b :: r) sep := fun a b r => by unfold Lib.join; rw [List.intercalate_cons_cons]
    rw [List.cons_append, List.cons_append, e, e]
    rw [List.cons_append] at ih
    rw [ih]
    simp
theorem dblE_take {s : Str} {k : Nat} (hk : k < s.length) : dblE (s.take (k + 1)) = dblE (s.take k) ++ [s.getD k 0] ++ (if s.getD k 0 = 34 then [34] else []) := by
  rw [List.take_add_one, List.getElem?_eq_getElem hk, dblE_app]
  simp only [Option.toList_some, List.getD, List.getElem?_eq_getElem hk, Option.getD_some, dblE]
  by_cases h : s[k] = 34
  · rw [if_pos h, if_pos h, h]; simp
  · rw [if_neg h, if_neg h]; simp
theorem textE_step {l : List TokC} {i : Nat} (hi : i < l.length) : textE (l.take (i + 1)) = (if i = 0 then [] else textE (l.take i) ++ [32]) ++ textT (l.getD i badT) := by
  unfold textE
  rw [List.take_add_one, List.getElem?_eq_getElem hi, List.map_append]
  simp only [Option.toList_some, List.map_cons, List.map_nil]
  rw [join_snoc]
  have : (List.map textT (l.take i) = []) ↔ i = 0 := by
    rw [List.map_eq_nil_iff, List.take_eq_nil_iff]
    constructor
    · rintro (q | q)
      · exact q
      · rw [q] at hi; simp at hi
    · exact .inl
  by_cases h0 : i = 0
  · rw [if_pos (this.2 h0), if_pos h0]
    simp [List.getD, hi]
  · rw [if_neg (fun q => h0 (this.1 q)), if_neg h0]
    simp [List.getD, hi]
set_option maxHeartbeats 2000000 in
theorem l_TokensText (w₀ : World) (hm : MaxL w₀) (h : AHeap) (v : AVal) (l : List TokC) (hv : IsL w₀ h 5 v (l.map tokC)) (hln : l.length ≤ 9223372036854775807) (hlt : ∀ t ∈ l, t.text.length ≤ 9223372036854775807) :
    ACall Tryd.prog w₀ 5 [v] h (fun x _ => x = .bool true) := by
  refine ACall.mono (R := fun x h' => x = .bool true ∧ h' = h) ?_ fun x h' hx => hx.1
  have hlv := hv.live
  have hlen := tok_len hv
  refine acall_intro (n := 92) (rs := [.tmp 2]) Tryd.func5 rfl rfl rfl rfl (Nat.le_of_ble_eq_true rfl) ?_
  simp only [initSlots]
  -- region 0  law.go:216
  refine awp_rseq [0] (by rfl) fun K hK => ?_
  simp (decide := true) only [aOps_nil, ev, absV, absS, putD, Slots.put, Slots.keep, if_true, if_false, true_and, ↓ap_assign, pop_assign]
  repeat (with_reducible refine And.intro ?_ ?_; · first | trivial | omega | (intro hg; simp only [Bool.and_eq_true, Bool.or_eq_true, Bool.not_eq_true', Bool.and_eq_false_iff, Bool.or_eq_false_iff, Bool.not_eq_false', decide_eq_true_eq, decide_eq_false_iff_not, eqNil] at hg; omega) | (simp only [List.length_append, List.length_map, List.length_range, List.length_replicate, List.length_take, List.length_drop, List.length_cons, List.length_nil, List.length_set, List.length_reverse]; omega))
  apply hK; clear hK K
  refine awp_seq ?_
  -- region 1  law.go:217
  refine awp_rseq [0, 8] (by rfl) fun K hK => ?_
  simp (decide := true) only [aOps_nil, ev, absV, absS, putD, Slots.put, Slots.get, Slots.keep, if_true, if_false, true_and, ↓ap_move, pop_move, ↓ap_len, pop_len, ↓ap_binOp, pop_binOp, isNilC_int, cond_false, pBinX_int, pI_gtr, hlen]
  repeat (with_reducible refine And.intro ?_ ?_; · first | trivial | omega | (intro hg; simp only [Bool.and_eq_true, Bool.or_eq_true, Bool.not_eq_true', Bool.and_eq_false_iff, Bool.or_eq_false_iff, Bool.not_eq_false', decide_eq_true_eq, decide_eq_false_iff_not, eqNil] at hg; omega) | (simp only [List.length_append, List.length_map, List.length_range, List.length_replicate, List.length_take, List.length_drop, List.length_cons, List.length_nil, List.length_set, List.length_reverse]; omega))
  apply hK; clear hK K
  refine awp_cond (b := _) rfl (fun hb1 => ?_) (fun hb1 => ?_)
  · try simp only [decide_eq_true_eq] at hb1
    -- region 2  law.go:218
    refine awp_rseq [2] (by rfl) fun K hK => ?_
    refine aOps_callV (V := .bool true) (by rfl) (by rfl) (c_lives03 w₀ hm _) ?_
    simp (decide := true) only [aOps_nil, ev, putD, Slots.put, Slots.get, Slots.keep, if_true, if_false, true_and, ↓ap_assign, pop_assign]
    repeat (with_reducible refine And.intro ?_ ?_; · first | trivial | omega | (intro hg; simp only [Bool.and_eq_true, Bool.or_eq_true, Bool.not_eq_true', Bool.and_eq_false_iff, Bool.or_eq_false_iff, Bool.not_eq_false', decide_eq_true_eq, decide_eq_false_iff_not, eqNil] at hg; omega) | (simp only [List.length_append, List.length_map, List.length_range, List.length_replicate, List.length_take, List.length_drop, List.length_cons, List.length_nil, List.length_set, List.length_reverse]; omega))
    apply hK; clear hK K
    refine awp_ret ?_
    try simp only [thenA_ret]
    refine retA_ret h (by repeat (first | exact Sub.refl _ | assumption | refine Sub.trans_set ?_ (by assumption))) (resPre_tmp (resPre_nil)) ?_
    simp (decide := true) only [Slots.get, if_true, and_true, resOf_one]
    all_goals first | rfl | exact ⟨rfl, rfl⟩ | (simp (decide := true) only [if_true, if_false, *]; done) | (trace_state; fail)
  · try simp only [decide_eq_false_iff_not] at hb1
    have hl60 : l.length ≤ 60 := by omega
    refine awp_skip ?_
    change Awp _ _ _ _ _ _ _
    -- region 3  law.go:220
    refine awp_rseq [0, 3] (by rfl) fun K hK => ?_
    simp (decide := true) only [aOps_nil, ev, absV, absS, putD, Slots.put, Slots.keep, if_true, if_false, true_and, ↓ap_assign, pop_assign]
    repeat (with_reducible refine And.intro ?_ ?_; · first | trivial | omega | (intro hg; simp only [Bool.and_eq_true, Bool.or_eq_true, Bool.not_eq_true', Bool.and_eq_false_iff, Bool.or_eq_false_iff, Bool.not_eq_false', decide_eq_true_eq, decide_eq_false_iff_not, eqNil] at hg; omega) | (simp only [List.length_append, List.length_map, List.length_range, List.length_replicate, List.length_take, List.length_drop, List.length_cons, List.length_nil, List.length_set, List.length_reverse]; omega))
    apply hK; clear hK K
    refine awp_seq ?_
    -- region 4  law.go:221
    refine awp_rseq [0, 3, 4] (by rfl) fun K hK => ?_
    simp (decide := true) only [aOps_nil, ev, absV, absS, putD, Slots.put, Slots.keep, if_true, if_false, true_and, ↓ap_assign, pop_assign]
    repeat (with_reducible refine And.intro ?_ ?_; · first | trivial | omega | (intro hg; simp only [Bool.and_eq_true, Bool.or_eq_true, Bool.not_eq_true', Bool.and_eq_false_iff, Bool.or_eq_false_iff, Bool.not_eq_false', decide_eq_true_eq, decide_eq_false_iff_not, eqNil] at hg; omega) | (simp only [List.length_append, List.length_map, List.length_range, List.length_replicate, List.length_take, List.length_drop, List.length_cons, List.length_nil, List.length_set, List.length_reverse]; omega))
    apply hK; clear hK K
    refine awp_block ?_
    refine awp_loopG [0, 3, 4] (fun i : Nat => [(0, v), (3, .str (textE (l.take i))), (4, .int .i64 i)]) (fun i : Nat => h) (fun i : Nat => i ≤ l.length ∧ (∀ j, j < i → (l.getD j badT).text.length ≤ 100) ∧ (textE (l.take i)).length ≤ 203 * i) (fun i : Nat => l.length - i) 0 (by rfl) (Sub.refl _) ⟨Nat.zero_le _, fun j hj => absurd hj (Nat.not_lt_zero _), Nat.zero_le _⟩ ?_
    rintro i ⟨i1, i2, i3⟩
    have hw203 : (textE (l.take i)).length ≤ 12180 := by
      have := Nat.mul_le_mul_left 203 (show i ≤ 60 by omega)
      omega
    refine awp_seq ?_
    -- region 5  law.go:221
    refine awp_rseq [0, 3, 4, 13] (by rfl) fun K hK => ?_
    simp (decide := true) only [aOps_nil, ev, putD, Slots.put, Slots.get, Slots.keep, if_true, if_false, true_and, ↓ap_move, pop_move, ↓ap_len, pop_len, ↓ap_binOp, pop_binOp, isNilC_tmp, cond_false, pBinX_int, pI_lss, hlen]
    repeat (with_reducible refine And.intro ?_ ?_; · first | trivial | omega | (intro hg; simp only [Bool.and_eq_true, Bool.or_eq_true, Bool.not_eq_true', Bool.and_eq_false_iff, Bool.or_eq_false_iff, Bool.not_eq_false', decide_eq_true_eq, decide_eq_false_iff_not, eqNil] at hg; omega) | (simp only [List.length_append, List.length_map, List.length_range, List.length_replicate, List.length_take, List.length_drop, List.length_cons, List.length_nil, List.length_set, List.length_reverse]; omega))
    apply hK; clear hK K
    refine awp_cond (b := _) rfl (fun hb2 => ?_) (fun hb2 => ?_)
    · try simp only [decide_eq_true_eq] at hb2
      have hi : i < l.length := by omega
      obtain ⟨lc, o, c, rfl⟩ := tok_open hv (by omega)
      obtain ⟨e0, e1, _, _, _⟩ := tok_at hv hi
      obtain ⟨t, ht⟩ : ∃ t, t = l.getD i badT := ⟨_, rfl⟩
      have hstep := textE_step hi
      rw [← ht] at e0 e1 hstep
      have htm : t ∈ l := by rw [ht, List.getD, List.getElem?_eq_getElem hi]; exact List.getElem_mem hi
      have htt := hlt t htm
      refine awp_skip ?_
      change Awp _ _ _ _ _ _ _
      refine awp_seq ?_
      refine awp_block ?_
      refine awp_seq ?_
      -- region 7  law.go:222
      refine awp_rseq [0, 3, 4, 22] (by rfl) fun K hK => ?_
      simp (decide := true) only [aOps_nil, ev, absV, absS, putD, Slots.put, Slots.get, Slots.keep, if_true, if_false, true_and, ↓ap_move, pop_move, ↓ap_indexAddrL, apL_mk, pIndexAddr_slice Tryd.underlying23 sz35, ↓ap_fieldAddr, pop_fieldAddr, fa35_1, ↓ap_loadL, pLoad_one ag9, ↓ap_len, pop_len, pLen_str Tryd.underlying9, ↓ap_binOp, pop_binOp, isNilC_int, cond_false, pBinX_int, pI_gtr, lv_str, e1, Int.toNat_natCast]
      repeat (with_reducible refine And.intro ?_ ?_; · first | trivial | omega | (intro hg; simp only [Bool.and_eq_true, Bool.or_eq_true, Bool.not_eq_true', Bool.and_eq_false_iff, Bool.or_eq_false_iff, Bool.not_eq_false', decide_eq_true_eq, decide_eq_false_iff_not, eqNil] at hg; omega) | (simp only [List.length_append, List.length_map, List.length_range, List.length_replicate, List.length_take, List.length_drop, List.length_cons, List.length_nil, List.length_set, List.length_reverse]; omega))
      apply hK; clear hK K
      refine awp_cond (b := _) rfl (fun hb3 => ?_) (fun hb3 => ?_)
      · try simp only [decide_eq_true_eq] at hb3
        -- region 8  law.go:223
        refine awp_rseq [2] (by rfl) fun K hK => ?_
        refine aOps_callV (V := .bool true) (by rfl) (by rfl) (c_lives03 w₀ hm _) ?_
        simp (decide := true) only [aOps_nil, ev, putD, Slots.put, Slots.get, Slots.keep, if_true, if_false, true_and, ↓ap_assign, pop_assign]
        repeat (with_reducible refine And.intro ?_ ?_; · first | trivial | omega | (intro hg; simp only [Bool.and_eq_true, Bool.or_eq_true, Bool.not_eq_true', Bool.and_eq_false_iff, Bool.or_eq_false_iff, Bool.not_eq_false', decide_eq_true_eq, decide_eq_false_iff_not, eqNil] at hg; omega) | (simp only [List.length_append, List.length_map, List.length_range, List.length_replicate, List.length_take, List.length_drop, List.length_cons, List.length_nil, List.length_set, List.length_reverse]; omega))
        apply hK; clear hK K
        refine awp_ret ?_
        try simp only [thenA_ret, inBlockA_ret]
        refine retA_ret h (by repeat (first | exact Sub.refl _ | assumption | refine Sub.trans_set ?_ (by assumption))) (resPre_tmp (resPre_nil)) ?_
        simp (decide := true) only [Slots.get, if_true, and_true, resOf_one]
        all_goals first | rfl | exact ⟨rfl, rfl⟩ | (simp (decide := true) only [if_true, if_false, *]; done) | (trace_state; fail)
      · try simp only [decide_eq_false_iff_not] at hb3
        have ht100 : t.text.length ≤ 100 := by omega
        have hxl := textT_len t
        have hall : ∀ j, j < i + 1 → (l.getD j badT).text.length ≤ 100 := fun j hj => by
          by_cases e : j = i
          · rw [e, ← ht]; exact ht100
          · exact i2 j (by omega)
        obtain ⟨W, hW⟩ : ∃ W, W = if i = 0 then ([] : Str) else textE (l.take i) ++ [32] := ⟨_, rfl⟩
        have hWl : W.length ≤ 203 * i + 1 ∧ W.length ≤ 12181 := by
          rw [hW]
          by_cases h0 : i = 0
          · rw [if_pos h0]; simp
          · rw [if_neg h0, List.length_append]
            simp only [List.length_cons, List.length_nil]
            omega
        rw [← hW] at hstep
        refine awp_skip ?_
        change Awp _ _ _ _ _ _ _
        refine awp_seq ?_
        -- region 9  law.go:225
        refine awp_rseq [0, 3, 4, 25] (by rfl) fun K hK => ?_
        simp (decide := true) only [aOps_nil, ev, absV, absS, putD, Slots.put, Slots.get, Slots.keep, if_true, if_false, true_and, ↓ap_move, pop_move, ↓ap_binOp, pop_binOp, isNilC_int, cond_false, pBinX_int, pI_gtr]
        repeat (with_reducible refine And.intro ?_ ?_; · first | trivial | omega | (intro hg; simp only [Bool.and_eq_true, Bool.or_eq_true, Bool.not_eq_true', Bool.and_eq_false_iff, Bool.or_eq_false_iff, Bool.not_eq_false', decide_eq_true_eq, decide_eq_false_iff_not, eqNil] at hg; omega) | (simp only [List.length_append, List.length_map, List.length_range, List.length_replicate, List.length_take, List.length_drop, List.length_cons, List.length_nil, List.length_set, List.length_reverse]; omega))
        apply hK; clear hK K
        refine awp_joinT [0, 3, 4] (fun z : Unit => [(0, .slice lc o l.length c), (3, .str W), (4, .int .i64 i)]) (fun z : Unit => h) (fun z : Unit => True) ?_ ?_
        · refine awp_cond (b := _) rfl (fun hb4 => ?_) (fun hb4 => ?_)
          · try simp only [decide_eq_true_eq] at hb4
            have hWe : W = textE (l.take i) ++ [32] := by rw [hW, if_neg (by omega)]
            -- region 10  law.go:226
            refine awp_r [0, 3, 4] (by rfl) ?_
            simp (decide := true) only [aOps_nil, ev, absV, absS, putD, Slots.put, Slots.get, Slots.keep, if_true, if_false, true_and, and_true, ↓ap_move, pop_move, ↓ap_binOp, pop_binOp, isNilC_str, cond_false, pBinX_str, pS_add, ↓ap_assign, pop_assign]
            repeat (with_reducible refine And.intro ?_ ?_; · first | trivial | omega | (intro hg; simp only [Bool.and_eq_true, Bool.or_eq_true, Bool.not_eq_true', Bool.and_eq_false_iff, Bool.or_eq_false_iff, Bool.not_eq_false', decide_eq_true_eq, decide_eq_false_iff_not, eqNil] at hg; omega) | (simp only [List.length_cons, List.length_nil]; omega))
            try simp only [thenA_normal]
            first
            | exact ⟨(), by rw [hWe]; rfl, Sub.refl _, trivial⟩
            | exact ⟨(), by rw [hWe]; rfl, Sub.refl _⟩
          · try simp only [decide_eq_false_iff_not] at hb4
            have hWe : W = textE (l.take i) := by rw [hW, if_pos (by omega), show i = 0 by omega]; rfl
            refine awp_skip ?_
            try simp only [thenA_normal]
            first
            | exact ⟨(), by rw [hWe]; rfl, Sub.refl _, trivial⟩
            | exact ⟨(), by rw [hWe]; rfl, Sub.refl _⟩
        · intro _ _
          -- region 11  law.go:228
          refine awp_rseq [0, 3, 4, 32] (by rfl) fun K hK => ?_
          simp (decide := true) only [aOps_nil, ev, putD, Slots.put, Slots.get, Slots.keep, if_true, if_false, true_and, ↓ap_move, pop_move, ↓ap_indexAddrL, apL_mk, pIndexAddr_slice Tryd.underlying23 sz35, ↓ap_fieldAddr, pop_fieldAddr, fa35_0, ↓ap_loadL, pLoad_one ag33, lv_int, e0, Int.toNat_natCast, Nat.add_zero]
          repeat (with_reducible refine And.intro ?_ ?_; · first | trivial | omega | (intro hg; simp only [Bool.and_eq_true, Bool.or_eq_true, Bool.not_eq_true', Bool.and_eq_false_iff, Bool.or_eq_false_iff, Bool.not_eq_false', decide_eq_true_eq, decide_eq_false_iff_not, eqNil] at hg; omega) | (simp only [List.length_append, List.length_map, List.length_range, List.length_replicate, List.length_take, List.length_drop, List.length_cons, List.length_nil, List.length_set, List.length_reverse]; omega))
          apply hK; clear hK K
          refine awp_block ?_
          -- region 13  law.go:229
          refine awp_rseq [0, 3, 4, 32, 40] (by rfl) fun K hK => ?_
          simp (decide := true) only [aOps_nil, ev, absV, absS, putD, Slots.put, Slots.get, Slots.keep, if_true, if_false, true_and, ↓ap_binOp, pop_binOp, isNilC_int, cond_false, pBinX_int, pI_eql, ↓ap_assign, pop_assign]
          repeat (with_reducible refine And.intro ?_ ?_; · first | trivial | omega | (intro hg; simp only [Bool.and_eq_true, Bool.or_eq_true, Bool.not_eq_true', Bool.and_eq_false_iff, Bool.or_eq_false_iff, Bool.not_eq_false', decide_eq_true_eq, decide_eq_false_iff_not, eqNil] at hg; omega) | (simp only [List.length_append, List.length_map, List.length_range, List.length_replicate, List.length_take, List.length_drop, List.length_cons, List.length_nil, List.length_set, List.length_reverse]; omega))
          apply hK; clear hK K
          refine awp_cond (b := _) rfl (fun hb5 => ?_) (fun hb5 => ?_)
          · try simp only [decide_eq_true_eq] at hb5
            have hk : t.kind = 3 := (u8_eq _ 3).mp hb5
            have htx : textT t = 34 :: dblE t.text ++ [34] := by unfold textT; rw [if_pos hk]
            -- region 14  law.go:230
            refine awp_rseq [0, 3, 4] (by rfl) fun K hK => ?_
            simp (decide := true) only [aOps_nil, ev, absV, absS, putD, Slots.put, Slots.get, Slots.keep, if_true, if_false, true_and, ↓ap_move, pop_move, ↓ap_binOp, pop_binOp, isNilC_str, cond_false, pBinX_str, pS_add, ↓ap_assign, pop_assign]
            repeat (with_reducible refine And.intro ?_ ?_; · first | trivial | omega | (intro hg; simp only [Bool.and_eq_true, Bool.or_eq_true, Bool.not_eq_true', Bool.and_eq_false_iff, Bool.or_eq_false_iff, Bool.not_eq_false', decide_eq_true_eq, decide_eq_false_iff_not, eqNil] at hg; omega) | (simp only [List.length_cons, List.length_nil]; omega))
            apply hK; clear hK K
            refine awp_seq ?_
            -- region 15  law.go:231
            refine awp_rseq [0, 3, 4, 5] (by rfl) fun K hK => ?_
            simp (decide := true) only [aOps_nil, ev, absV, absS, putD, Slots.put, Slots.keep, if_true, if_false, true_and, ↓ap_assign, pop_assign]
            repeat (with_reducible refine And.intro ?_ ?_; · first | trivial | omega | (intro hg; simp only [Bool.and_eq_true, Bool.or_eq_true, Bool.not_eq_true', Bool.and_eq_false_iff, Bool.or_eq_false_iff, Bool.not_eq_false', decide_eq_true_eq, decide_eq_false_iff_not, eqNil] at hg; omega) | (simp only [List.length_append, List.length_map, List.length_range, List.length_replicate, List.length_take, List.length_drop, List.length_cons, List.length_nil, List.length_set, List.length_reverse]; omega))
            apply hK; clear hK K
            refine awp_block ?_
            refine awp_loopG [0, 3, 4, 5] (fun k : Nat => [(0, .slice lc o l.length c), (3, .str (W ++ [34] ++ dblE (t.text.take k))), (4, .int .i64 i), (5, .int .i64 k)]) (fun k : Nat => h) (fun k : Nat => k ≤ t.text.length) (fun k : Nat => t.text.length - k) 0 (by rw [List.take_zero]; simp [dblE]; rfl) (Sub.refl _) (Nat.zero_le _) ?_
            intro k hk'
            have hdk : (dblE (t.text.take k)).length ≤ 200 := by
              have := dblE_len (t.text.take k)
              rw [List.length_take] at this
              omega
            refine awp_seq ?_
            -- region 16  law.go:231
            refine awp_rseq [0, 3, 4, 5, 51] (by rfl) fun K hK => ?_
            simp (decide := true) only [aOps_nil, ev, putD, Slots.put, Slots.get, Slots.keep, if_true, if_false, true_and, ↓ap_move, pop_move, ↓ap_indexAddrL, apL_mk, pIndexAddr_slice Tryd.underlying23 sz35, ↓ap_fieldAddr, pop_fieldAddr, fa35_1, ↓ap_loadL, pLoad_one ag9, ↓ap_len, pop_len, pLen_str Tryd.underlying9, ↓ap_binOp, pop_binOp, isNilC_tmp, cond_false, pBinX_int, pI_lss, lv_str, e1, Int.toNat_natCast]
            repeat (with_reducible refine And.intro ?_ ?_; · first | trivial | omega | (intro hg; simp only [Bool.and_eq_true, Bool.or_eq_true, Bool.not_eq_true', Bool.and_eq_false_iff, Bool.or_eq_false_iff, Bool.not_eq_false', decide_eq_true_eq, decide_eq_false_iff_not, eqNil] at hg; omega) | (simp only [List.length_append, List.length_map, List.length_range, List.length_replicate, List.length_take, List.length_drop, List.length_cons, List.length_nil, List.length_set, List.length_reverse]; omega))
            apply hK; clear hK K
            refine awp_cond (b := _) rfl (fun hb6 => ?_) (fun hb6 => ?_)
            · try simp only [decide_eq_true_eq] at hb6
              have hkk : k < t.text.length := by omega
              have hcut : (t.text.drop k).take (((k : Int) + 1).toNat - k) = [t.text.getD k 0] := by
                rw [show ((k : Int) + 1).toNat - k = 1 by omega, drop_eq hkk]
                rfl
              have hdt := dblE_take hkk
              refine awp_skip ?_
              change Awp _ _ _ _ _ _ _
              refine awp_seq ?_
              refine awp_block ?_
              -- region 18  law.go:232
              refine awp_rseq [0, 3, 4, 5] (by rfl) fun K hK => ?_
              simp (decide := true) only [ev, absV, absS, putD, Slots.put, Slots.get, if_true, if_false, true_and, ↓ap_move, pop_move, ↓ap_indexAddrL, apL_mk, pIndexAddr_slice Tryd.underlying23 sz35, ↓ap_fieldAddr, pop_fieldAddr, fa35_1, ↓ap_loadL, pLoad_one ag9, ↓ap_binOp, pop_binOp, isNilC_int, cond_false, pBinX_int, pI_add, lv_str, e1, Int.toNat_natCast]
              try simp (disch := omega) only [wrap_i64]
              try simp (decide := true) only [aOps_nil, ev, putD, Slots.put, Slots.get, Slots.keep, if_true, if_false, true_and, ↓ap_slice, pop_slice, evO, pSliceS_ii Tryd.underlying9, pSliceS, bndA_int, ↓ap_binOp, pop_binOp, isNilC_tmp, cond_false, pBinX_str, pS_add, ↓ap_assign, pop_assign, Int.toNat_natCast, hcut]
              repeat (with_reducible refine And.intro ?_ ?_; · first | trivial | omega | (intro hg; simp only [Bool.and_eq_true, Bool.or_eq_true, Bool.not_eq_true', Bool.and_eq_false_iff, Bool.or_eq_false_iff, Bool.not_eq_false', decide_eq_true_eq, decide_eq_false_iff_not, eqNil] at hg; omega) | (simp only [List.length_append, List.length_cons, List.length_nil]; omega))
              apply hK; clear hK K
              -- region 19  law.go:233
              refine awp_rseq [0, 3, 4, 5, 72] (by rfl) fun K hK => ?_
              simp (decide := true) only [aOps_nil, ev, absV, absS, putD, Slots.put, Slots.get, Slots.keep, if_true, if_false, true_and, ↓ap_move, pop_move, ↓ap_indexAddrL, apL_mk, pIndexAddr_slice Tryd.underlying23 sz35, ↓ap_fieldAddr, pop_fieldAddr, fa35_1, ↓ap_loadL, pLoad_one ag9, ↓ap_index, pop_index, pIndex_str Tryd.underlying9, ↓ap_binOp, pop_binOp, isNilC_int, cond_false, pBinX_int, pI_eql, lv_str, e1, Int.toNat_natCast]
              repeat (with_reducible refine And.intro ?_ ?_; · first | trivial | omega | (intro hg; simp only [Bool.and_eq_true, Bool.or_eq_true, Bool.not_eq_true', Bool.and_eq_false_iff, Bool.or_eq_false_iff, Bool.not_eq_false', decide_eq_true_eq, decide_eq_false_iff_not, eqNil] at hg; omega) | (simp only [List.length_append, List.length_map, List.length_range, List.length_replicate, List.length_take, List.length_drop, List.length_cons, List.length_nil, List.length_set, List.length_reverse]; omega))
              apply hK; clear hK K
              refine awp_cond (b := _) rfl (fun hb7 => ?_) (fun hb7 => ?_)
              · try simp only [decide_eq_true_eq] at hb7
                rw [if_pos ((u8_eq _ 34).mp hb7)] at hdt
                -- region 20  law.go:234
                refine awp_r [0, 3, 4, 5] (by rfl) ?_
                simp (decide := true) only [aOps_nil, ev, absV, absS, putD, Slots.put, Slots.get, Slots.keep, if_true, if_false, true_and, ↓ap_move, pop_move, ↓ap_binOp, pop_binOp, isNilC_str, cond_false, pBinX_str, pS_add, ↓ap_assign, pop_assign]
                repeat (with_reducible refine And.intro ?_ ?_; · first | trivial | omega | (intro hg; simp only [Bool.and_eq_true, Bool.or_eq_true, Bool.not_eq_true', Bool.and_eq_false_iff, Bool.or_eq_false_iff, Bool.not_eq_false', decide_eq_true_eq, decide_eq_false_iff_not, eqNil] at hg; omega) | (simp only [List.length_append, List.length_cons, List.length_nil]; omega))
                change Awp _ _ _ _ _ _ _
                -- region 17  law.go:231
                refine awp_r [0, 3, 4, 5] (by rfl) ?_
                simp (decide := true) only [aOps_nil, ev, absV, absS, putD, Slots.put, Slots.get, Slots.keep, if_true, if_false, true_and, ↓ap_move, pop_move, ↓ap_binOp, pop_binOp, isNilC_int, cond_false, pBinX_int, pI_add, ↓ap_assign, pop_assign]
                try simp (disch := omega) only [wrap_i64]
                repeat (with_reducible refine And.intro ?_ ?_; · first | trivial | omega | (intro hg; simp only [Bool.and_eq_true, Bool.or_eq_true, Bool.not_eq_true', Bool.and_eq_false_iff, Bool.or_eq_false_iff, Bool.not_eq_false', decide_eq_true_eq, decide_eq_false_iff_not, eqNil] at hg; omega) | (simp only [List.length_append, List.length_map, List.length_range, List.length_replicate, List.length_take, List.length_drop, List.length_cons, List.length_nil, List.length_set, List.length_reverse]; omega))
                try simp only [thenA_normal]
                exact ⟨k + 1, by rw [hdt]; simp only [List.append_assoc]; rfl, Sub.refl _, hkk, by omega⟩
              · try simp only [decide_eq_false_iff_not] at hb7
                rw [if_neg (fun q => hb7 ((u8_eq _ 34).mpr q)), List.append_nil] at hdt
                refine awp_skip ?_
                change Awp _ _ _ _ _ _ _
                -- region 17  law.go:231
                refine awp_r [0, 3, 4, 5] (by rfl) ?_
                simp (decide := true) only [aOps_nil, ev, absV, absS, putD, Slots.put, Slots.get, Slots.keep, if_true, if_false, true_and, ↓ap_move, pop_move, ↓ap_binOp, pop_binOp, isNilC_int, cond_false, pBinX_int, pI_add, ↓ap_assign, pop_assign]
                try simp (disch := omega) only [wrap_i64]
                repeat (with_reducible refine And.intro ?_ ?_; · first | trivial | omega | (intro hg; simp only [Bool.and_eq_true, Bool.or_eq_true, Bool.not_eq_true', Bool.and_eq_false_iff, Bool.or_eq_false_iff, Bool.not_eq_false', decide_eq_true_eq, decide_eq_false_iff_not, eqNil] at hg; omega) | (simp only [List.length_append, List.length_map, List.length_range, List.length_replicate, List.length_take, List.length_drop, List.length_cons, List.length_nil, List.length_set, List.length_reverse]; omega))
                try simp only [thenA_normal]
                exact ⟨k + 1, by rw [hdt]; simp only [List.append_assoc]; rfl, Sub.refl _, hkk, by omega⟩
            · try simp only [decide_eq_false_iff_not] at hb6
              have hdf := dblE_len t.text
              rw [show k = t.text.length by omega, List.take_length]
              refine awp_exit ?_
              change Awp _ _ _ _ _ _ _
              -- region 21  law.go:237
              refine awp_r [0, 3, 4] (by rfl) ?_
              simp (decide := true) only [aOps_nil, ev, absV, absS, putD, Slots.put, Slots.get, Slots.keep, if_true, if_false, true_and, ↓ap_move, pop_move, ↓ap_binOp, pop_binOp, isNilC_str, cond_false, pBinX_str, pS_add, ↓ap_assign, pop_assign]
              repeat (with_reducible refine And.intro ?_ ?_; · first | trivial | omega | (intro hg; simp only [Bool.and_eq_true, Bool.or_eq_true, Bool.not_eq_true', Bool.and_eq_false_iff, Bool.or_eq_false_iff, Bool.not_eq_false', decide_eq_true_eq, decide_eq_false_iff_not, eqNil] at hg; omega) | (simp only [List.length_append, List.length_cons, List.length_nil]; omega))
              change Awp _ _ _ _ _ _ _
              -- region 6  law.go:221
              refine awp_r [0, 3, 4] (by rfl) ?_
              simp (decide := true) only [aOps_nil, ev, absV, absS, putD, Slots.put, Slots.get, Slots.keep, if_true, if_false, true_and, ↓ap_move, pop_move, ↓ap_binOp, pop_binOp, isNilC_int, cond_false, pBinX_int, pI_add, ↓ap_assign, pop_assign]
              try simp (disch := omega) only [wrap_i64]
              repeat (with_reducible refine And.intro ?_ ?_; · first | trivial | omega | (intro hg; simp only [Bool.and_eq_true, Bool.or_eq_true, Bool.not_eq_true', Bool.and_eq_false_iff, Bool.or_eq_false_iff, Bool.not_eq_false', decide_eq_true_eq, decide_eq_false_iff_not, eqNil] at hg; omega) | (simp only [List.length_append, List.length_map, List.length_range, List.length_replicate, List.length_take, List.length_drop, List.length_cons, List.length_nil, List.length_set, List.length_reverse]; omega))
              try simp only [thenA_normal]
              refine ⟨i + 1, ?_, Sub.refl _, ⟨hi, hall, by rw [hstep, List.length_append]; omega⟩, by omega⟩
              first
              | (rw [hstep, htx]; rfl)
              | (rw [hstep, htx]; simp only [List.append_assoc, List.cons_append, List.nil_append]; rfl)
          · try simp only [decide_eq_false_iff_not] at hb5
            have hk3 : ¬ t.kind = 3 := fun q => hb5 ((u8_eq _ 3).mpr q)
            -- region 22  law.go:238
            refine awp_rseq [0, 3, 4, 32, 77] (by rfl) fun K hK => ?_
            simp (decide := true) only [aOps_nil, ev, absV, absS, putD, Slots.put, Slots.get, Slots.keep, if_true, if_false, true_and, ↓ap_binOp, pop_binOp, isNilC_int, cond_false, pBinX_int, pI_eql, ↓ap_assign, pop_assign]
            repeat (with_reducible refine And.intro ?_ ?_; · first | trivial | omega | (intro hg; simp only [Bool.and_eq_true, Bool.or_eq_true, Bool.not_eq_true', Bool.and_eq_false_iff, Bool.or_eq_false_iff, Bool.not_eq_false', decide_eq_true_eq, decide_eq_false_iff_not, eqNil] at hg; omega) | (simp only [List.length_append, List.length_map, List.length_range, List.length_replicate, List.length_take, List.length_drop, List.length_cons, List.length_nil, List.length_set, List.length_reverse]; omega))
            apply hK; clear hK K
            refine awp_cond (b := _) rfl (fun hb8 => ?_) (fun hb8 => ?_)
            · try simp only [decide_eq_true_eq] at hb8
              have hk : t.kind = 6 := (u8_eq _ 6).mp hb8
              have htx : textT t = [46] := by unfold textT; rw [if_neg hk3, if_pos hk]
              -- region 23  law.go:239
              refine awp_r [0, 3, 4] (by rfl) ?_
              simp (decide := true) only [aOps_nil, ev, absV, absS, putD, Slots.put, Slots.get, Slots.keep, if_true, if_false, true_and, ↓ap_move, pop_move, ↓ap_binOp, pop_binOp, isNilC_str, cond_false, pBinX_str, pS_add, ↓ap_assign, pop_assign]
              repeat (with_reducible refine And.intro ?_ ?_; · first | trivial | omega | (intro hg; simp only [Bool.and_eq_true, Bool.or_eq_true, Bool.not_eq_true', Bool.and_eq_false_iff, Bool.or_eq_false_iff, Bool.not_eq_false', decide_eq_true_eq, decide_eq_false_iff_not, eqNil] at hg; omega) | (simp only [List.length_cons, List.length_nil]; omega))
              change Awp _ _ _ _ _ _ _
              -- region 6  law.go:221
              refine awp_r [0, 3, 4] (by rfl) ?_
              simp (decide := true) only [aOps_nil, ev, absV, absS, putD, Slots.put, Slots.get, Slots.keep, if_true, if_false, true_and, ↓ap_move, pop_move, ↓ap_binOp, pop_binOp, isNilC_int, cond_false, pBinX_int, pI_add, ↓ap_assign, pop_assign]
              try simp (disch := omega) only [wrap_i64]
              repeat (with_reducible refine And.intro ?_ ?_; · first | trivial | omega | (intro hg; simp only [Bool.and_eq_true, Bool.or_eq_true, Bool.not_eq_true', Bool.and_eq_false_iff, Bool.or_eq_false_iff, Bool.not_eq_false', decide_eq_true_eq, decide_eq_false_iff_not, eqNil] at hg; omega) | (simp only [List.length_append, List.length_map, List.length_range, List.length_replicate, List.length_take, List.length_drop, List.length_cons, List.length_nil, List.length_set, List.length_reverse]; omega))
              try simp only [thenA_normal]
              refine ⟨i + 1, ?_, Sub.refl _, ⟨hi, hall, by rw [hstep, List.length_append]; omega⟩, by omega⟩
              first
              | (rw [hstep, htx]; rfl)
              | (rw [hstep, htx]; simp only [List.append_assoc, List.cons_append, List.nil_append]; rfl)
            · try simp only [decide_eq_false_iff_not] at hb8
              have hk6 : ¬ t.kind = 6 := fun q => hb8 ((u8_eq _ 6).mpr q)
              -- region 24  law.go:240
              refine awp_rseq [0, 3, 4, 81] (by rfl) fun K hK => ?_
              simp (decide := true) only [aOps_nil, ev, absV, absS, putD, Slots.put, Slots.get, Slots.keep, if_true, if_false, true_and, ↓ap_binOp, pop_binOp, isNilC_int, cond_false, pBinX_int, pI_eql, ↓ap_assign, pop_assign]
              repeat (with_reducible refine And.intro ?_ ?_; · first | trivial | omega | (intro hg; simp only [Bool.and_eq_true, Bool.or_eq_true, Bool.not_eq_true', Bool.and_eq_false_iff, Bool.or_eq_false_iff, Bool.not_eq_false', decide_eq_true_eq, decide_eq_false_iff_not, eqNil] at hg; omega) | (simp only [List.length_append, List.length_map, List.length_range, List.length_replicate, List.length_take, List.length_drop, List.length_cons, List.length_nil, List.length_set, List.length_reverse]; omega))
              apply hK; clear hK K
              refine awp_cond (b := _) rfl (fun hb9 => ?_) (fun hb9 => ?_)
              · try simp only [decide_eq_true_eq] at hb9
                have hk : t.kind = 7 := (u8_eq _ 7).mp hb9
                have htx : textT t = [61, 61] := by unfold textT; rw [if_neg hk3, if_neg hk6, if_pos hk]
                -- region 25  law.go:241
                refine awp_r [0, 3, 4] (by rfl) ?_
                simp (decide := true) only [aOps_nil, ev, absV, absS, putD, Slots.put, Slots.get, Slots.keep, if_true, if_false, true_and, ↓ap_move, pop_move, ↓ap_binOp, pop_binOp, isNilC_str, cond_false, pBinX_str, pS_add, ↓ap_assign, pop_assign]
                repeat (with_reducible refine And.intro ?_ ?_; · first | trivial | omega | (intro hg; simp only [Bool.and_eq_true, Bool.or_eq_true, Bool.not_eq_true', Bool.and_eq_false_iff, Bool.or_eq_false_iff, Bool.not_eq_false', decide_eq_true_eq, decide_eq_false_iff_not, eqNil] at hg; omega) | (simp only [List.length_cons, List.length_nil]; omega))
                change Awp _ _ _ _ _ _ _
                -- region 6  law.go:221
                refine awp_r [0, 3, 4] (by rfl) ?_
                simp (decide := true) only [aOps_nil, ev, absV, absS, putD, Slots.put, Slots.get, Slots.keep, if_true, if_false, true_and, ↓ap_move, pop_move, ↓ap_binOp, pop_binOp, isNilC_int, cond_false, pBinX_int, pI_add, ↓ap_assign, pop_assign]
                try simp (disch := omega) only [wrap_i64]
                repeat (with_reducible refine And.intro ?_ ?_; · first | trivial | omega | (intro hg; simp only [Bool.and_eq_true, Bool.or_eq_true, Bool.not_eq_true', Bool.and_eq_false_iff, Bool.or_eq_false_iff, Bool.not_eq_false', decide_eq_true_eq, decide_eq_false_iff_not, eqNil] at hg; omega) | (simp only [List.length_append, List.length_map, List.length_range, List.length_replicate, List.length_take, List.length_drop, List.length_cons, List.length_nil, List.length_set, List.length_reverse]; omega))
                try simp only [thenA_normal]
                refine ⟨i + 1, ?_, Sub.refl _, ⟨hi, hall, by rw [hstep, List.length_append]; omega⟩, by omega⟩
                first
                | (rw [hstep, htx]; rfl)
                | (rw [hstep, htx]; simp only [List.append_assoc, List.cons_append, List.nil_append]; rfl)
              · try simp only [decide_eq_false_iff_not] at hb9
                have hk7 : ¬ t.kind = 7 := fun q => hb9 ((u8_eq _ 7).mpr q)
                have htx : textT t = t.text := by unfold textT; rw [if_neg hk3, if_neg hk6, if_neg hk7]
                -- region 12  law.go:243
                refine awp_r [0, 3, 4] (by rfl) ?_
                simp (decide := true) only [aOps_nil, ev, putD, Slots.put, Slots.get, Slots.keep, if_true, if_false, true_and, ↓ap_move, pop_move, ↓ap_indexAddrL, apL_mk, pIndexAddr_slice Tryd.underlying23 sz35, ↓ap_fieldAddr, pop_fieldAddr, fa35_1, ↓ap_loadL, pLoad_one ag9, ↓ap_binOp, pop_binOp, isNilC_tmp, cond_false, pBinX_str, pS_add, ↓ap_assign, pop_assign, lv_str, e1, Int.toNat_natCast]
                repeat (with_reducible refine And.intro ?_ ?_; · first | trivial | omega | (intro hg; simp only [Bool.and_eq_true, Bool.or_eq_true, Bool.not_eq_true', Bool.and_eq_false_iff, Bool.or_eq_false_iff, Bool.not_eq_false', decide_eq_true_eq, decide_eq_false_iff_not, eqNil] at hg; omega) | (simp only [List.length_append, List.length_map, List.length_range, List.length_replicate, List.length_take, List.length_drop, List.length_cons, List.length_nil, List.length_set, List.length_reverse]; omega))
                change Awp _ _ _ _ _ _ _
                -- region 6  law.go:221
                refine awp_r [0, 3, 4] (by rfl) ?_
                simp (decide := true) only [aOps_nil, ev, absV, absS, putD, Slots.put, Slots.get, Slots.keep, if_true, if_false, true_and, ↓ap_move, pop_move, ↓ap_binOp, pop_binOp, isNilC_int, cond_false, pBinX_int, pI_add, ↓ap_assign, pop_assign]
                try simp (disch := omega) only [wrap_i64]
                repeat (with_reducible refine And.intro ?_ ?_; · first | trivial | omega | (intro hg; simp only [Bool.and_eq_true, Bool.or_eq_true, Bool.not_eq_true', Bool.and_eq_false_iff, Bool.or_eq_false_iff, Bool.not_eq_false', decide_eq_true_eq, decide_eq_false_iff_not, eqNil] at hg; omega) | (simp only [List.length_append, List.length_map, List.length_range, List.length_replicate, List.length_take, List.length_drop, List.length_cons, List.length_nil, List.length_set, List.length_reverse]; omega))
                try simp only [thenA_normal]
                refine ⟨i + 1, ?_, Sub.refl _, ⟨hi, hall, by rw [hstep, List.length_append]; omega⟩, by omega⟩
                first
                | (rw [hstep, htx]; rfl)
                | (rw [hstep, htx]; simp only [List.append_assoc, List.cons_append, List.nil_append]; rfl)
    · try simp only [decide_eq_false_iff_not] at hb2
      have hin : i = l.length := by omega
      refine awp_exit ?_
      change Awp _ _ _ _ _ _ _
      -- region 26  law.go:246
      refine awp_rseq [2] (by rfl) fun K hK => ?_
      simp (decide := true) only [ev, putD, Slots.put, Slots.get, if_true, if_false, true_and, ↓ap_move, pop_move]
      repeat (with_reducible refine And.intro ?_ ?_; · first | trivial | omega | (intro hg; simp only [Bool.and_eq_true, Bool.or_eq_true, Bool.not_eq_true', Bool.and_eq_false_iff, Bool.or_eq_false_iff, Bool.not_eq_false', decide_eq_true_eq, decide_eq_false_iff_not, eqNil] at hg; omega) | (simp only [List.length_append, List.length_map, List.length_range, List.length_replicate, List.length_take, List.length_drop, List.length_cons, List.length_nil, List.length_set, List.length_reverse]; omega))
      refine aOps_callV (V := .str (textE l)) (by rfl) (by rfl) (c_Text w₀ hm _ v l hv (by omega) (fun t ht => by obtain ⟨j, hj, rfl⟩ := List.getElem_of_mem ht; have := i2 j (by omega); simp [List.getD, hj] at this; omega)) ?_
      simp (decide := true) only [ev, putD, Slots.put, Slots.get, if_true, if_false, true_and, ↓ap_move, pop_move, ↓ap_binOp, pop_binOp, isNilC_tmp, cond_false, pBinX_str, pS_eql]
      repeat (with_reducible refine And.intro ?_ ?_; · first | trivial | omega | (intro hg; simp only [Bool.and_eq_true, Bool.or_eq_true, Bool.not_eq_true', Bool.and_eq_false_iff, Bool.or_eq_false_iff, Bool.not_eq_false', decide_eq_true_eq, decide_eq_false_iff_not, eqNil] at hg; omega) | (simp only [List.length_append, List.length_map, List.length_range, List.length_replicate, List.length_take, List.length_drop, List.length_cons, List.length_nil, List.length_set, List.length_reverse]; omega))
      first
      | (refine aOps_yes (by rfl) ?_; refine aOps_callV (V := .bool true) (by rfl) (by rfl) (c_lives03 w₀ hm _) ?_)
      | (refine aOps_no (by rfl) (by rfl) ?_)
      | (refine aOps_gcall (V := .bool true) (f := _) (cap := _) (xs := _) (by first | rfl | (simp (decide := true) only [gv, nthDst, Slots.get, if_true, if_false, gKnown_cond, gKnown_bool])) (fun hg => ⟨rfl, ?_⟩) (fun hg => c_lives03 w₀ hm _) ?_; · (simp (decide := true) only [gv, nthDst, Slots.get, if_true, if_false, guardB_bool_true] at hg; simp (decide := true) only [evs, hg, List.append_nil, List.map_nil] <;> try rfl))
      simp (decide := true) only [aOps_nil, ev, absV, absS, putD, Slots.put, Slots.get, Slots.keep, if_true, if_false, true_and, gv, nthDst, guardB_bool_true, ↓ap_pick, pop_pick, pPick_bool, pickV_cond_l, pickV_and, ↓ap_assign, pop_assign, Bool.and_true]
      repeat (with_reducible refine And.intro ?_ ?_; · first | trivial | omega | (intro hg; simp only [Bool.and_eq_true, Bool.or_eq_true, Bool.not_eq_true', Bool.and_eq_false_iff, Bool.or_eq_false_iff, Bool.not_eq_false', decide_eq_true_eq, decide_eq_false_iff_not, eqNil] at hg; omega) | (simp only [List.length_append, List.length_map, List.length_range, List.length_replicate, List.length_take, List.length_drop, List.length_cons, List.length_nil, List.length_set, List.length_reverse]; omega))
      apply hK; clear hK K
      refine awp_ret ?_
      try simp only [thenA_ret, inBlockA_ret]
      refine retA_ret h (by repeat (first | exact Sub.refl _ | assumption | refine Sub.trans_set ?_ (by assumption))) (resPre_tmp (resPre_nil)) ?_
      simp (decide := true) only [Slots.get, if_true, and_true, resOf_one]
      rw [hin, List.take_length, decide_eq_true rfl]
end Go.Proofs.YtmadddihphkmoaaDoor

/-
  The arguments of the statements, opened: booleans, texts, integers, pairs of bytes; the wrap that hands on the world's shape.
  Conditions: none.
-/
namespace Go.Proofs.YtmadddihphkmoaaDoor
open Go.AM
open Go.ChangeShapes Go.WideShapes Go.ChangeAt Go.RowKit
set_option maxRecDepth 100000

section
variable {H : Type} {enc : TypeId × Value → H} {W : World} {base : Nat} {v : Value} {x : DataW H × List MemPlace}
end

/-- The plain wrap of a row with listed variables, the world's shape handed on. -/
theorem returns_and_shaped {H : Type} {enc : TypeId × Value → H} {a : Assume} {C : Checked} {os : Os} {f : FuncId} {fn : Func} {s : ChangeSpec} {conds : List PathCond} {apart fresh handsOn again : Bool} {X : World → Array Value → Prop}
    (hX : ∀ (w w' : World) (args : Array Value), w.heap = w'.heap → X w args → X w' args)
    (own : ownKnob C.prog.godebug = none) (started : os.Started) (noInit : C.prog.inits.idxOf? f = none) (hfn : C.prog.funcs[f]? = some fn)
    (witness : ∃ (w : World) (tape : Tape) (i : Input), w.os = os ∧ (w.forCall tape i).Shaped C.prog ∧ i.vars = [] ∧ Input.okWide C.prog (w.forCall tape i) .any w.heap.size f i ∧
      ((s.pre enc C.prog fn conds apart (w.forCall tape i).memory i.args ∧ X (w.forCall tape i).memory i.args) ∧ sizedMet enc C.prog fn (OpenSpec.ofChange s) apart (w.forCall tape i).memory i.args) ∧ a.holds C.prog (lone (Frame.enter C.prog f i.args .normal) [] (w.forCall tape i)))
    (contract : ∀ (W : World) (base : Nat) (args : Array Value) (ds gs : List (DataW H)) (before : List MemPlace), W.ShapedOpen C.prog →
      (∀ (j : Nat) t v, fn.params[j]? = some t → args[j]? = some v → Value.okWide C.prog W .any base t v) →
      DataW.Whole enc C.prog fn.params.toList s.vars apart W args.toList ds gs before →
      conds.all (PathCond.test C.prog ⟨fn.params.toList, ds, s.plain.varTypes C.prog, gs⟩) = true →
      (DataW.weightsEach C.prog (fn.params.toList ++ s.plain.varTypes C.prog) (ds ++ gs)).all (· ≤ reachBytes) = true → X W args →
      a.holds C.prog (lone (Frame.enter C.prog f args .normal) [] W) →
      Calls C.prog f args W fun e W' => ∃ v, e = .returned v ∧ s.post enc C.prog fn apart fresh handsOn again W args v W') :
    ReturnsInHanded a C os f .any (fun w args => (s.pre enc C.prog fn conds apart w args ∧ X w args) ∧ sizedMet enc C.prog fn (OpenSpec.ofChange s) apart w args) (s.post enc C.prog fn apart fresh handsOn again) := by
  refine returnsInHanded_of_calls own started noInit witness ?_
  intro w tape i _ hsh _ hok hpre hholds
  obtain ⟨_, _, _, fn', hfn', _, _, _, _, hval⟩ := hok
  have e : fn' = fn := Option.some.inj (hfn'.symm.trans hfn)
  subst e
  obtain ⟨⟨⟨ds, gs, before, hw, hc⟩, hx⟩, hz⟩ := hpre
  have hw' := DataW.Whole.of_heap (w' := w.forCall tape i) (by rfl) hw
  refine (contract (w.forCall tape i) w.heap.size i.args ds gs before hsh hval hw' hc (hz.weights hw) (hX _ _ _ (by rfl) hx) hholds).mono fun e W' ⟨v, he, hp⟩ => ?_
  subst he
  exact ChangeSpec.post_blind hp
end Go.Proofs.YtmadddihphkmoaaDoor

/-
  What the world of a statement about columns gives: the listed table, the cell of the longest text.
  Conditions: none.
-/
namespace Go.Proofs.YtmadddihphkmoaaDoor
open Go.AM
open Go.ChangeShapes Go.WideShapes Go.ChangeAt Go.RowKit
set_option maxRecDepth 100000
/-- The listed table of powers of ten. -/
theorem maxl_of {W : World} (h : W.ShapedOpen Tryd.prog) : MaxL W :=
  cell_of_shapedOpen_int (t := 3) (zero := #[.int .i64 0]) h (of_decide_eq_true (by kernel_rfl)) (by kernel_rfl) rfl (by kernel_rfl) (by kernel_rfl) Tryd.underlying3
end Go.Proofs.YtmadddihphkmoaaDoor

/-
  The arguments of the statements, opened: tokens.
  Conditions: none.
-/
namespace Go.Proofs.YtmadddihphkmoaaDoor
open Go.AM
open Go.Col
open Go.Tok
open Go.ChangeShapes Go.WideShapes Go.ChangeAt Go.RowKit
set_option maxRecDepth 100000

section
variable {H : Type} {enc : TypeId × Value → H} {W : World} {base : Nat} {v : Value} {x : DataW H × List MemPlace}

def tokVs (m : TokC) : List Value := [.int .u8 m.kind.toNat, .string ⟨⟨m.text⟩⟩, .int .i64 m.line, .int .i64 m.col, .bool m.left]
theorem tok_cells {n : Nat} {cs : List Value} {y : DataW H × List MemPlace} (h : DataW.trod enc Tryd.prog W 0 (fun _ => true) true n 35 cs = some y) :
    ∃ m : TokC, cs = tokVs m ∧ m.text.length ≤ 9223372036854775807 := by
  obtain ⟨y0, y1, y2, y3, n', _, hl, h0, h1, h2, h3⟩ := Go.Joins.trod_struct4 Tryd.underlying35 h
  obtain ⟨z0, z1, n'', _, hl', g0, g1⟩ := trod_struct2 Tryd.underlying26 h2
  rw [show Tryd.prog.cellsOf 35 = 5 by kernel_rfl] at hl
  match cs, hl with
  | [c0, c1, c2, c3, c4], _ =>
    simp only [show Tryd.prog.cellsOf 33 = 1 by kernel_rfl, show Tryd.prog.cellsOf 9 = 1 by kernel_rfl, show Tryd.prog.cellsOf 4 = 1 by kernel_rfl, show Tryd.prog.cellsOf 3 = 1 by kernel_rfl, show Tryd.prog.cellsOf 26 = 2 by kernel_rfl, List.drop_zero, List.drop_succ_cons, List.take_succ_cons, List.take_zero] at h0 h1 h2 h3 g0 g1
    obtain ⟨a, e0, _, ha⟩ := DataW.trod_int Tryd.underlying33 h0
    obtain ⟨s, e1, _, hs⟩ := DataW.trod_string Tryd.underlying9 h1
    obtain ⟨b, e2, _, _⟩ := DataW.trod_int Tryd.underlying3 g0
    obtain ⟨c, e3, _, _⟩ := DataW.trod_int Tryd.underlying3 g1
    obtain ⟨d, e4, _⟩ := DataW.trod_bool Tryd.underlying4 h3
    simp only [List.cons.injEq, and_true] at e0 e1 e2 e3 e4
    subst e0 e1 e2 e3 e4
    obtain ⟨a0, a1⟩ := wf_u8 ha
    refine ⟨⟨UInt8.ofNat a.toNat, s.data.toList, b, c, d⟩, ?_, str_le hs⟩
    unfold tokVs
    have ea : ((UInt8.ofNat a.toNat).toNat : Int) = a := by
      rw [UInt8.toNat_ofNat']
      omega
    simp only [ea]
theorem toks_row {a : Addr} {len : Nat} (h : ∀ i, i < len → ∃ m : TokC, m.text.length ≤ 9223372036854775807 ∧ ∀ j, j < 5 → W.cell? (a.add (i * 5 + j)) = (tokVs m)[j]?) :
    ∃ ms : List TokC, ms.length = len ∧ (∀ m ∈ ms, m.text.length ≤ 9223372036854775807) ∧ ∀ i, i < len → ∀ j, j < 5 → W.cell? (a.add (i * 5 + j)) = (tokVs (ms.getD i badT))[j]? := by
  induction len with
  | zero => exact ⟨[], rfl, by simp, fun i hi => by omega⟩
  | succ n ih =>
    obtain ⟨ms, h1, h3, h2⟩ := ih fun i hi => h i (by omega)
    obtain ⟨m, hm3, hm⟩ := h n (by omega)
    refine ⟨ms ++ [m], by simp [h1], ?_, fun i hi j hj => ?_⟩
    · intro x hx
      rw [List.mem_append, List.mem_singleton] at hx
      rcases hx with hx | rfl
      · exact h3 x hx
      · exact hm3
    by_cases hin : i < n
    · have : (ms ++ [m]).getD i badT = ms.getD i badT := by simp only [List.getD, List.getElem?_append_left (show i < ms.length by omega)]
      rw [this]
      exact h2 i hin j hj
    · have hin' : i = n := by omega
      subst hin'
      have : (ms ++ [m]).getD i badT = m := by simp [List.getD, h1]
      rw [this]
      exact hm j hj
theorem isL_toks {w : World} {b o len cap : Nat} {ms : List TokC} (h1 : ms.length = len) (hcap : len ≤ cap) (h2 : ∀ i, i < len → ∀ j, j < 5 → w.cell? ((⟨b, o, none⟩ : Addr).add (i * 5 + j)) = (tokVs (ms.getD i badT))[j]?) :
    IsL w (fun _ => none) 5 (.slice (.base b) o len (.exact cap)) (ms.map tokC) := by
  refine .mk _ _ _ _ _ (by rw [List.length_map, h1]) tokC_wide ?_ (allLive_flatten.2 fun x hx => by obtain ⟨y, _, rfl⟩ := List.mem_map.1 hx; rfl) hcap
  apply List.ext_getElem?
  intro q
  by_cases hq : q < len * 5
  · rw [cellsAt_get _ _ _ _ _ _ hq]
    obtain ⟨i, hi⟩ : ∃ i, i = q / 5 := ⟨_, rfl⟩
    obtain ⟨j, hj⟩ : ∃ j, j = q % 5 := ⟨_, rfl⟩
    have hqe : q = i * 5 + j := by omega
    have hi' : i < len := by omega
    have hj' : j < 5 := by omega
    have hcell := h2 i hi' j hj'
    have ea : (⟨b, o, none⟩ : Addr).add (i * 5 + j) = ⟨b, o + (i * 5 + j), none⟩ := by by_cases e : i * 5 + j = 0 <;> simp [Addr.add, e] <;> omega
    rw [ea] at hcell
    rw [hqe, flatten_get tokC_wide (by rw [List.length_map]; omega) hj', getD_map badT (by omega)]
    have fin : ∀ z : Value, w.cell? ⟨b, o + (i * 5 + j), none⟩ = some z → AM.rd w (fun _ => none) (.base b) (o + (i * 5 + j)) = absS z := fun z hz => by
      have hlt : b < w.heap.size := cell_lt hz
      simp only [AM.rd, hlt, if_true, hz]
    match j, hj' with
    | 0, _ => rw [fin _ hcell]; rfl
    | 1, _ => rw [fin _ hcell]; rfl
    | 2, _ => rw [fin _ hcell]; rfl
    | 3, _ => rw [fin _ hcell]; rfl
    | 4, _ => rw [fin _ hcell]; rfl
  · rw [List.getElem?_eq_none (by rw [cellsAt_length]; omega), List.getElem?_eq_none (by rw [flatten_len tokC_wide, List.length_map, h1]; omega)]
theorem arg_Tokens (h : ∃ fuel, DataW.trod enc Tryd.prog W 0 (fun _ => true) true fuel 23 v.cells.toList = some x) (hv : Value.okWide Tryd.prog W .any base 23 v) :
    ∃ (l : List TokC) (y : AVal), VR (fun _ => none) y v ∧ IsL W (fun _ => none) 5 y (l.map tokC) ∧ l.length ≤ 9223372036854775807 ∧ ∀ t ∈ l, t.text.length ≤ 9223372036854775807 := by
  obtain ⟨fuel, h2⟩ := h
  obtain ⟨a0, len0, cap0, rfl⟩ := okWide_slice Tryd.underlying23 hv
  have h2' : DataW.trod enc Tryd.prog W 0 (fun _ => true) true fuel 23 [.slice a0 len0 cap0] = some x := h2
  have fin : ∀ (y : AVal) (ms : List TokC), VR (fun _ => none) y (.slice a0 len0 cap0) → IsL W (fun _ => none) 5 y (ms.map tokC) → ms.length ≤ 9223372036854775807 → (∀ m ∈ ms, m.text.length ≤ 9223372036854775807) → ∃ (l : List TokC) (y : AVal), VR (fun _ => none) y (.slice a0 len0 cap0) ∧ IsL W (fun _ => none) 5 y (l.map tokC) ∧ l.length ≤ 9223372036854775807 ∧ ∀ t ∈ l, t.text.length ≤ 9223372036854775807 :=
    fun y ms q1 q2 q3 q4 => ⟨ms, y, q1, q2, q3, q4⟩
  rcases DataW.trod_slice Tryd.underlying23 h2' with ⟨hcs, _⟩ | ⟨a, len, cap, elems, rest, n', _, hcs, _, _, hlc, hcm, hel, hcell, hspare, _⟩
  · simp only [List.cons.injEq, and_true] at hcs
    rw [hcs] at fin ⊢
    exact fin .nilSlice [] (by simp [VR]) .nil (by simp) (by simp)
  · simp only [List.cons.injEq, and_true] at hcs
    rw [hcs] at fin ⊢
    have hlen : len ≤ 9223372036854775807 := Nat.le_trans hlc hcm
    obtain ⟨ms, m1, m3, m2⟩ := toks_row (W := W) (a := a) (len := len) fun i hi => by
      have he := hcell i hi
      rw [List.getElem?_eq_getElem (by omega), Option.bind_eq_some_iff] at he
      obtain ⟨cs', hcs', hy⟩ := he
      obtain ⟨m, rfl, hmt⟩ := tok_cells hy
      rw [show Tryd.prog.cellsOf 35 = 5 by kernel_rfl] at hcs'
      refine ⟨m, hmt, fun j hj => ?_⟩
      have := (World.cells?_some hcs').2.2 j hj
      rw [← this]
      congr 1
      obtain ⟨ab, ao, asp⟩ := a
      by_cases e1 : i * 5 = 0 <;> by_cases e2 : j = 0 <;> simp [Addr.add, e1, e2, Nat.add_assoc]
    obtain ⟨ab, ao, asp⟩ := a
    rcases Nat.eq_zero_or_pos len with e | e
    · have hms : ms = [] := List.eq_nil_of_length_eq_zero (by omega)
      subst hms
      subst e
      refine fin (.slice (.base ab) ao 0 (.exact cap)) [] ?_ (isL_toks rfl (Nat.zero_le _) fun i hi => by omega) (by simp) (by simp)
      simp only [VR]
      refine ⟨_, rfl, fun hc => ?_⟩
      have hc : 0 < cap := by omega
      obtain ⟨r1, r2⟩ := hspare rfl
      have hr := r2 0 (by omega)
      rw [List.getElem?_eq_getElem (by omega), Option.bind_eq_some_iff] at hr
      obtain ⟨cs', hcs', hy⟩ := hr
      obtain ⟨m, rfl, hmt⟩ := tok_cells hy
      rw [show Tryd.prog.cellsOf 35 = 5 by kernel_rfl] at hcs'
      have h3 := (World.cells?_some hcs').2.2 0 (by omega)
      have := World.cell?_spot (h3.trans rfl)
      simp only [Addr.add] at this
      simp at this
      subst this
      rfl
    · have hs : asp = none := by
        have := World.cell?_spot (m2 0 (by omega) 0 (by omega))
        simpa [Addr.add] using this
      subst hs
      refine fin (.slice (.base ab) ao len (.exact cap)) ms ?_ (isL_toks m1 hlc m2) (by omega) m3
      simp only [VR]
      exact ⟨_, rfl, fun _ => rfl⟩
end
end Go.Proofs.YtmadddihphkmoaaDoor

