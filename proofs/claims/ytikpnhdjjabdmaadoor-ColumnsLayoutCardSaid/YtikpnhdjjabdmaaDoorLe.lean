/-
  Texts of this proof, joined: CoO, CoP, CoQ, LwR, LwS.
  Conditions: none.
-/
import Derived.Test.YtikpnhdjjabdmaaDoorLd
import Derived.Test.YtikpnhdjjabdmaaDoorProg
import Derived.Test.YtikpnhdjjabdmaaDoorLb
import Derived.WalkKit
import Derived.ProofKit
import Derived.OpenShut
import Derived.ShutString
import Derived.ChangeOld
import Derived.Below
import Derived.Deep.Strs
import Derived.Handed
import Derived.HandedShaped
import Derived.Shelf.Vars
import Derived.Test.YtikpnhdjjabdmaaDoorRows
import Derived.Lib.LaidTab
import Derived.MakeChecks
set_option linter.unusedSimpArgs false
set_option linter.unnecessarySimpa false
set_option linter.unusedVariables false
/-
  Contracts: read of the laws.
  Conditions: none.
-/
namespace Go.Proofs.YtikpnhdjjabdmaaDoor
open Go.AM
open Go.Proofs
open Go.Col
set_option maxRecDepth 100000

theorem readL_small (dbg : Bool) : ∀ (ls : List Str) (n : Int) (x : Rd) (N : Nat), RdSm N x → RdSm (N + ls.length) (readL dbg ls n x).1
  | [], _, x, N, h => h
  | s :: ls, n, x, N, h => by
    have hl := (lineE_small (s := s) (line := n) (dbg := dbg)).1
    have e : N + (s :: ls).length = (N + 1) + ls.length := by rw [List.length_cons]; omega
    have up : ∀ k {y : Rd}, RdSm (N + 1) y → RdSm (N + 1 + k) y := fun k y hy => by
      induction k with
      | zero => exact hy
      | succ k ih => exact ih.next
    rw [readL]
    cases hp : lineE s n dbg with
    | mk r q =>
      obtain ⟨cn, f⟩ := q
      rw [hp] at hl
      simp only
      split
      · rw [e]; exact readL_small dbg ls _ x (N + 1) h.next
      · split
        · split
          · rw [e]; exact readL_small dbg ls _ _ (N + 1) (takeE_small h (by have : r.text.length ≤ 65 := hl; omega))
          · rw [e]; exact up _ (takeE_small h (by have : r.text.length ≤ 65 := hl; omega))
        · rw [e]; exact up _ h.next
theorem readE_small (text : Str) (dbg : Bool) : (readE text dbg).1.length ≤ text.length + 1 ∧ ∀ c ∈ (readE text dbg).1, c.text.length ≤ 80 * (text.length + 1) ∧ c.marks.length ≤ text.length + 1 := by
  have h := readL_small dbg (splitNL (trimNL text)) 1 .start 0 ⟨Nat.zero_le _, fun c hc => by cases hc⟩
  have h1 := splitNL_len (trimNL text)
  have h2 := trimNL_len text
  unfold readE
  split
  · exact ⟨Nat.zero_le _, fun c hc => by cases hc⟩
  · simp only
    split
    · exact ⟨Nat.zero_le _, fun c hc => by cases hc⟩
    · split
      · exact ⟨Nat.zero_le _, fun c hc => by cases hc⟩
      · exact ⟨by have := h.many; simp only; omega, fun c hc => by have := h.small c hc; omega⟩
theorem join_len {sep : Str} {m : Nat} : ∀ {l : List Str}, (∀ x ∈ l, x.length ≤ m) → (Lib.join l sep).length ≤ l.length * (m + sep.length)
  | [], _ => by simp [Lib.join]
  | [x], h => by
    have := h x (by simp)
    simp [Lib.join]
    omega
  | x :: y :: l, h => by
    have ih := join_len (sep := sep) (l := y :: l) fun z hz => h z (by simp [hz])
    have hx := h x (by simp)
    have e : Lib.join (x :: y :: l) sep = x ++ sep ++ Lib.join (y :: l) sep := by
      unfold Lib.join
      rw [List.intercalate_cons_cons]
    rw [e]
    simp only [List.length_append]
    have : (x :: y :: l).length * (m + sep.length) = (y :: l).length * (m + sep.length) + (m + sep.length) := by
      rw [List.length_cons, Nat.add_mul, Nat.one_mul]
    omega
def cardS (c : CardC) : Str := c.text ++ if c.left = true then [60] else []
/-- The cards' texts behind one another, or the fault. -/
def readT (text : Str) : Str × FaultC := (Lib.join ((readE text false).1.map cardS) [124], (readE text false).2)
theorem IsCards_nth {w₀ : World} {h : AHeap} {l : AM.Loc} {o n : Nat} {cp : Cap} {cs : List CardC} (hc : IsCards w₀ h (.slice l o n cp) cs) {i : Nat} (hi : i < cs.length) :
    ∃ mv, IsL w₀ h 3 mv ((cs.getD i ⟨false, [], []⟩).marks.map markC) ∧ rd w₀ h l (o + i * 3) = .bool (cs.getD i ⟨false, [], []⟩).left ∧ rd w₀ h l (o + i * 3 + 1) = .str (cs.getD i ⟨false, [], []⟩).text ∧ rd w₀ h l (o + i * 3 + 2) = mv := by
  obtain ⟨ps, rfl, h2, h3⟩ := hc
  rw [List.length_map] at hi
  have he := h2.elem (i := i) (by rw [List.length_map]; exact hi)
  rw [getD_map (⟨false, [], []⟩, .dead) hi] at he
  have hg : (ps.map (·.1)).getD i ⟨false, [], []⟩ = (ps.getD i (⟨false, [], []⟩, .dead)).1 := by
    simp [List.getD, hi]
  rw [hg]
  have hm : ps.getD i (⟨false, [], []⟩, .dead) ∈ ps := by rw [List.getD, List.getElem?_eq_getElem hi]; exact List.getElem_mem hi
  simp only [cellsAt, cell3, List.cons.injEq, and_true] at he
  exact ⟨_, h3 _ hm, he.1, he.2.1, he.2.2⟩
theorem IsCards.live {w₀ : World} {h : AHeap} {v : AVal} {cs : List CardC} (hc : IsCards w₀ h v cs) : v.live = true := by
  obtain ⟨ps, rfl, h2, h3⟩ := hc
  exact h2.live
theorem IsCards.len {w₀ : World} {h : AHeap} {v : AVal} {cs : List CardC} (hc : IsCards w₀ h v cs) : pLen Tryd.prog 30 v = ⟨True, .int .i64 cs.length⟩ := by
  obtain ⟨ps, rfl, h2, h3⟩ := hc
  have := h2.len Tryd.underlying30
  rw [List.length_map] at this ⊢
  exact this
theorem IsCards.open {w₀ : World} {h : AHeap} {v : AVal} {cs : List CardC} (hc : IsCards w₀ h v cs) (hn : 0 < cs.length) : ∃ l o c, v = .slice l o cs.length c := by
  obtain ⟨ps, rfl, h2, h3⟩ := hc
  obtain ⟨l, o, c, e⟩ := h2.open (fun e => by rw [List.map_eq_nil_iff] at e; subst e; simp at hn)
  rw [List.length_map] at e ⊢
  exact ⟨l, o, c, e⟩
def strC (s : Str) : List AVal := [.str s]
structure RtOk (cs : List CardC) (H : AHeap) (g : Nat × Option Buf) : Prop where
  i : g.1 ≤ cs.length
  ok : bufOk H 1 g.2
  eq : bufC g.2 = ((cs.take g.1).map fun c => strC (cardS c)).flatten
theorem c_read1 (w₀ : World) (hm : MaxL w₀) (h : AHeap) (text : Str) (hl : text.length ≤ 100000) : ACall Tryd.prog w₀ 20 [.str text] h (fun v h' => v = .tuple [.str (readT text).1, faultA (readT text).2] ∧ Sub h h') := by
  obtain ⟨z1, z2⟩ := readE_small text false
  refine acall_intro (n := 39) (rs := [.tmp 2, .cell 3 34]) Tryd.func20 rfl rfl rfl rfl (Nat.le_of_ble_eq_true rfl) ?_
  simp only [initSlots]
  -- region 0  law.go:16
  refine awp_rseq [0, 3] (by rfl) fun K hK => ?_
  simp (decide := true) only [ev, absV, absS, putD, Slots.put, if_false, true_and, ↓ap_assign, pop_assign]
  repeat (with_reducible refine And.intro ?_ ?_; · first | trivial | omega | (intro hg; simp only [Bool.and_eq_true, Bool.or_eq_true, Bool.not_eq_true', Bool.and_eq_false_iff, Bool.or_eq_false_iff, Bool.not_eq_false', decide_eq_true_eq, decide_eq_false_iff_not, eqNil] at hg; omega) | (simp only [List.length_append, List.length_map, List.length_range, List.length_replicate, List.length_take, List.length_drop, List.length_cons, List.length_nil, List.length_set, List.length_reverse]; omega))
  refine aOps_alloc ze34 (cs := [.int .i64 0, .int .i64 0, .int .i64 0]) (by rfl) fun k0q1 hk0q1 => ?_
  try have hf_0q1 : h k0q1 = none := by first | assumption | (simp only [AHeap.set_none] at hk0q1; simp only [hk0q1])
  simp (decide := true) only [aOps_nil, putD, Slots.put, Slots.keep, if_true, if_false]
  repeat (with_reducible refine And.intro ?_ ?_; · first | trivial | omega | (intro hg; simp only [Bool.and_eq_true, Bool.or_eq_true, Bool.not_eq_true', Bool.and_eq_false_iff, Bool.or_eq_false_iff, Bool.not_eq_false', decide_eq_true_eq, decide_eq_false_iff_not, eqNil] at hg; omega) | (simp only [List.length_append, List.length_map, List.length_range, List.length_replicate, List.length_take, List.length_drop, List.length_cons, List.length_nil, List.length_set, List.length_reverse]; omega))
  apply hK; clear hK K
  -- region 1  law.go:17
  refine awp_rseq [3, 4, 5] (by rfl) fun K hK => ?_
  simp (decide := true) only [ev, putD, Slots.put, Slots.get, if_true, if_false, true_and, ↓ap_move, pop_move]
  repeat (with_reducible refine And.intro ?_ ?_; · first | trivial | omega | (intro hg; simp only [Bool.and_eq_true, Bool.or_eq_true, Bool.not_eq_true', Bool.and_eq_false_iff, Bool.or_eq_false_iff, Bool.not_eq_false', decide_eq_true_eq, decide_eq_false_iff_not, eqNil] at hg; omega) | (simp only [List.length_append, List.length_map, List.length_range, List.length_replicate, List.length_take, List.length_drop, List.length_cons, List.length_nil, List.length_set, List.length_reverse]; omega))
  refine aOps_call (by rfl) (by rfl) (c_Read w₀ hm _ text false (by omega)) fun x1q1 h1q1 hx1q1 => ?_
  obtain ⟨cv, rfl, hc, hs1⟩ := hx1q1
  obtain ⟨cs, hcs⟩ : ∃ cs, cs = (readE text false).1 := ⟨_, rfl⟩
  obtain ⟨f, hf⟩ : ∃ f, f = (readE text false).2 := ⟨_, rfl⟩
  rw [← hcs] at hc z1 z2
  rw [← hf]
  have hs_h1q1 : Sub h h1q1 := Sub.trans (by repeat (first | exact Sub.refl _ | assumption | refine Sub.trans_set ?_ (by assumption))) hs1
  have hr_h1q1 := hs_h1q1
  have eb_0q1 := hs1 k0q1 _ (by repeat (first | exact AHeap.set_same _ _ _ | assumption | refine (AHeap.set_ne _ _ (by first | assumption | exact Ne.symm (by assumption))).trans ?_))
  simp (decide := true) only [ev, putD, Slots.put, Slots.get, if_true, if_false, true_and, ↓ap_move, pop_move, ↓ap_extract, pop_extract, pExt_tuple, List.length_cons, List.length_nil, List.getD_cons_zero, List.getD_cons_succ, List.getD_cons_zero, List.getD_cons_succ, Nat.zero_add, Nat.reduceAdd, faultA]
  repeat (with_reducible refine And.intro ?_ ?_; · first | trivial | omega | (intro hg; simp only [Bool.and_eq_true, Bool.or_eq_true, Bool.not_eq_true', Bool.and_eq_false_iff, Bool.or_eq_false_iff, Bool.not_eq_false', decide_eq_true_eq, decide_eq_false_iff_not, eqNil] at hg; omega) | (simp only [List.length_append, List.length_map, List.length_range, List.length_replicate, List.length_take, List.length_drop, List.length_cons, List.length_nil, List.length_set, List.length_reverse]; omega))
  refine aOps_alloc ze34 (cs := [.int .i64 0, .int .i64 0, .int .i64 0]) (by rfl) fun k1q5 hk1q5 => ?_
  have hn_1q5 : h1q1 k1q5 = none := by first | assumption | (simp only [AHeap.set_none] at hk1q5; simp only [hk1q5])
  have hf_1q5 : h k1q5 = none := Sub.none hs_h1q1 hn_1q5
  have ne_1q5_0q1 : k1q5 ≠ k0q1 := AHeap.ne_some hn_1q5 eb_0q1
  simp (decide := true) only [ev, putD, Slots.put, Slots.get, if_true, if_false, true_and, ↓ap_assign, pop_assign]
  repeat (with_reducible refine And.intro ?_ ?_; · first | trivial | omega | (intro hg; simp only [Bool.and_eq_true, Bool.or_eq_true, Bool.not_eq_true', Bool.and_eq_false_iff, Bool.or_eq_false_iff, Bool.not_eq_false', decide_eq_true_eq, decide_eq_false_iff_not, eqNil] at hg; omega) | (simp only [List.length_append, List.length_map, List.length_range, List.length_replicate, List.length_take, List.length_drop, List.length_cons, List.length_nil, List.length_set, List.length_reverse]; omega))
  refine aOps_store (by rfl) (by rfl) (by repeat (first | exact AHeap.set_same _ _ _ | assumption | refine (AHeap.set_ne _ _ (by first | assumption | exact Ne.symm (by assumption))).trans ?_)) sz34 (by rfl) (by rfl) (by first | exact Nat.le_refl _ | decide | (simp; done) | (simp; omega)) (Nat.zero_le _) (by rfl) ?_
  simp only [AHeap.set_set, AVal.cells]
  simp (decide := true) only [aOps_nil, ev, putD, Slots.get, Slots.keep, if_true, if_false, setAt, List.set_cons_zero, List.set_cons_succ, Nat.zero_add, Nat.reduceAdd]
  repeat (with_reducible refine And.intro ?_ ?_; · first | trivial | omega | (intro hg; simp only [Bool.and_eq_true, Bool.or_eq_true, Bool.not_eq_true', Bool.and_eq_false_iff, Bool.or_eq_false_iff, Bool.not_eq_false', decide_eq_true_eq, decide_eq_false_iff_not, eqNil] at hg; omega) | (simp only [List.length_append, List.length_map, List.length_range, List.length_replicate, List.length_take, List.length_drop, List.length_cons, List.length_nil, List.length_set, List.length_reverse]; omega))
  apply hK; clear hK K
  -- region 2  law.go:18
  refine awp_rseq [3, 4, 5, 6] (by rfl) fun K hK => ?_
  simp (decide := true) only [aOps_nil, ev, absV, absS, putD, Slots.put, Slots.keep, if_true, if_false, true_and, ↓ap_assign, pop_assign]
  repeat (with_reducible refine And.intro ?_ ?_; · first | trivial | omega | (intro hg; simp only [Bool.and_eq_true, Bool.or_eq_true, Bool.not_eq_true', Bool.and_eq_false_iff, Bool.or_eq_false_iff, Bool.not_eq_false', decide_eq_true_eq, decide_eq_false_iff_not, eqNil] at hg; omega) | (simp only [List.length_append, List.length_map, List.length_range, List.length_replicate, List.length_take, List.length_drop, List.length_cons, List.length_nil, List.length_set, List.length_reverse]; omega))
  apply hK; clear hK K
  refine awp_seq ?_
  -- region 3  law.go:19
  refine awp_rseq [3, 4, 5, 6, 7] (by rfl) fun K hK => ?_
  simp (decide := true) only [aOps_nil, ev, absV, absS, putD, Slots.put, Slots.keep, if_true, if_false, true_and, ↓ap_assign, pop_assign]
  repeat (with_reducible refine And.intro ?_ ?_; · first | trivial | omega | (intro hg; simp only [Bool.and_eq_true, Bool.or_eq_true, Bool.not_eq_true', Bool.and_eq_false_iff, Bool.or_eq_false_iff, Bool.not_eq_false', decide_eq_true_eq, decide_eq_false_iff_not, eqNil] at hg; omega) | (simp only [List.length_append, List.length_map, List.length_range, List.length_replicate, List.length_take, List.length_drop, List.length_cons, List.length_nil, List.length_set, List.length_reverse]; omega))
  apply hK; clear hK K
  refine awp_block ?_
  refine awp_loopG [3, 4, 5, 6, 7] (fun g : Nat × Option Buf => [(3, .ptr (.own k0q1) 0), (4, cv), (5, .ptr (.own k1q5) 0), (6, bufV 1 g.2), (7, .int .i64 g.1)]) (fun g : Nat × Option Buf => bufH (h1q1.set k1q5 ⟨[.int .i64 f.e, .int .i64 f.line, .int .i64 f.col], 0⟩) g.2) (fun g : Nat × Option Buf => RtOk cs (h1q1.set k1q5 ⟨[.int .i64 f.e, .int .i64 f.line, .int .i64 f.col], 0⟩) g) (fun g : Nat × Option Buf => cs.length - g.1) (0, none) (by rfl) (Sub.refl _) ⟨Nat.zero_le _, trivial, rfl⟩ ?_
  rintro ⟨i, b⟩ ⟨g1, g2, g3⟩
  simp only at g1 g2 g3 ⊢
  have hcb := hc.mono ((Sub.set hn_1q5).trans (Sub.buf g2))
  have hlv := hc.live
  have hln := hcb.len
  have hbl := bufV_live 1 b
  refine awp_seq ?_
  -- region 4  law.go:19
  refine awp_rseq [3, 4, 5, 6, 7, 17] (by rfl) fun K hK => ?_
  simp (decide := true) only [aOps_nil, ev, putD, Slots.put, Slots.get, Slots.keep, if_true, if_false, true_and, ↓ap_move, pop_move, ↓ap_len, pop_len, ↓ap_binOp, pop_binOp, isNilC_tmp, cond_false, pBinX_int, pI_lss, hln]
  repeat (with_reducible refine And.intro ?_ ?_; · first | trivial | omega | (intro hg; simp only [Bool.and_eq_true, Bool.or_eq_true, Bool.not_eq_true', Bool.and_eq_false_iff, Bool.or_eq_false_iff, Bool.not_eq_false', decide_eq_true_eq, decide_eq_false_iff_not, eqNil] at hg; omega) | (simp only [List.length_append, List.length_map, List.length_range, List.length_replicate, List.length_take, List.length_drop, List.length_cons, List.length_nil, List.length_set, List.length_reverse]; omega))
  apply hK; clear hK K
  refine awp_cond (b := _) rfl (fun hb1 => ?_) (fun hb1 => ?_)
  · try simp only [decide_eq_true_eq] at hb1
    have hi : i < cs.length := by omega
    obtain ⟨l, o, cp, rfl⟩ := hcb.open (by omega)
    obtain ⟨mv, e3, e0, e1, e2⟩ := IsCards_nth hcb hi
    obtain ⟨c, hcc⟩ : ∃ c, c = cs.getD i ⟨false, [], []⟩ := ⟨_, rfl⟩
    rw [← hcc] at e0 e1
    have hcl : c.text.length ≤ 80 * (text.length + 1) := by
      rw [hcc, List.getD, List.getElem?_eq_getElem hi]; exact (z2 _ (List.getElem_mem hi)).1
    refine awp_skip ?_
    change Awp _ _ _ _ _ _ _
    refine awp_seq ?_
    refine awp_block ?_
    -- region 6  law.go:20
    refine awp_rseq [3, 4, 5, 6, 7, 8] (by rfl) fun K hK => ?_
    simp (decide := true) only [aOps_nil, ev, putD, Slots.put, Slots.get, Slots.keep, if_true, if_false, true_and, ↓ap_move, pop_move, ↓ap_indexAddrL, apL_mk, pIndexAddr_slice Tryd.underlying30 sz39, ↓ap_fieldAddr, pop_fieldAddr, fa39_1, ↓ap_loadL, pLoad_one ag9, ↓ap_assign, pop_assign, lv_str, e1, Int.toNat_natCast]
    repeat (with_reducible refine And.intro ?_ ?_; · first | trivial | omega | (intro hg; simp only [Bool.and_eq_true, Bool.or_eq_true, Bool.not_eq_true', Bool.and_eq_false_iff, Bool.or_eq_false_iff, Bool.not_eq_false', decide_eq_true_eq, decide_eq_false_iff_not, eqNil] at hg; omega) | (simp only [List.length_append, List.length_map, List.length_range, List.length_replicate, List.length_take, List.length_drop, List.length_cons, List.length_nil, List.length_set, List.length_reverse]; omega))
    apply hK; clear hK K
    refine awp_seq ?_
    -- region 7  law.go:21
    refine awp_rseq [3, 4, 5, 6, 7, 8, 29] (by rfl) fun K hK => ?_
    simp (decide := true) only [aOps_nil, ev, putD, Slots.put, Slots.get, Slots.keep, if_true, if_false, true_and, ↓ap_move, pop_move, ↓ap_indexAddrL, apL_mk, pIndexAddr_slice Tryd.underlying30 sz39, ↓ap_fieldAddr, pop_fieldAddr, fa39_0, ↓ap_loadL, pLoad_one ag4, lv_bool, Nat.add_zero, e0, Int.toNat_natCast]
    repeat (with_reducible refine And.intro ?_ ?_; · first | trivial | omega | (intro hg; simp only [Bool.and_eq_true, Bool.or_eq_true, Bool.not_eq_true', Bool.and_eq_false_iff, Bool.or_eq_false_iff, Bool.not_eq_false', decide_eq_true_eq, decide_eq_false_iff_not, eqNil] at hg; omega) | (simp only [List.length_append, List.length_map, List.length_range, List.length_replicate, List.length_take, List.length_drop, List.length_cons, List.length_nil, List.length_set, List.length_reverse]; omega))
    apply hK; clear hK K
    refine awp_joinT [3, 4, 5, 6, 7, 8] (fun z : Unit => [(3, .ptr (.own k0q1) 0), (4, .slice l o cs.length cp), (5, .ptr (.own k1q5) 0), (6, bufV 1 b), (7, .int .i64 i), (8, .str (cardS c))]) (fun z : Unit => bufH (h1q1.set k1q5 ⟨[.int .i64 f.e, .int .i64 f.line, .int .i64 f.col], 0⟩) b) (fun z : Unit => True) ?_ ?_
    · refine awp_cond (b := _) rfl (fun hb2 => ?_) (fun hb2 => ?_)
      · try simp only [decide_eq_true_eq, decide_eq_false_iff_not, Bool.not_eq_true', Bool.not_eq_false', Bool.and_eq_true, Bool.and_eq_false_iff, Bool.or_eq_true, Bool.or_eq_false_iff, Bool.true_eq, Bool.false_eq, reduceCtorEq] at hb2
        -- region 8  law.go:22
        refine awp_r [3, 4, 5, 6, 7, 8] (by rfl) ?_
        simp (decide := true) only [aOps_nil, ev, absV, absS, putD, Slots.put, Slots.get, Slots.keep, if_true, if_false, true_and, and_true, ↓ap_move, pop_move, ↓ap_binOp, pop_binOp, isNilC_str, cond_false, pBinX_str, pS_add, ↓ap_assign, pop_assign, faultA]
        repeat (with_reducible refine And.intro ?_ ?_; · first | trivial | omega | (intro hg; simp only [Bool.and_eq_true, Bool.or_eq_true, Bool.not_eq_true', Bool.and_eq_false_iff, Bool.or_eq_false_iff, Bool.not_eq_false', decide_eq_true_eq, decide_eq_false_iff_not, eqNil] at hg; omega) | (simp only [List.length_cons, List.length_nil]; omega))
        try simp only [thenA_normal]
        have hcs2 : cardS c = c.text ++ if c.left = true then [60] else [] := rfl
        rw [hb2] at hcs2
        first
        | refine ⟨(), ?_, Sub.refl _, trivial⟩
        | refine ⟨(), ?_, Sub.refl _⟩
        first
        | (rw [hcs2]; rfl)
        | (rw [hcs2, if_neg (by decide), List.append_nil]; rfl)
      · try simp only [decide_eq_true_eq, decide_eq_false_iff_not, Bool.not_eq_true', Bool.not_eq_false', Bool.and_eq_true, Bool.and_eq_false_iff, Bool.or_eq_true, Bool.or_eq_false_iff, Bool.true_eq, Bool.false_eq, reduceCtorEq] at hb2
        refine awp_skip ?_
        try simp only [thenA_normal]
        have hcs2 : cardS c = c.text ++ if c.left = true then [60] else [] := rfl
        rw [hb2] at hcs2
        first
        | refine ⟨(), ?_, Sub.refl _, trivial⟩
        | refine ⟨(), ?_, Sub.refl _⟩
        first
        | (rw [hcs2]; rfl)
        | (rw [hcs2, if_neg (by decide), List.append_nil]; rfl)
    · intro _ _
      -- region 9  law.go:24
      refine awp_r [3, 4, 5, 6, 7] (by rfl) ?_
      simp (decide := true) only [ev, putD, Slots.put, Slots.get, if_true, if_false, true_and, ↓ap_move, pop_move, faultA]
      repeat (with_reducible refine And.intro ?_ ?_; · first | trivial | omega | (intro hg; simp only [Bool.and_eq_true, Bool.or_eq_true, Bool.not_eq_true', Bool.and_eq_false_iff, Bool.or_eq_false_iff, Bool.not_eq_false', decide_eq_true_eq, decide_eq_false_iff_not, eqNil] at hg; omega) | (simp only [List.length_append, List.length_map, List.length_range, List.length_replicate, List.length_take, List.length_drop, List.length_cons, List.length_nil, List.length_set, List.length_reverse]; omega))
      refine aOps_buildSlice (cs := [.str (cardS c)]) (by kernel_rfl) fun k9q2 hk9q2 => ?_
      try have hf_9q2 : h k9q2 = none := by first | assumption | (simp only [AHeap.set_none] at hk9q2; simp only [hk9q2])
      refine aOps_appendL (es := 1) (zs := (cs.take i).map fun c => strC (cardS c)) (xs := [strC (cardS c)]) (h₀ := h1q1.set k1q5 ⟨[.int .i64 f.e, .int .i64 f.line, .int .i64 f.col], 0⟩) (b := b) (by rfl) (by rfl) Tryd.underlying40 Tryd.underlying40 (fun k e => by cases e) sz9 by9 ze9 (by rfl) (by decide) (by rfl) g2 g3 (fun y hy => by obtain ⟨d, _, rfl⟩ := List.mem_map.1 hy; rfl) (Sub.set hk9q2) (by rfl) (IsL.own (AHeap.set_same _ _ _) (by simp [strC]) (by rfl) (by rfl) (.exact 1) (Nat.le_refl _)) (by rfl) (by simp; omega) (by simp; omega) fun b' h5 o1 o2 o3 => ?_
      have hbl' := bufV_live 1 b'
      simp (decide := true) only [aOps_nil, ev, putD, Slots.put, Slots.get, Slots.keep, if_true, if_false, true_and, ↓ap_assign, pop_assign]
      repeat (with_reducible refine And.intro ?_ ?_; · first | trivial | omega | (intro hg; simp only [Bool.and_eq_true, Bool.or_eq_true, Bool.not_eq_true', Bool.and_eq_false_iff, Bool.or_eq_false_iff, Bool.not_eq_false', decide_eq_true_eq, decide_eq_false_iff_not, eqNil] at hg; omega) | (simp only [List.length_append, List.length_map, List.length_range, List.length_replicate, List.length_take, List.length_drop, List.length_cons, List.length_nil, List.length_set, List.length_reverse]; omega))
      change Awp _ _ _ _ _ _ _
      -- region 5  law.go:19
      refine awp_r [3, 4, 5, 6, 7] (by rfl) ?_
      simp (decide := true) only [aOps_nil, ev, absV, absS, putD, Slots.put, Slots.get, Slots.keep, if_true, if_false, true_and, ↓ap_move, pop_move, ↓ap_binOp, pop_binOp, isNilC_int, cond_false, pBinX_int, pI_add, ↓ap_assign, pop_assign]
      try simp (disch := omega) only [wrap_i64]
      repeat (with_reducible refine And.intro ?_ ?_; · first | trivial | omega | (intro hg; simp only [Bool.and_eq_true, Bool.or_eq_true, Bool.not_eq_true', Bool.and_eq_false_iff, Bool.or_eq_false_iff, Bool.not_eq_false', decide_eq_true_eq, decide_eq_false_iff_not, eqNil] at hg; omega) | (simp only [List.length_append, List.length_map, List.length_range, List.length_replicate, List.length_take, List.length_drop, List.length_cons, List.length_nil, List.length_set, List.length_reverse]; omega))
      try simp only [thenA_normal]
      refine ⟨(i + 1, b'), rfl, o3, ⟨hi, o1, ?_⟩, by simp only; omega⟩
      simp only
      have ht : cs.take (i + 1) = cs.take i ++ [c] := by
        rw [List.take_add_one, List.getElem?_eq_getElem hi, hcc]
        simp [List.getD, hi]
      rw [o2, ht, List.map_append]
      rfl
  · try simp only [decide_eq_false_iff_not] at hb1
    refine awp_exit ?_
    change Awp _ _ _ _ _ _ _
    obtain ⟨B, hB⟩ : ∃ B, B = bufH (h1q1.set k1q5 ⟨[.int .i64 f.e, .int .i64 f.line, .int .i64 f.col], 0⟩) b := ⟨_, rfl⟩
    have hs_B : Sub h B := by rw [hB]; exact (hs_h1q1.trans (Sub.set hn_1q5)).trans (Sub.buf g2)
    have eb_1q5 : B k1q5 = some ⟨[.int .i64 f.e, .int .i64 f.line, .int .i64 f.col], 0⟩ := by rw [hB]; exact bufAt g2 (AHeap.set_same _ _ _)
    replace eb_0q1 : B k0q1 = some ⟨[.int .i64 0, .int .i64 0, .int .i64 0], 0⟩ := by rw [hB]; exact bufAt g2 ((AHeap.set_ne _ _ ne_1q5_0q1.symm).trans eb_0q1)
    have he : i = cs.length := by omega
    rw [he, List.take_length] at g3
    have hst : IsStrs w₀ B (bufV 1 b) (cs.map cardS) := by
      have := IsL.buf (w₀ := w₀) g2 (by decide) (by rw [g3]) (by simp [strC]) (h := B) (by rw [hB]; exact Sub.refl _)
      unfold IsStrs
      rw [List.map_map]
      exact this
    have hjl : (Lib.join (cs.map cardS) [124]).length ≤ 140737488355328 := by
      refine Nat.le_trans (join_len (m := 80 * (text.length + 1) + 1) fun y hy => ?_) ?_
      · obtain ⟨d, hd, rfl⟩ := List.mem_map.1 hy
        have := (z2 d hd).1
        unfold cardS
        rw [List.length_append]
        split <;> simp <;> omega
      · rw [List.length_map]
        exact Nat.le_trans (Nat.mul_le_mul (Nat.le_trans z1 (by omega : text.length + 1 ≤ 100001)) (by simp; omega : _ ≤ 8000082)) (by decide)
    have hrt : readT text = (Lib.join (cs.map cardS) [124], f) := by unfold readT; rw [← hcs, ← hf]
    rw [← hB]
    -- region 10  law.go:26
    refine awp_dseq_anyT 4 [2, 3] mixed (by kernel_rfl) (by rfl) fun K hK => ?_
    simp only [List.take_succ_cons, List.take_zero, List.drop_succ_cons, List.drop_zero]
    simp (decide := true) only [ev, putD, Slots.put, Slots.get, if_true, if_false, true_and, ↓vp_move, pop_move]
    repeat (with_reducible refine And.intro ?_ ?_; · first | trivial | omega | (intro hg; simp only [Bool.and_eq_true, Bool.or_eq_true, Bool.not_eq_true', Bool.and_eq_false_iff, Bool.or_eq_false_iff, Bool.not_eq_false', decide_eq_true_eq, decide_eq_false_iff_not, eqNil] at hg; omega) | (simp only [List.length_append, List.length_map, List.length_range, List.length_replicate, List.length_take, List.length_drop, List.length_cons, List.length_nil, List.length_set, List.length_reverse]; omega))
    refine vOps_callV (V := .str (Lib.join (cs.map cardS) [124])) (by rfl) (by rfl) (c_join w₀ _ _ _ _ hst (by simp; omega) hjl) ?_
    simp (decide := true) only [vOps_nil, ev, putD, Slots.put, Slots.get, if_true, if_false, true_and, ↓vp_load, pop_load, pLoad_agg ag34 sz34, ↓vp_assign, pop_assign, rd_own w₀ eb_1q5, cellsAt, List.getD_cons_zero, List.getD_cons_succ, Nat.zero_add, Nat.reduceAdd, lv_int, allLive, Bool.and_true]
    repeat (with_reducible refine And.intro ?_ ?_; · first | trivial | omega | (intro hg; simp only [Bool.and_eq_true, Bool.or_eq_true, Bool.not_eq_true', Bool.and_eq_false_iff, Bool.or_eq_false_iff, Bool.not_eq_false', decide_eq_true_eq, decide_eq_false_iff_not, eqNil] at hg; omega) | (simp only [List.length_append, List.length_map, List.length_range, List.length_replicate, List.length_take, List.length_drop, List.length_cons, List.length_nil, List.length_set, List.length_reverse]; omega))
    try simp only [vOps_nil, fOps_nil]
    refine aOps_store (by rfl) (by rfl) (by repeat (first | exact AHeap.set_same _ _ _ | assumption | refine (AHeap.set_ne _ _ (by first | assumption | exact Ne.symm (by assumption))).trans ?_)) sz34 (by rfl) (by rfl) (by first | exact Nat.le_refl _ | decide | (simp; done) | (simp; omega)) (Nat.zero_le _) (by rfl) ?_
    simp only [AVal.cells]
    simp (decide := true) only [aOps_nil, ev, putD, Slots.get, Slots.keep, if_true, if_false, setAt, List.set_cons_zero, List.set_cons_succ, Nat.zero_add, Nat.reduceAdd]
    repeat (with_reducible refine And.intro ?_ ?_; · first | trivial | omega | (intro hg; simp only [Bool.and_eq_true, Bool.or_eq_true, Bool.not_eq_true', Bool.and_eq_false_iff, Bool.or_eq_false_iff, Bool.not_eq_false', decide_eq_true_eq, decide_eq_false_iff_not, eqNil] at hg; omega) | (simp only [List.length_append, List.length_map, List.length_range, List.length_replicate, List.length_take, List.length_drop, List.length_cons, List.length_nil, List.length_set, List.length_reverse]; omega))
    apply hK; clear hK K
    refine awp_ret ?_
    try simp only [thenA_ret, inBlockA_ret]
    refine retA_ret h (by repeat (first | exact Sub.refl _ | assumption | refine Sub.trans_set ?_ (by assumption))) (?_) ?_
    · simp (decide := true) only [resPre, resV_tmp, resV_cell, Slots.get, if_true, if_false, and_true, resV_tmp, resV_cell, pLoad_agg ag34 sz34, rd_set, cellsAt, List.getD_cons_zero, List.getD_cons_succ, Nat.zero_add, Nat.reduceAdd, lv_int, allLive, Bool.and_true, cellsAt, List.getD_cons_zero, List.getD_cons_succ, Nat.zero_add, Nat.reduceAdd, lv_int, allLive, Bool.and_true]
    
    simp (decide := true) only [Slots.get, if_true, if_false, resOfG_two, resV_tmp, resV_cell, pLoad_agg ag34 sz34, rd_set, cellsAt, List.getD_cons_zero, List.getD_cons_succ, Nat.zero_add, Nat.reduceAdd, lv_int, allLive, Bool.and_true, cellsAt, List.getD_cons_zero, List.getD_cons_succ, Nat.zero_add, Nat.reduceAdd, lv_int, allLive, Bool.and_true, faultA]
    rw [hrt]
    exact ⟨rfl, Sub.refl _⟩
end Go.Proofs.YtikpnhdjjabdmaaDoor

/-
  Contracts: lives of the laws.
  Conditions: none.
-/
namespace Go.Proofs.YtikpnhdjjabdmaaDoor
open Go.AM
open Go.Proofs
open Go.Col
set_option maxRecDepth 100000

theorem rt1 : readT (sp 13 ++ [65, 68, 68, 32, 49]) = ([65, 68, 68, 32, 49], ⟨0, 0, 0⟩) := by kernel_rfl
theorem rt2 : readT (sp 7 ++ [77, 65, 73, 78, 10] ++ sp 6 ++ [42, 78, 79, 84, 69]) = ([77, 65, 73, 78, 60], ⟨0, 0, 0⟩) := by kernel_rfl
theorem rt3 : readT (sp 11 ++ [65, 32, 34, 66, 10] ++ sp 6 ++ [45, 32, 32, 32, 32, 34, 67, 34, 10]) = (([65, 32, 34, 66] ++ sp 57 ++ [67, 34]), ⟨0, 0, 0⟩) := by kernel_rfl
theorem rt4 : readT (sp 11 ++ [80, 69, 82, 70, 10] ++ sp 6 ++ [45, 32, 32, 32, 32, 79, 82, 77, 32, 80]) = ([80, 69, 82, 70, 79, 82, 77, 32, 80], ⟨0, 0, 0⟩) := by kernel_rfl
theorem rt5 : readT (sp 6 ++ [45, 32, 32, 32, 32, 88]) = ([], ⟨6, 1, 7⟩) := by kernel_rfl
theorem rt6 : readT (sp 11 ++ [65, 32, 34, 66]) = ([], ⟨4, 1, 12⟩) := by kernel_rfl
theorem digs_1 : digs (1 % 1000000) = [49] := Lib.decDigits_one (by decide)
theorem wr_one (l : Bool) (s : Str) (hr : rightE s = true) (hs : s.length ≤ 60) : writeE [(l, s)] = (outE 1 [32] (if l = true then 8 else 12) s, 0) := by
  have hl := outE_len 1 (if l = true then 8 else 12) [32] s
  have ht : textE (s.length + 1) (if l = true then 8 else 12) [32] false 0 [] s = (1, outE 1 [32] (if l = true then 8 else 12) s) := by
    rw [textE_short (by simp only [Bool.false_eq_true, if_false]; split <;> omega)]
    rfl
  unfold writeE
  simp only [List.all_cons, List.all_nil, Bool.and_true, hr, if_true, writeGo, ht]
  rw [if_neg (by rw [hl]; simp only [List.length_cons, List.length_nil]; split <;> omega)]
theorem wr1 : writeE [(false, [83, 84, 79, 80, 32, 82, 85, 78, 46])] = ([48, 48, 48, 48, 48, 49, 32, 32, 32, 32, 32, 83, 84, 79, 80, 32, 82, 85, 78, 46, 10], 0) := by
  rw [wr_one _ _ (by decide) (by decide)]
  unfold outE
  rw [digs_1]
  rfl
theorem wr2 : writeE [(true, [83, 84, 79, 80, 32, 82, 85, 78, 46])] = ([48, 48, 48, 48, 48, 49, 32, 83, 84, 79, 80, 32, 82, 85, 78, 46, 10], 0) := by
  rw [wr_one _ _ (by decide) (by decide)]
  unfold outE
  rw [digs_1]
  rfl
theorem isLines {w₀ : World} {h : AHeap} {k : Nat} {ls : List (Bool × Str)} (hk : h k = some ⟨(ls.map lineC).flatten, 0⟩) (c : Cap) (hc : c = .exact ls.length) : IsL w₀ h 2 (.slice (.own k) 0 ls.length c) (ls.map lineC) := by
  have hw : ∀ x ∈ ls.map lineC, x.length = 2 := fun x hx => by obtain ⟨y, _, rfl⟩ := List.mem_map.1 hx; rfl
  have hl : allLive (ls.map lineC).flatten = true := allLive_flatten.2 fun x hx => by obtain ⟨y, _, rfl⟩ := List.mem_map.1 hx; rfl
  have := IsL.own (w₀ := w₀) hk hw rfl hl c (by rw [hc]; simp)
  rw [List.length_map] at this
  exact this
set_option maxHeartbeats 2000000 in
theorem c_lives02 (w₀ : World) (hm : MaxL w₀) (ht10 : Tab10 w₀) (h : AHeap) : ACall Tryd.prog w₀ 8 [] h (fun v h' => v = .bool true ∧ h' = h) := by
  refine acall_intro (n := 139) (rs := [.tmp 0]) Tryd.func8 rfl rfl rfl rfl (Nat.le_of_ble_eq_true rfl) ?_
  simp only [initSlots]
  -- region 0  law.go:30
  refine awp_rseq [] (by rfl) fun K hK => ?_
  simp (decide := true) only [aOps_nil, ev, absV, absS, putD, Slots.put, Slots.keep, if_false, true_and, ↓ap_assign, pop_assign]
  repeat (with_reducible refine And.intro ?_ ?_; · first | trivial | omega | (intro hg; simp only [Bool.and_eq_true, Bool.or_eq_true, Bool.not_eq_true', Bool.and_eq_false_iff, Bool.or_eq_false_iff, Bool.not_eq_false', decide_eq_true_eq, decide_eq_false_iff_not, eqNil] at hg; omega) | (simp only [List.length_append, List.length_map, List.length_range, List.length_replicate, List.length_take, List.length_drop, List.length_cons, List.length_nil, List.length_set, List.length_reverse]; omega))
  apply hK; clear hK K
  -- region 1  law.go:31
  refine awp_rseq [1, 2] (by rfl) fun K hK => ?_
  refine aOps_callV (V := .str (sp 13)) (by rfl) (by rfl) (c_spaces w₀ _ 13 (by decide)) ?_
  simp (decide := true) only [ev, absV, absS, putD, Slots.put, Slots.get, if_true, if_false, true_and, ↓ap_binOp, pop_binOp, isNilC_str, cond_false, pBinX_str, pS_add]
  repeat (with_reducible refine And.intro ?_ ?_; · first | trivial | omega | (intro hg; simp only [Bool.and_eq_true, Bool.or_eq_true, Bool.not_eq_true', Bool.and_eq_false_iff, Bool.or_eq_false_iff, Bool.not_eq_false', decide_eq_true_eq, decide_eq_false_iff_not, eqNil] at hg; omega) | (simp only [List.length_append, List.length_map, List.length_range, List.length_replicate, List.length_take, List.length_drop, List.length_cons, List.length_nil, List.length_set, List.length_reverse]; omega))
  refine aOps_call (by rfl) (by rfl) (c_read1 w₀ hm _ (sp 13 ++ [65, 68, 68, 32, 49]) (by decide)) fun x1q2 h1q2 hx1q2 => ?_
  rw [rt1] at hx1q2
  obtain ⟨rfl, hs1⟩ := hx1q2
  have hs_h1q2 : Sub h h1q2 := Sub.trans (by repeat (first | exact Sub.refl _ | assumption | refine Sub.trans_set ?_ (by assumption))) hs1
  have hr_h1q2 := hs_h1q2
  simp (decide := true) only [ev, putD, Slots.put, Slots.get, if_true, if_false, true_and, ↓ap_move, pop_move, ↓ap_extract, pop_extract, pExt_tuple, List.getD_cons_zero, List.getD_cons_succ, List.getD_cons_zero, List.getD_cons_succ, faultA]
  repeat (with_reducible refine And.intro ?_ ?_; · first | trivial | omega | (intro hg; simp only [Bool.and_eq_true, Bool.or_eq_true, Bool.not_eq_true', Bool.and_eq_false_iff, Bool.or_eq_false_iff, Bool.not_eq_false', decide_eq_true_eq, decide_eq_false_iff_not, eqNil] at hg; omega) | (simp only [List.length_append, List.length_map, List.length_range, List.length_replicate, List.length_take, List.length_drop, List.length_cons, List.length_nil, List.length_set, List.length_reverse]; omega))
  refine aOps_alloc ze34 (cs := [.int .i64 0, .int .i64 0, .int .i64 0]) (by rfl) fun k1q6 hk1q6 => ?_
  have hn_1q6 : h1q2 k1q6 = none := by first | assumption | (simp only [AHeap.set_none] at hk1q6; simp only [hk1q6])
  have hf_1q6 : h k1q6 = none := Sub.none hs_h1q2 hn_1q6
  simp (decide := true) only [ev, putD, Slots.put, Slots.get, if_true, if_false, true_and, ↓ap_assign, pop_assign]
  repeat (with_reducible refine And.intro ?_ ?_; · first | trivial | omega | (intro hg; simp only [Bool.and_eq_true, Bool.or_eq_true, Bool.not_eq_true', Bool.and_eq_false_iff, Bool.or_eq_false_iff, Bool.not_eq_false', decide_eq_true_eq, decide_eq_false_iff_not, eqNil] at hg; omega) | (simp only [List.length_append, List.length_map, List.length_range, List.length_replicate, List.length_take, List.length_drop, List.length_cons, List.length_nil, List.length_set, List.length_reverse]; omega))
  refine aOps_store (by rfl) (by rfl) (by repeat (first | exact AHeap.set_same _ _ _ | assumption | refine (AHeap.set_ne _ _ (by first | assumption | exact Ne.symm (by assumption))).trans ?_)) sz34 (by rfl) (by rfl) (by first | exact Nat.le_refl _ | decide | (simp; done) | (simp; omega)) (Nat.zero_le _) (by rfl) ?_
  simp only [AHeap.set_set, AVal.cells]
  simp (decide := true) only [aOps_nil, ev, putD, Slots.get, Slots.keep, if_true, if_false, setAt, List.set_cons_zero, List.set_cons_succ, Nat.zero_add, Nat.reduceAdd]
  repeat (with_reducible refine And.intro ?_ ?_; · first | trivial | omega | (intro hg; simp only [Bool.and_eq_true, Bool.or_eq_true, Bool.not_eq_true', Bool.and_eq_false_iff, Bool.or_eq_false_iff, Bool.not_eq_false', decide_eq_true_eq, decide_eq_false_iff_not, eqNil] at hg; omega) | (simp only [List.length_append, List.length_map, List.length_range, List.length_replicate, List.length_take, List.length_drop, List.length_cons, List.length_nil, List.length_set, List.length_reverse]; omega))
  apply hK; clear hK K
  -- region 2  law.go:32
  refine awp_rseq [1, 2, 3, 4] (by rfl) fun K hK => ?_
  refine aOps_callV (V := .str (sp 7)) (by rfl) (by rfl) (c_spaces w₀ _ 7 (by decide)) ?_
  simp (decide := true) only [ev, absV, absS, putD, Slots.put, Slots.get, if_true, if_false, true_and, ↓ap_binOp, pop_binOp, isNilC_str, cond_false, pBinX_str, pS_add]
  repeat (with_reducible refine And.intro ?_ ?_; · first | trivial | omega | (intro hg; simp only [Bool.and_eq_true, Bool.or_eq_true, Bool.not_eq_true', Bool.and_eq_false_iff, Bool.or_eq_false_iff, Bool.not_eq_false', decide_eq_true_eq, decide_eq_false_iff_not, eqNil] at hg; omega) | (simp only [List.length_append, List.length_map, List.length_range, List.length_replicate, List.length_take, List.length_drop, List.length_cons, List.length_nil, List.length_set, List.length_reverse]; omega))
  refine aOps_callV (V := .str (sp 6)) (by rfl) (by rfl) (c_spaces w₀ _ 6 (by decide)) ?_
  simp (decide := true) only [ev, absV, absS, putD, Slots.put, Slots.get, if_true, if_false, true_and, ↓ap_binOp, pop_binOp, isNilC_tmp, cond_false, pBinX_str, pS_add, isNilC_str]
  repeat (with_reducible refine And.intro ?_ ?_; · first | trivial | omega | (intro hg; simp only [Bool.and_eq_true, Bool.or_eq_true, Bool.not_eq_true', Bool.and_eq_false_iff, Bool.or_eq_false_iff, Bool.not_eq_false', decide_eq_true_eq, decide_eq_false_iff_not, eqNil] at hg; omega) | (simp only [List.length_append, List.length_map, List.length_range, List.length_replicate, List.length_take, List.length_drop, List.length_cons, List.length_nil, List.length_set, List.length_reverse]; omega))
  refine aOps_call (by rfl) (by rfl) (c_read1 w₀ hm _ (sp 7 ++ [77, 65, 73, 78, 10] ++ sp 6 ++ [42, 78, 79, 84, 69]) (by decide)) fun x2q5 h2q5 hx2q5 => ?_
  rw [rt2] at hx2q5
  obtain ⟨rfl, hs2⟩ := hx2q5
  have hs_h2q5 : Sub h h2q5 := Sub.trans (by repeat (first | exact Sub.refl _ | assumption | refine Sub.trans_set ?_ (by assumption))) hs2
  have hr_h2q5 : Sub h1q2 h2q5 := Sub.trans (by repeat (first | exact Sub.refl _ | assumption | refine Sub.trans_set ?_ (by assumption))) hs2
  have eb_1q6 := hs2 k1q6 _ (by repeat (first | exact AHeap.set_same _ _ _ | assumption | refine (AHeap.set_ne _ _ (by first | assumption | exact Ne.symm (by assumption))).trans ?_))
  simp (decide := true) only [ev, putD, Slots.put, Slots.get, if_true, if_false, true_and, ↓ap_move, pop_move, ↓ap_extract, pop_extract, pExt_tuple, List.getD_cons_zero, List.getD_cons_succ, List.getD_cons_zero, List.getD_cons_succ, faultA]
  repeat (with_reducible refine And.intro ?_ ?_; · first | trivial | omega | (intro hg; simp only [Bool.and_eq_true, Bool.or_eq_true, Bool.not_eq_true', Bool.and_eq_false_iff, Bool.or_eq_false_iff, Bool.not_eq_false', decide_eq_true_eq, decide_eq_false_iff_not, eqNil] at hg; omega) | (simp only [List.length_append, List.length_map, List.length_range, List.length_replicate, List.length_take, List.length_drop, List.length_cons, List.length_nil, List.length_set, List.length_reverse]; omega))
  refine aOps_alloc ze34 (cs := [.int .i64 0, .int .i64 0, .int .i64 0]) (by rfl) fun k2q9 hk2q9 => ?_
  have hn_2q9 : h2q5 k2q9 = none := by first | assumption | (simp only [AHeap.set_none] at hk2q9; simp only [hk2q9])
  have hf_2q9 : h k2q9 = none := Sub.none hs_h2q5 hn_2q9
  have ne_2q9_1q6 : k2q9 ≠ k1q6 := AHeap.ne_some hn_2q9 eb_1q6
  simp (decide := true) only [ev, putD, Slots.put, Slots.get, if_true, if_false, true_and, ↓ap_assign, pop_assign]
  repeat (with_reducible refine And.intro ?_ ?_; · first | trivial | omega | (intro hg; simp only [Bool.and_eq_true, Bool.or_eq_true, Bool.not_eq_true', Bool.and_eq_false_iff, Bool.or_eq_false_iff, Bool.not_eq_false', decide_eq_true_eq, decide_eq_false_iff_not, eqNil] at hg; omega) | (simp only [List.length_append, List.length_map, List.length_range, List.length_replicate, List.length_take, List.length_drop, List.length_cons, List.length_nil, List.length_set, List.length_reverse]; omega))
  refine aOps_store (by rfl) (by rfl) (by repeat (first | exact AHeap.set_same _ _ _ | assumption | refine (AHeap.set_ne _ _ (by first | assumption | exact Ne.symm (by assumption))).trans ?_)) sz34 (by rfl) (by rfl) (by first | exact Nat.le_refl _ | decide | (simp; done) | (simp; omega)) (Nat.zero_le _) (by rfl) ?_
  simp only [AHeap.set_set, AVal.cells]
  simp (decide := true) only [aOps_nil, ev, putD, Slots.get, Slots.keep, if_true, if_false, setAt, List.set_cons_zero, List.set_cons_succ, Nat.zero_add, Nat.reduceAdd]
  repeat (with_reducible refine And.intro ?_ ?_; · first | trivial | omega | (intro hg; simp only [Bool.and_eq_true, Bool.or_eq_true, Bool.not_eq_true', Bool.and_eq_false_iff, Bool.or_eq_false_iff, Bool.not_eq_false', decide_eq_true_eq, decide_eq_false_iff_not, eqNil] at hg; omega) | (simp only [List.length_append, List.length_map, List.length_range, List.length_replicate, List.length_take, List.length_drop, List.length_cons, List.length_nil, List.length_set, List.length_reverse]; omega))
  apply hK; clear hK K
  -- region 3  law.go:33
  refine awp_rseq [1, 2, 3, 4, 5, 6] (by rfl) fun K hK => ?_
  refine aOps_callV (V := .str (sp 11)) (by rfl) (by rfl) (c_spaces w₀ _ 11 (by decide)) ?_
  simp (decide := true) only [ev, absV, absS, putD, Slots.put, Slots.get, if_true, if_false, true_and, ↓ap_binOp, pop_binOp, isNilC_str, cond_false, pBinX_str, pS_add]
  repeat (with_reducible refine And.intro ?_ ?_; · first | trivial | omega | (intro hg; simp only [Bool.and_eq_true, Bool.or_eq_true, Bool.not_eq_true', Bool.and_eq_false_iff, Bool.or_eq_false_iff, Bool.not_eq_false', decide_eq_true_eq, decide_eq_false_iff_not, eqNil] at hg; omega) | (simp only [List.length_append, List.length_map, List.length_range, List.length_replicate, List.length_take, List.length_drop, List.length_cons, List.length_nil, List.length_set, List.length_reverse]; omega))
  refine aOps_callV (V := .str (sp 6)) (by rfl) (by rfl) (c_spaces w₀ _ 6 (by decide)) ?_
  simp (decide := true) only [ev, absV, absS, putD, Slots.put, Slots.get, if_true, if_false, true_and, ↓ap_binOp, pop_binOp, isNilC_tmp, cond_false, pBinX_str, pS_add, isNilC_str]
  repeat (with_reducible refine And.intro ?_ ?_; · first | trivial | omega | (intro hg; simp only [Bool.and_eq_true, Bool.or_eq_true, Bool.not_eq_true', Bool.and_eq_false_iff, Bool.or_eq_false_iff, Bool.not_eq_false', decide_eq_true_eq, decide_eq_false_iff_not, eqNil] at hg; omega) | (simp only [List.length_append, List.length_map, List.length_range, List.length_replicate, List.length_take, List.length_drop, List.length_cons, List.length_nil, List.length_set, List.length_reverse]; omega))
  refine aOps_call (by rfl) (by rfl) (c_read1 w₀ hm _ (sp 11 ++ [65, 32, 34, 66, 10] ++ sp 6 ++ [45, 32, 32, 32, 32, 34, 67, 34, 10]) (by decide)) fun x3q5 h3q5 hx3q5 => ?_
  rw [rt3] at hx3q5
  obtain ⟨rfl, hs3⟩ := hx3q5
  have hs_h3q5 : Sub h h3q5 := Sub.trans (by repeat (first | exact Sub.refl _ | assumption | refine Sub.trans_set ?_ (by assumption))) hs3
  have hr_h3q5 : Sub h2q5 h3q5 := Sub.trans (by repeat (first | exact Sub.refl _ | assumption | refine Sub.trans_set ?_ (by assumption))) hs3
  have eb_2q9 := hs3 k2q9 _ (by repeat (first | exact AHeap.set_same _ _ _ | assumption | refine (AHeap.set_ne _ _ (by first | assumption | exact Ne.symm (by assumption))).trans ?_))
  have eb_1q6 := hs3 k1q6 _ (by repeat (first | exact AHeap.set_same _ _ _ | assumption | refine (AHeap.set_ne _ _ (by first | assumption | exact Ne.symm (by assumption))).trans ?_))
  simp (decide := true) only [ev, putD, Slots.put, Slots.get, if_true, if_false, true_and, ↓ap_move, pop_move, ↓ap_extract, pop_extract, pExt_tuple, List.getD_cons_zero, List.getD_cons_succ, List.getD_cons_zero, List.getD_cons_succ, faultA]
  repeat (with_reducible refine And.intro ?_ ?_; · first | trivial | omega | (intro hg; simp only [Bool.and_eq_true, Bool.or_eq_true, Bool.not_eq_true', Bool.and_eq_false_iff, Bool.or_eq_false_iff, Bool.not_eq_false', decide_eq_true_eq, decide_eq_false_iff_not, eqNil] at hg; omega) | (simp only [List.length_append, List.length_map, List.length_range, List.length_replicate, List.length_take, List.length_drop, List.length_cons, List.length_nil, List.length_set, List.length_reverse]; omega))
  refine aOps_alloc ze34 (cs := [.int .i64 0, .int .i64 0, .int .i64 0]) (by rfl) fun k3q9 hk3q9 => ?_
  have hn_3q9 : h3q5 k3q9 = none := by first | assumption | (simp only [AHeap.set_none] at hk3q9; simp only [hk3q9])
  have hf_3q9 : h k3q9 = none := Sub.none hs_h3q5 hn_3q9
  have ne_3q9_1q6 : k3q9 ≠ k1q6 := AHeap.ne_some hn_3q9 eb_1q6
  have ne_3q9_2q9 : k3q9 ≠ k2q9 := AHeap.ne_some hn_3q9 eb_2q9
  simp (decide := true) only [ev, putD, Slots.put, Slots.get, if_true, if_false, true_and, ↓ap_assign, pop_assign]
  repeat (with_reducible refine And.intro ?_ ?_; · first | trivial | omega | (intro hg; simp only [Bool.and_eq_true, Bool.or_eq_true, Bool.not_eq_true', Bool.and_eq_false_iff, Bool.or_eq_false_iff, Bool.not_eq_false', decide_eq_true_eq, decide_eq_false_iff_not, eqNil] at hg; omega) | (simp only [List.length_append, List.length_map, List.length_range, List.length_replicate, List.length_take, List.length_drop, List.length_cons, List.length_nil, List.length_set, List.length_reverse]; omega))
  refine aOps_store (by rfl) (by rfl) (by repeat (first | exact AHeap.set_same _ _ _ | assumption | refine (AHeap.set_ne _ _ (by first | assumption | exact Ne.symm (by assumption))).trans ?_)) sz34 (by rfl) (by rfl) (by first | exact Nat.le_refl _ | decide | (simp; done) | (simp; omega)) (Nat.zero_le _) (by rfl) ?_
  simp only [AHeap.set_set, AVal.cells]
  simp (decide := true) only [aOps_nil, ev, putD, Slots.get, Slots.keep, if_true, if_false, setAt, List.set_cons_zero, List.set_cons_succ, Nat.zero_add, Nat.reduceAdd]
  repeat (with_reducible refine And.intro ?_ ?_; · first | trivial | omega | (intro hg; simp only [Bool.and_eq_true, Bool.or_eq_true, Bool.not_eq_true', Bool.and_eq_false_iff, Bool.or_eq_false_iff, Bool.not_eq_false', decide_eq_true_eq, decide_eq_false_iff_not, eqNil] at hg; omega) | (simp only [List.length_append, List.length_map, List.length_range, List.length_replicate, List.length_take, List.length_drop, List.length_cons, List.length_nil, List.length_set, List.length_reverse]; omega))
  apply hK; clear hK K
  -- region 4  law.go:34
  refine awp_rseq [1, 2, 3, 4, 5, 6, 7, 8] (by rfl) fun K hK => ?_
  refine aOps_callV (V := .str (sp 11)) (by rfl) (by rfl) (c_spaces w₀ _ 11 (by decide)) ?_
  simp (decide := true) only [ev, absV, absS, putD, Slots.put, Slots.get, if_true, if_false, true_and, ↓ap_binOp, pop_binOp, isNilC_str, cond_false, pBinX_str, pS_add]
  repeat (with_reducible refine And.intro ?_ ?_; · first | trivial | omega | (intro hg; simp only [Bool.and_eq_true, Bool.or_eq_true, Bool.not_eq_true', Bool.and_eq_false_iff, Bool.or_eq_false_iff, Bool.not_eq_false', decide_eq_true_eq, decide_eq_false_iff_not, eqNil] at hg; omega) | (simp only [List.length_append, List.length_map, List.length_range, List.length_replicate, List.length_take, List.length_drop, List.length_cons, List.length_nil, List.length_set, List.length_reverse]; omega))
  refine aOps_callV (V := .str (sp 6)) (by rfl) (by rfl) (c_spaces w₀ _ 6 (by decide)) ?_
  simp (decide := true) only [ev, absV, absS, putD, Slots.put, Slots.get, if_true, if_false, true_and, ↓ap_binOp, pop_binOp, isNilC_tmp, cond_false, pBinX_str, pS_add, isNilC_str]
  repeat (with_reducible refine And.intro ?_ ?_; · first | trivial | omega | (intro hg; simp only [Bool.and_eq_true, Bool.or_eq_true, Bool.not_eq_true', Bool.and_eq_false_iff, Bool.or_eq_false_iff, Bool.not_eq_false', decide_eq_true_eq, decide_eq_false_iff_not, eqNil] at hg; omega) | (simp only [List.length_append, List.length_map, List.length_range, List.length_replicate, List.length_take, List.length_drop, List.length_cons, List.length_nil, List.length_set, List.length_reverse]; omega))
  refine aOps_call (by rfl) (by rfl) (c_read1 w₀ hm _ (sp 11 ++ [80, 69, 82, 70, 10] ++ sp 6 ++ [45, 32, 32, 32, 32, 79, 82, 77, 32, 80]) (by decide)) fun x4q5 h4q5 hx4q5 => ?_
  rw [rt4] at hx4q5
  obtain ⟨rfl, hs4⟩ := hx4q5
  have hs_h4q5 : Sub h h4q5 := Sub.trans (by repeat (first | exact Sub.refl _ | assumption | refine Sub.trans_set ?_ (by assumption))) hs4
  have hr_h4q5 : Sub h3q5 h4q5 := Sub.trans (by repeat (first | exact Sub.refl _ | assumption | refine Sub.trans_set ?_ (by assumption))) hs4
  have eb_3q9 := hs4 k3q9 _ (by repeat (first | exact AHeap.set_same _ _ _ | assumption | refine (AHeap.set_ne _ _ (by first | assumption | exact Ne.symm (by assumption))).trans ?_))
  have eb_1q6 := hs4 k1q6 _ (by repeat (first | exact AHeap.set_same _ _ _ | assumption | refine (AHeap.set_ne _ _ (by first | assumption | exact Ne.symm (by assumption))).trans ?_))
  have eb_2q9 := hs4 k2q9 _ (by repeat (first | exact AHeap.set_same _ _ _ | assumption | refine (AHeap.set_ne _ _ (by first | assumption | exact Ne.symm (by assumption))).trans ?_))
  simp (decide := true) only [ev, putD, Slots.put, Slots.get, if_true, if_false, true_and, ↓ap_move, pop_move, ↓ap_extract, pop_extract, pExt_tuple, List.getD_cons_zero, List.getD_cons_succ, List.getD_cons_zero, List.getD_cons_succ, faultA]
  repeat (with_reducible refine And.intro ?_ ?_; · first | trivial | omega | (intro hg; simp only [Bool.and_eq_true, Bool.or_eq_true, Bool.not_eq_true', Bool.and_eq_false_iff, Bool.or_eq_false_iff, Bool.not_eq_false', decide_eq_true_eq, decide_eq_false_iff_not, eqNil] at hg; omega) | (simp only [List.length_append, List.length_map, List.length_range, List.length_replicate, List.length_take, List.length_drop, List.length_cons, List.length_nil, List.length_set, List.length_reverse]; omega))
  refine aOps_alloc ze34 (cs := [.int .i64 0, .int .i64 0, .int .i64 0]) (by rfl) fun k4q9 hk4q9 => ?_
  have hn_4q9 : h4q5 k4q9 = none := by first | assumption | (simp only [AHeap.set_none] at hk4q9; simp only [hk4q9])
  have hf_4q9 : h k4q9 = none := Sub.none hs_h4q5 hn_4q9
  have ne_4q9_1q6 : k4q9 ≠ k1q6 := AHeap.ne_some hn_4q9 eb_1q6
  have ne_4q9_2q9 : k4q9 ≠ k2q9 := AHeap.ne_some hn_4q9 eb_2q9
  have ne_4q9_3q9 : k4q9 ≠ k3q9 := AHeap.ne_some hn_4q9 eb_3q9
  simp (decide := true) only [ev, putD, Slots.put, Slots.get, if_true, if_false, true_and, ↓ap_assign, pop_assign]
  repeat (with_reducible refine And.intro ?_ ?_; · first | trivial | omega | (intro hg; simp only [Bool.and_eq_true, Bool.or_eq_true, Bool.not_eq_true', Bool.and_eq_false_iff, Bool.or_eq_false_iff, Bool.not_eq_false', decide_eq_true_eq, decide_eq_false_iff_not, eqNil] at hg; omega) | (simp only [List.length_append, List.length_map, List.length_range, List.length_replicate, List.length_take, List.length_drop, List.length_cons, List.length_nil, List.length_set, List.length_reverse]; omega))
  refine aOps_store (by rfl) (by rfl) (by repeat (first | exact AHeap.set_same _ _ _ | assumption | refine (AHeap.set_ne _ _ (by first | assumption | exact Ne.symm (by assumption))).trans ?_)) sz34 (by rfl) (by rfl) (by first | exact Nat.le_refl _ | decide | (simp; done) | (simp; omega)) (Nat.zero_le _) (by rfl) ?_
  simp only [AHeap.set_set, AVal.cells]
  simp (decide := true) only [aOps_nil, ev, putD, Slots.get, Slots.keep, if_true, if_false, setAt, List.set_cons_zero, List.set_cons_succ, Nat.zero_add, Nat.reduceAdd]
  repeat (with_reducible refine And.intro ?_ ?_; · first | trivial | omega | (intro hg; simp only [Bool.and_eq_true, Bool.or_eq_true, Bool.not_eq_true', Bool.and_eq_false_iff, Bool.or_eq_false_iff, Bool.not_eq_false', decide_eq_true_eq, decide_eq_false_iff_not, eqNil] at hg; omega) | (simp only [List.length_append, List.length_map, List.length_range, List.length_replicate, List.length_take, List.length_drop, List.length_cons, List.length_nil, List.length_set, List.length_reverse]; omega))
  apply hK; clear hK K
  -- region 5  law.go:35
  refine awp_rseq [1, 2, 3, 4, 5, 6, 7, 8, 10] (by rfl) fun K hK => ?_
  refine aOps_callV (V := .str (sp 6)) (by rfl) (by rfl) (c_spaces w₀ _ 6 (by decide)) ?_
  simp (decide := true) only [ev, absV, absS, putD, Slots.put, Slots.get, if_true, if_false, true_and, ↓ap_binOp, pop_binOp, isNilC_str, cond_false, pBinX_str, pS_add]
  repeat (with_reducible refine And.intro ?_ ?_; · first | trivial | omega | (intro hg; simp only [Bool.and_eq_true, Bool.or_eq_true, Bool.not_eq_true', Bool.and_eq_false_iff, Bool.or_eq_false_iff, Bool.not_eq_false', decide_eq_true_eq, decide_eq_false_iff_not, eqNil] at hg; omega) | (simp only [List.length_append, List.length_map, List.length_range, List.length_replicate, List.length_take, List.length_drop, List.length_cons, List.length_nil, List.length_set, List.length_reverse]; omega))
  refine aOps_call (by rfl) (by rfl) (c_read1 w₀ hm _ (sp 6 ++ [45, 32, 32, 32, 32, 88]) (by decide)) fun x5q2 h5q2 hx5q2 => ?_
  rw [rt5] at hx5q2
  obtain ⟨rfl, hs5⟩ := hx5q2
  have hs_h5q2 : Sub h h5q2 := Sub.trans (by repeat (first | exact Sub.refl _ | assumption | refine Sub.trans_set ?_ (by assumption))) hs5
  have hr_h5q2 : Sub h4q5 h5q2 := Sub.trans (by repeat (first | exact Sub.refl _ | assumption | refine Sub.trans_set ?_ (by assumption))) hs5
  have eb_4q9 := hs5 k4q9 _ (by repeat (first | exact AHeap.set_same _ _ _ | assumption | refine (AHeap.set_ne _ _ (by first | assumption | exact Ne.symm (by assumption))).trans ?_))
  have eb_1q6 := hs5 k1q6 _ (by repeat (first | exact AHeap.set_same _ _ _ | assumption | refine (AHeap.set_ne _ _ (by first | assumption | exact Ne.symm (by assumption))).trans ?_))
  have eb_2q9 := hs5 k2q9 _ (by repeat (first | exact AHeap.set_same _ _ _ | assumption | refine (AHeap.set_ne _ _ (by first | assumption | exact Ne.symm (by assumption))).trans ?_))
  have eb_3q9 := hs5 k3q9 _ (by repeat (first | exact AHeap.set_same _ _ _ | assumption | refine (AHeap.set_ne _ _ (by first | assumption | exact Ne.symm (by assumption))).trans ?_))
  simp (decide := true) only [ev, putD, Slots.put, Slots.get, if_true, if_false, true_and, ↓ap_move, pop_move, ↓ap_extract, pop_extract, pExt_tuple, List.getD_cons_zero, List.getD_cons_succ, List.getD_cons_zero, List.getD_cons_succ, faultA]
  repeat (with_reducible refine And.intro ?_ ?_; · first | trivial | omega | (intro hg; simp only [Bool.and_eq_true, Bool.or_eq_true, Bool.not_eq_true', Bool.and_eq_false_iff, Bool.or_eq_false_iff, Bool.not_eq_false', decide_eq_true_eq, decide_eq_false_iff_not, eqNil] at hg; omega) | (simp only [List.length_append, List.length_map, List.length_range, List.length_replicate, List.length_take, List.length_drop, List.length_cons, List.length_nil, List.length_set, List.length_reverse]; omega))
  refine aOps_alloc ze34 (cs := [.int .i64 0, .int .i64 0, .int .i64 0]) (by rfl) fun k5q6 hk5q6 => ?_
  have hn_5q6 : h5q2 k5q6 = none := by first | assumption | (simp only [AHeap.set_none] at hk5q6; simp only [hk5q6])
  have hf_5q6 : h k5q6 = none := Sub.none hs_h5q2 hn_5q6
  have ne_5q6_1q6 : k5q6 ≠ k1q6 := AHeap.ne_some hn_5q6 eb_1q6
  have ne_5q6_2q9 : k5q6 ≠ k2q9 := AHeap.ne_some hn_5q6 eb_2q9
  have ne_5q6_3q9 : k5q6 ≠ k3q9 := AHeap.ne_some hn_5q6 eb_3q9
  have ne_5q6_4q9 : k5q6 ≠ k4q9 := AHeap.ne_some hn_5q6 eb_4q9
  simp (decide := true) only [ev, putD, Slots.put, Slots.get, if_true, if_false, true_and, ↓ap_assign, pop_assign]
  repeat (with_reducible refine And.intro ?_ ?_; · first | trivial | omega | (intro hg; simp only [Bool.and_eq_true, Bool.or_eq_true, Bool.not_eq_true', Bool.and_eq_false_iff, Bool.or_eq_false_iff, Bool.not_eq_false', decide_eq_true_eq, decide_eq_false_iff_not, eqNil] at hg; omega) | (simp only [List.length_append, List.length_map, List.length_range, List.length_replicate, List.length_take, List.length_drop, List.length_cons, List.length_nil, List.length_set, List.length_reverse]; omega))
  refine aOps_store (by rfl) (by rfl) (by repeat (first | exact AHeap.set_same _ _ _ | assumption | refine (AHeap.set_ne _ _ (by first | assumption | exact Ne.symm (by assumption))).trans ?_)) sz34 (by rfl) (by rfl) (by first | exact Nat.le_refl _ | decide | (simp; done) | (simp; omega)) (Nat.zero_le _) (by rfl) ?_
  simp only [AHeap.set_set, AVal.cells]
  simp (decide := true) only [aOps_nil, ev, putD, Slots.get, Slots.keep, if_true, if_false, setAt, List.set_cons_zero, List.set_cons_succ, Nat.zero_add, Nat.reduceAdd]
  repeat (with_reducible refine And.intro ?_ ?_; · first | trivial | omega | (intro hg; simp only [Bool.and_eq_true, Bool.or_eq_true, Bool.not_eq_true', Bool.and_eq_false_iff, Bool.or_eq_false_iff, Bool.not_eq_false', decide_eq_true_eq, decide_eq_false_iff_not, eqNil] at hg; omega) | (simp only [List.length_append, List.length_map, List.length_range, List.length_replicate, List.length_take, List.length_drop, List.length_cons, List.length_nil, List.length_set, List.length_reverse]; omega))
  apply hK; clear hK K
  -- region 6  law.go:36
  refine awp_rseq [1, 2, 3, 4, 5, 6, 7, 8, 10, 12] (by rfl) fun K hK => ?_
  refine aOps_callV (V := .str (sp 11)) (by rfl) (by rfl) (c_spaces w₀ _ 11 (by decide)) ?_
  simp (decide := true) only [ev, absV, absS, putD, Slots.put, Slots.get, if_true, if_false, true_and, ↓ap_binOp, pop_binOp, isNilC_str, cond_false, pBinX_str, pS_add]
  repeat (with_reducible refine And.intro ?_ ?_; · first | trivial | omega | (intro hg; simp only [Bool.and_eq_true, Bool.or_eq_true, Bool.not_eq_true', Bool.and_eq_false_iff, Bool.or_eq_false_iff, Bool.not_eq_false', decide_eq_true_eq, decide_eq_false_iff_not, eqNil] at hg; omega) | (simp only [List.length_append, List.length_map, List.length_range, List.length_replicate, List.length_take, List.length_drop, List.length_cons, List.length_nil, List.length_set, List.length_reverse]; omega))
  refine aOps_call (by rfl) (by rfl) (c_read1 w₀ hm _ (sp 11 ++ [65, 32, 34, 66]) (by decide)) fun x6q2 h6q2 hx6q2 => ?_
  rw [rt6] at hx6q2
  obtain ⟨rfl, hs6⟩ := hx6q2
  have hs_h6q2 : Sub h h6q2 := Sub.trans (by repeat (first | exact Sub.refl _ | assumption | refine Sub.trans_set ?_ (by assumption))) hs6
  have hr_h6q2 : Sub h5q2 h6q2 := Sub.trans (by repeat (first | exact Sub.refl _ | assumption | refine Sub.trans_set ?_ (by assumption))) hs6
  have eb_5q6 := hs6 k5q6 _ (by repeat (first | exact AHeap.set_same _ _ _ | assumption | refine (AHeap.set_ne _ _ (by first | assumption | exact Ne.symm (by assumption))).trans ?_))
  have eb_1q6 := hs6 k1q6 _ (by repeat (first | exact AHeap.set_same _ _ _ | assumption | refine (AHeap.set_ne _ _ (by first | assumption | exact Ne.symm (by assumption))).trans ?_))
  have eb_2q9 := hs6 k2q9 _ (by repeat (first | exact AHeap.set_same _ _ _ | assumption | refine (AHeap.set_ne _ _ (by first | assumption | exact Ne.symm (by assumption))).trans ?_))
  have eb_3q9 := hs6 k3q9 _ (by repeat (first | exact AHeap.set_same _ _ _ | assumption | refine (AHeap.set_ne _ _ (by first | assumption | exact Ne.symm (by assumption))).trans ?_))
  have eb_4q9 := hs6 k4q9 _ (by repeat (first | exact AHeap.set_same _ _ _ | assumption | refine (AHeap.set_ne _ _ (by first | assumption | exact Ne.symm (by assumption))).trans ?_))
  simp (decide := true) only [ev, putD, Slots.put, Slots.get, if_true, if_false, true_and, ↓ap_move, pop_move, ↓ap_extract, pop_extract, pExt_tuple, List.getD_cons_zero, List.getD_cons_succ, List.getD_cons_zero, List.getD_cons_succ, faultA]
  repeat (with_reducible refine And.intro ?_ ?_; · first | trivial | omega | (intro hg; simp only [Bool.and_eq_true, Bool.or_eq_true, Bool.not_eq_true', Bool.and_eq_false_iff, Bool.or_eq_false_iff, Bool.not_eq_false', decide_eq_true_eq, decide_eq_false_iff_not, eqNil] at hg; omega) | (simp only [List.length_append, List.length_map, List.length_range, List.length_replicate, List.length_take, List.length_drop, List.length_cons, List.length_nil, List.length_set, List.length_reverse]; omega))
  refine aOps_alloc ze34 (cs := [.int .i64 0, .int .i64 0, .int .i64 0]) (by rfl) fun k6q6 hk6q6 => ?_
  have hn_6q6 : h6q2 k6q6 = none := by first | assumption | (simp only [AHeap.set_none] at hk6q6; simp only [hk6q6])
  have hf_6q6 : h k6q6 = none := Sub.none hs_h6q2 hn_6q6
  have ne_6q6_1q6 : k6q6 ≠ k1q6 := AHeap.ne_some hn_6q6 eb_1q6
  have ne_6q6_2q9 : k6q6 ≠ k2q9 := AHeap.ne_some hn_6q6 eb_2q9
  have ne_6q6_3q9 : k6q6 ≠ k3q9 := AHeap.ne_some hn_6q6 eb_3q9
  have ne_6q6_4q9 : k6q6 ≠ k4q9 := AHeap.ne_some hn_6q6 eb_4q9
  have ne_6q6_5q6 : k6q6 ≠ k5q6 := AHeap.ne_some hn_6q6 eb_5q6
  simp (decide := true) only [ev, putD, Slots.put, Slots.get, if_true, if_false, true_and, ↓ap_assign, pop_assign]
  repeat (with_reducible refine And.intro ?_ ?_; · first | trivial | omega | (intro hg; simp only [Bool.and_eq_true, Bool.or_eq_true, Bool.not_eq_true', Bool.and_eq_false_iff, Bool.or_eq_false_iff, Bool.not_eq_false', decide_eq_true_eq, decide_eq_false_iff_not, eqNil] at hg; omega) | (simp only [List.length_append, List.length_map, List.length_range, List.length_replicate, List.length_take, List.length_drop, List.length_cons, List.length_nil, List.length_set, List.length_reverse]; omega))
  refine aOps_store (by rfl) (by rfl) (by repeat (first | exact AHeap.set_same _ _ _ | assumption | refine (AHeap.set_ne _ _ (by first | assumption | exact Ne.symm (by assumption))).trans ?_)) sz34 (by rfl) (by rfl) (by first | exact Nat.le_refl _ | decide | (simp; done) | (simp; omega)) (Nat.zero_le _) (by rfl) ?_
  simp only [AHeap.set_set, AVal.cells]
  simp (decide := true) only [aOps_nil, ev, putD, Slots.get, Slots.keep, if_true, if_false, setAt, List.set_cons_zero, List.set_cons_succ, Nat.zero_add, Nat.reduceAdd]
  repeat (with_reducible refine And.intro ?_ ?_; · first | trivial | omega | (intro hg; simp only [Bool.and_eq_true, Bool.or_eq_true, Bool.not_eq_true', Bool.and_eq_false_iff, Bool.or_eq_false_iff, Bool.not_eq_false', decide_eq_true_eq, decide_eq_false_iff_not, eqNil] at hg; omega) | (simp only [List.length_append, List.length_map, List.length_range, List.length_replicate, List.length_take, List.length_drop, List.length_cons, List.length_nil, List.length_set, List.length_reverse]; omega))
  apply hK; clear hK K
  -- region 7  law.go:37
  refine awp_rseq [1, 2, 3, 4, 5, 6, 7, 8, 10, 12, 13] (by rfl) fun K hK => ?_
  simp (decide := true) only [ev, absV, absS, putD, Slots.put, Slots.get, if_false, true_and, ↓ap_build, ↓pop_buildL, bld34_, evP, List.map_nil]
  repeat (with_reducible refine And.intro ?_ ?_; · first | trivial | omega | (intro hg; simp only [Bool.and_eq_true, Bool.or_eq_true, Bool.not_eq_true', Bool.and_eq_false_iff, Bool.or_eq_false_iff, Bool.not_eq_false', decide_eq_true_eq, decide_eq_false_iff_not, eqNil] at hg; omega) | (simp only [List.length_append, List.length_map, List.length_range, List.length_replicate, List.length_take, List.length_drop, List.length_cons, List.length_nil, List.length_set, List.length_reverse]; omega))
  refine aOps_alloc ze34 (cs := [.int .i64 0, .int .i64 0, .int .i64 0]) (by rfl) fun k7q1 hk7q1 => ?_
  have ne_7q1_6q6 : k7q1 ≠ k6q6 := by simp only [AHeap.set_none] at hk7q1; simp only [hk7q1, ne_eq, not_false_eq_true]
  have hn_7q1 : h6q2 k7q1 = none := by first | assumption | (simp only [AHeap.set_none] at hk7q1; simp only [hk7q1])
  have hf_7q1 : h k7q1 = none := Sub.none hs_h6q2 hn_7q1
  have ne_7q1_1q6 : k7q1 ≠ k1q6 := AHeap.ne_some hn_7q1 eb_1q6
  have ne_7q1_2q9 : k7q1 ≠ k2q9 := AHeap.ne_some hn_7q1 eb_2q9
  have ne_7q1_3q9 : k7q1 ≠ k3q9 := AHeap.ne_some hn_7q1 eb_3q9
  have ne_7q1_4q9 : k7q1 ≠ k4q9 := AHeap.ne_some hn_7q1 eb_4q9
  have ne_7q1_5q6 : k7q1 ≠ k5q6 := AHeap.ne_some hn_7q1 eb_5q6
  refine aOps_store (by rfl) (by rfl) (by repeat (first | exact AHeap.set_same _ _ _ | assumption | refine (AHeap.set_ne _ _ (by first | assumption | exact Ne.symm (by assumption))).trans ?_)) sz34 (by rfl) (by rfl) (by first | exact Nat.le_refl _ | decide | (simp; done) | (simp; omega)) (Nat.zero_le _) (by rfl) ?_
  simp only [AHeap.set_set, AVal.cells]
  simp (decide := true) only [aOps_nil, ev, putD, Slots.put, Slots.get, Slots.keep, if_true, if_false, setAt, List.set_cons_zero, List.set_cons_succ, Nat.zero_add, Nat.reduceAdd]
  repeat (with_reducible refine And.intro ?_ ?_; · first | trivial | omega | (intro hg; simp only [Bool.and_eq_true, Bool.or_eq_true, Bool.not_eq_true', Bool.and_eq_false_iff, Bool.or_eq_false_iff, Bool.not_eq_false', decide_eq_true_eq, decide_eq_false_iff_not, eqNil] at hg; omega) | (simp only [List.length_append, List.length_map, List.length_range, List.length_replicate, List.length_take, List.length_drop, List.length_cons, List.length_nil, List.length_set, List.length_reverse]; omega))
  apply hK; clear hK K
  refine awp_seq ?_
  -- region 8  law.go:38
  refine awp_rseq [112] (by rfl) fun K hK => ?_
  simp (decide := true) only [ev, absV, absS, putD, Slots.put, Slots.get, if_true, if_false, true_and, ↓ap_loadL, apL_mk, pLoad_agg ag34 sz34, ↓ap_binOp, pop_binOp, isNilC_tmp, cond_false, pBinX_agg, ne34, ↓ap_move, pop_move, ↓ag_loadL, agQL_some, agL_mk, agP, agQ_some, nthDst, gKnown_bool, guardB_bool_false, implies_true, decide_true, Bool.not_false, Bool.not_true, condV_true, Bool.and_true, ↓ag_binOp, ↓ap_pick, pop_pick, pPick_bool, pickV_and, ↓ag_move, isNilC_str, pBinX_str, pS_neq, rd_ne', ne_eq, not_false_eq_true, ne_6q6_1q6.symm, ne_6q6_2q9.symm, ne_6q6_3q9.symm, ne_6q6_4q9.symm, ne_7q1_1q6.symm, ne_7q1_2q9.symm, ne_7q1_3q9.symm, ne_7q1_4q9.symm, rd_own w₀ eb_1q6, rd_own w₀ eb_2q9, rd_own w₀ eb_3q9, rd_own w₀ eb_4q9, rd_any, cellsAt, List.getD_cons_zero, List.getD_cons_succ, Nat.zero_add, Nat.reduceAdd, lv_int, allLive, Bool.and_true]
  repeat (with_reducible refine And.intro ?_ ?_; · first | trivial | omega | (intro hg; simp only [Bool.and_eq_true, Bool.or_eq_true, Bool.not_eq_true', Bool.and_eq_false_iff, Bool.or_eq_false_iff, Bool.not_eq_false', decide_eq_true_eq, decide_eq_false_iff_not, eqNil] at hg; omega) | (simp only [List.length_append, List.length_map, List.length_range, List.length_replicate, List.length_take, List.length_drop, List.length_cons, List.length_nil, List.length_set, List.length_reverse]; omega))
  first
  | (refine aOps_yes (by rfl) ?_; refine aOps_callV (V := .str (sp 57)) (by rfl) (by rfl) (c_spaces w₀ _ 57 (by decide)) ?_)
  | (refine aOps_gcall (V := .str (sp 57)) (f := _) (cap := _) (xs := _) rfl (fun hg => ⟨rfl, ?_⟩) (fun hg => c_spaces w₀ _ 57 (by decide)) ?_; · (simp (decide := true) only [gv, nthDst, Slots.get, if_true, if_false, guardB_bool_true, guardB_bool_false, guardB_cond, Bool.not_not] at hg; simp (decide := true) only [evs, ev, Slots.get, if_true, if_false, hg, condV_true, List.append_nil, List.map_cons, List.map_nil, absV, absS] <;> try rfl))
  simp (decide := true) only [aOps_nil, ev, absV, absS, putD, Slots.put, Slots.get, Slots.keep, if_true, if_false, true_and, nthDst, guardB_bool_false, ↓ag_binOp, pop_binOp, agP, agQ_some, gKnown_bool, implies_true, decide_true, Bool.not_false, Bool.not_true, condV_true, Bool.and_true, isNilC_tmp, cond_false, pBinX_str, pS_add, isNilC_str, pS_neq, ↓ap_pick, pop_pick, pPick_bool, pickV_and, ↓ap_move, pop_move, ↓ag_move, ↓ag_loadL, agQL_some, agL_mk, pLoad_agg ag34 sz34, ↓ag_build, ↓pop_buildL, bld32_0_1, evP, List.map_cons, List.map_nil, bld34_0_1, pBinX_agg, ne34, rd_ne', ne_eq, not_false_eq_true, ne_6q6_5q6.symm, ne_7q1_6q6.symm, ne_7q1_5q6.symm, rd_own w₀ eb_5q6, rd_any, cellsAt, List.getD_cons_zero, List.getD_cons_succ, Nat.zero_add, Nat.reduceAdd, lv_int, allLive, Bool.and_true]
  repeat (with_reducible refine And.intro ?_ ?_; · first | trivial | omega | (intro hg; simp only [Bool.and_eq_true, Bool.or_eq_true, Bool.not_eq_true', Bool.and_eq_false_iff, Bool.or_eq_false_iff, Bool.not_eq_false', decide_eq_true_eq, decide_eq_false_iff_not, eqNil] at hg; omega) | (simp only [List.length_append, List.length_map, List.length_range, List.length_replicate, List.length_take, List.length_drop, List.length_cons, List.length_nil, List.length_set, List.length_reverse]; omega))
  apply hK; clear hK K
  refine awp_cond (b := _) rfl (fun hb1 => ?_) (fun hb1 => ?_)
  · exact absurd hb1 (by decide)
  · try simp only at hb1
    refine awp_skip ?_
    change Awp _ _ _ _ _ _ _
    -- region 10  law.go:41
    refine awp_rseq [14, 15] (by rfl) fun K hK => ?_
    simp (decide := true) only [ev, absV, absS, putD, Slots.put, Slots.get, if_false, true_and, ↓ap_build, ↓pop_buildL, bld27_1, evP, List.map_cons, List.map_nil]
    repeat (with_reducible refine And.intro ?_ ?_; · first | trivial | omega | (intro hg; simp only [Bool.and_eq_true, Bool.or_eq_true, Bool.not_eq_true', Bool.and_eq_false_iff, Bool.or_eq_false_iff, Bool.not_eq_false', decide_eq_true_eq, decide_eq_false_iff_not, eqNil] at hg; omega) | (simp only [List.length_append, List.length_map, List.length_range, List.length_replicate, List.length_take, List.length_drop, List.length_cons, List.length_nil, List.length_set, List.length_reverse]; omega))
    refine aOps_buildSlice (cs := [.bool false, .str [83, 84, 79, 80, 32, 82, 85, 78, 46]]) (by kernel_rfl) fun k10q1 hk10q1 => ?_
    have ne_10q1_6q6 : k10q1 ≠ k6q6 := by simp only [AHeap.set_none] at hk10q1; simp only [hk10q1, ne_eq, not_false_eq_true]
    have ne_10q1_7q1 : k10q1 ≠ k7q1 := by simp only [AHeap.set_none] at hk10q1; simp only [hk10q1, ne_eq, not_false_eq_true]
    have hn_10q1 : h6q2 k10q1 = none := by first | assumption | (simp only [AHeap.set_none] at hk10q1; simp only [hk10q1])
    have hf_10q1 : h k10q1 = none := Sub.none hs_h6q2 hn_10q1
    have ne_10q1_1q6 : k10q1 ≠ k1q6 := AHeap.ne_some hn_10q1 eb_1q6
    have ne_10q1_2q9 : k10q1 ≠ k2q9 := AHeap.ne_some hn_10q1 eb_2q9
    have ne_10q1_3q9 : k10q1 ≠ k3q9 := AHeap.ne_some hn_10q1 eb_3q9
    have ne_10q1_4q9 : k10q1 ≠ k4q9 := AHeap.ne_some hn_10q1 eb_4q9
    have ne_10q1_5q6 : k10q1 ≠ k5q6 := AHeap.ne_some hn_10q1 eb_5q6
    refine aOps_call (by rfl) (by rfl) (c_Write w₀ ht10 _ [(false, [83, 84, 79, 80, 32, 82, 85, 78, 46])] (.own k10q1) 0 (.exact 1) (isLines (ls := [(false, [83, 84, 79, 80, 32, 82, 85, 78, 46])]) (AHeap.set_same _ _ _) _ rfl) (by decide) (by decide)) fun x10q2 h10q2 hx10q2 => ?_
    rw [wr1] at hx10q2
    obtain ⟨rfl, hs10⟩ := hx10q2
    have hs_h10q2 : Sub h h10q2 := Sub.trans (by repeat (first | exact Sub.refl _ | assumption | refine Sub.trans_set ?_ (by assumption))) hs10
    have hr_h10q2 : Sub h6q2 h10q2 := Sub.trans (by repeat (first | exact Sub.refl _ | assumption | refine Sub.trans_set ?_ (by assumption))) hs10
    have eb_6q6 := hs10 k6q6 _ (by repeat (first | exact AHeap.set_same _ _ _ | assumption | refine (AHeap.set_ne _ _ (by first | assumption | exact Ne.symm (by assumption))).trans ?_))
    have eb_7q1 := hs10 k7q1 _ (by repeat (first | exact AHeap.set_same _ _ _ | assumption | refine (AHeap.set_ne _ _ (by first | assumption | exact Ne.symm (by assumption))).trans ?_))
    have eb_10q1 := hs10 k10q1 _ (by repeat (first | exact AHeap.set_same _ _ _ | assumption | refine (AHeap.set_ne _ _ (by first | assumption | exact Ne.symm (by assumption))).trans ?_))
    have eb_1q6 := hs10 k1q6 _ (by repeat (first | exact AHeap.set_same _ _ _ | assumption | refine (AHeap.set_ne _ _ (by first | assumption | exact Ne.symm (by assumption))).trans ?_))
    have eb_2q9 := hs10 k2q9 _ (by repeat (first | exact AHeap.set_same _ _ _ | assumption | refine (AHeap.set_ne _ _ (by first | assumption | exact Ne.symm (by assumption))).trans ?_))
    have eb_3q9 := hs10 k3q9 _ (by repeat (first | exact AHeap.set_same _ _ _ | assumption | refine (AHeap.set_ne _ _ (by first | assumption | exact Ne.symm (by assumption))).trans ?_))
    have eb_4q9 := hs10 k4q9 _ (by repeat (first | exact AHeap.set_same _ _ _ | assumption | refine (AHeap.set_ne _ _ (by first | assumption | exact Ne.symm (by assumption))).trans ?_))
    have eb_5q6 := hs10 k5q6 _ (by repeat (first | exact AHeap.set_same _ _ _ | assumption | refine (AHeap.set_ne _ _ (by first | assumption | exact Ne.symm (by assumption))).trans ?_))
    simp (decide := true) only [aOps_nil, ev, putD, Slots.put, Slots.get, Slots.keep, if_true, if_false, true_and, ↓ap_move, pop_move, ↓ap_extract, pop_extract, pExt_tuple, List.getD_cons_zero, List.getD_cons_succ, ↓ap_assign, pop_assign, List.getD_cons_zero, List.getD_cons_succ]
    repeat (with_reducible refine And.intro ?_ ?_; · first | trivial | omega | (intro hg; simp only [Bool.and_eq_true, Bool.or_eq_true, Bool.not_eq_true', Bool.and_eq_false_iff, Bool.or_eq_false_iff, Bool.not_eq_false', decide_eq_true_eq, decide_eq_false_iff_not, eqNil] at hg; omega) | (simp only [List.length_append, List.length_map, List.length_range, List.length_replicate, List.length_take, List.length_drop, List.length_cons, List.length_nil, List.length_set, List.length_reverse]; omega))
    apply hK; clear hK K
    -- region 11  law.go:42
    refine awp_rseq [14, 15, 16, 17] (by rfl) fun K hK => ?_
    simp (decide := true) only [ev, absV, absS, putD, Slots.put, Slots.get, if_false, true_and, ↓ap_build, ↓pop_buildL, bld27_0_1, evP, List.map_cons, List.map_nil]
    repeat (with_reducible refine And.intro ?_ ?_; · first | trivial | omega | (intro hg; simp only [Bool.and_eq_true, Bool.or_eq_true, Bool.not_eq_true', Bool.and_eq_false_iff, Bool.or_eq_false_iff, Bool.not_eq_false', decide_eq_true_eq, decide_eq_false_iff_not, eqNil] at hg; omega) | (simp only [List.length_append, List.length_map, List.length_range, List.length_replicate, List.length_take, List.length_drop, List.length_cons, List.length_nil, List.length_set, List.length_reverse]; omega))
    refine aOps_buildSlice (cs := [.bool true, .str [83, 84, 79, 80, 32, 82, 85, 78, 46]]) (by kernel_rfl) fun k11q1 hk11q1 => ?_
    have hn_11q1 : h10q2 k11q1 = none := by first | assumption | (simp only [AHeap.set_none] at hk11q1; simp only [hk11q1])
    have hf_11q1 : h k11q1 = none := Sub.none hs_h10q2 hn_11q1
    have ne_11q1_1q6 : k11q1 ≠ k1q6 := AHeap.ne_some hn_11q1 eb_1q6
    have ne_11q1_2q9 : k11q1 ≠ k2q9 := AHeap.ne_some hn_11q1 eb_2q9
    have ne_11q1_3q9 : k11q1 ≠ k3q9 := AHeap.ne_some hn_11q1 eb_3q9
    have ne_11q1_4q9 : k11q1 ≠ k4q9 := AHeap.ne_some hn_11q1 eb_4q9
    have ne_11q1_5q6 : k11q1 ≠ k5q6 := AHeap.ne_some hn_11q1 eb_5q6
    have ne_11q1_6q6 : k11q1 ≠ k6q6 := AHeap.ne_some hn_11q1 eb_6q6
    have ne_11q1_7q1 : k11q1 ≠ k7q1 := AHeap.ne_some hn_11q1 eb_7q1
    have ne_11q1_10q1 : k11q1 ≠ k10q1 := AHeap.ne_some hn_11q1 eb_10q1
    refine aOps_call (by rfl) (by rfl) (c_Write w₀ ht10 _ [(true, [83, 84, 79, 80, 32, 82, 85, 78, 46])] (.own k11q1) 0 (.exact 1) (isLines (ls := [(true, [83, 84, 79, 80, 32, 82, 85, 78, 46])]) (AHeap.set_same _ _ _) _ rfl) (by decide) (by decide)) fun x11q2 h11q2 hx11q2 => ?_
    rw [wr2] at hx11q2
    obtain ⟨rfl, hs11⟩ := hx11q2
    have hs_h11q2 : Sub h h11q2 := Sub.trans (by repeat (first | exact Sub.refl _ | assumption | refine Sub.trans_set ?_ (by assumption))) hs11
    have hr_h11q2 : Sub h10q2 h11q2 := Sub.trans (by repeat (first | exact Sub.refl _ | assumption | refine Sub.trans_set ?_ (by assumption))) hs11
    have eb_11q1 := hs11 k11q1 _ (by repeat (first | exact AHeap.set_same _ _ _ | assumption | refine (AHeap.set_ne _ _ (by first | assumption | exact Ne.symm (by assumption))).trans ?_))
    have eb_1q6 := hs11 k1q6 _ (by repeat (first | exact AHeap.set_same _ _ _ | assumption | refine (AHeap.set_ne _ _ (by first | assumption | exact Ne.symm (by assumption))).trans ?_))
    have eb_2q9 := hs11 k2q9 _ (by repeat (first | exact AHeap.set_same _ _ _ | assumption | refine (AHeap.set_ne _ _ (by first | assumption | exact Ne.symm (by assumption))).trans ?_))
    have eb_3q9 := hs11 k3q9 _ (by repeat (first | exact AHeap.set_same _ _ _ | assumption | refine (AHeap.set_ne _ _ (by first | assumption | exact Ne.symm (by assumption))).trans ?_))
    have eb_4q9 := hs11 k4q9 _ (by repeat (first | exact AHeap.set_same _ _ _ | assumption | refine (AHeap.set_ne _ _ (by first | assumption | exact Ne.symm (by assumption))).trans ?_))
    have eb_5q6 := hs11 k5q6 _ (by repeat (first | exact AHeap.set_same _ _ _ | assumption | refine (AHeap.set_ne _ _ (by first | assumption | exact Ne.symm (by assumption))).trans ?_))
    have eb_6q6 := hs11 k6q6 _ (by repeat (first | exact AHeap.set_same _ _ _ | assumption | refine (AHeap.set_ne _ _ (by first | assumption | exact Ne.symm (by assumption))).trans ?_))
    have eb_7q1 := hs11 k7q1 _ (by repeat (first | exact AHeap.set_same _ _ _ | assumption | refine (AHeap.set_ne _ _ (by first | assumption | exact Ne.symm (by assumption))).trans ?_))
    have eb_10q1 := hs11 k10q1 _ (by repeat (first | exact AHeap.set_same _ _ _ | assumption | refine (AHeap.set_ne _ _ (by first | assumption | exact Ne.symm (by assumption))).trans ?_))
    simp (decide := true) only [aOps_nil, ev, putD, Slots.put, Slots.get, Slots.keep, if_true, if_false, true_and, ↓ap_move, pop_move, ↓ap_extract, pop_extract, pExt_tuple, List.getD_cons_zero, List.getD_cons_succ, ↓ap_assign, pop_assign, List.getD_cons_zero, List.getD_cons_succ]
    repeat (with_reducible refine And.intro ?_ ?_; · first | trivial | omega | (intro hg; simp only [Bool.and_eq_true, Bool.or_eq_true, Bool.not_eq_true', Bool.and_eq_false_iff, Bool.or_eq_false_iff, Bool.not_eq_false', decide_eq_true_eq, decide_eq_false_iff_not, eqNil] at hg; omega) | (simp only [List.length_append, List.length_map, List.length_range, List.length_replicate, List.length_take, List.length_drop, List.length_cons, List.length_nil, List.length_set, List.length_reverse]; omega))
    apply hK; clear hK K
    -- region 12  law.go:43
    refine awp_rseq [0] (by rfl) fun K hK => ?_
    simp (decide := true) only [aOps_nil, ev, absV, absS, putD, Slots.put, Slots.get, Slots.keep, if_true, if_false, true_and, ↓ap_move, pop_move, ↓ap_binOp, pop_binOp, isNilC_int, cond_false, pBinX_int, pI_eql, ↓ag_move, agP, agQ_some, nthDst, guardB_bool_true, decide_true, condV_true, Bool.and_true, ↓ag_binOp, ↓ap_pick, pop_pick, pPick_bool, pickV_and, isNilC_str, pBinX_str, pS_eql, ↓ap_assign, pop_assign, Bool.and_true]
    repeat (with_reducible refine And.intro ?_ ?_; · first | trivial | omega | (intro hg; simp only [Bool.and_eq_true, Bool.or_eq_true, Bool.not_eq_true', Bool.and_eq_false_iff, Bool.or_eq_false_iff, Bool.not_eq_false', decide_eq_true_eq, decide_eq_false_iff_not, eqNil] at hg; omega) | (simp only [List.length_append, List.length_map, List.length_range, List.length_replicate, List.length_take, List.length_drop, List.length_cons, List.length_nil, List.length_set, List.length_reverse]; omega))
    apply hK; clear hK K
    refine awp_ret ?_
    try simp only [thenA_ret, inBlockA_ret]
    refine retA_ret h (by repeat (first | exact Sub.refl _ | assumption | refine Sub.trans_set ?_ (by assumption))) (resPre_tmp (resPre_nil)) ?_
    simp (decide := true) only [Slots.get, if_true, and_true, resOf_one]
    all_goals first | rfl | exact ⟨rfl, rfl⟩ | (simp (decide := true) only [if_true, if_false, *]; done) | (trace_state; fail)
end Go.Proofs.YtikpnhdjjabdmaaDoor

/-
  The statement ColumnsLayout, walked.
  Conditions: none.
-/
namespace Go.Proofs.YtikpnhdjjabdmaaDoor
open Go.AM
open Go.Proofs
open Go.Col
set_option maxRecDepth 100000

theorem oddQ_cons (b : UInt8) (s : Str) : oddQ (b :: s) = if b = 34 then !oddQ s else oddQ s := by
  unfold oddQ quotes
  rw [List.countP_cons]
  by_cases h : b = 34
  · rw [if_pos (by simp [h]), if_pos h, Bool.eq_iff_iff, Bool.not_eq_true', decide_eq_true_eq, decide_eq_false_iff_not]
    omega
  · rw [if_neg (by simp [h]), if_neg h]
    rfl
/-- A byte at which a text can be divided. -/
def cutAt (s : Str) (q : Bool) (n : Nat) : Bool := decide (n < s.length) && decide (s.getD n 0 = 32) && (oddQ (s.take n) == q)
theorem spaceGo_low : ∀ (s : Str) (i n : Nat) (q : Bool) (f : Nat), n < i → spaceGo s i n q f = f
  | [], _, _, _, _, _ => rfl
  | b :: s, i, n, q, f, h => by rw [spaceGo, if_pos h]
theorem spaceGo_up : ∀ (s : Str) (i n : Nat) (q : Bool) (f : Nat), spaceGo s i (n + 1) q f = if i ≤ n + 1 ∧ cutAt s q (n + 1 - i) = true then n + 1 else spaceGo s i n q f
  | [], i, n, q, f => by
    rw [if_neg (by unfold cutAt; simp)]
    rfl
  | b :: s, i, n, q, f => by
    by_cases h1 : n + 1 < i
    · rw [spaceGo_low _ _ _ _ _ h1, spaceGo_low _ _ _ _ _ (by omega), if_neg (by omega)]
    · rw [spaceGo, if_neg h1]
      simp only
      rw [spaceGo_up s (i + 1) n]
      by_cases h2 : i = n + 1
      · rw [if_neg (by omega), spaceGo_low _ _ _ _ _ (by omega), spaceGo_low (b :: s) i n q f (by omega)]
        have e : cutAt (b :: s) q (n + 1 - i) = (decide (b = 32) && (false == q)) := by
          rw [h2, Nat.sub_self]
          unfold cutAt
          simp only [List.length_cons, List.getD_cons_zero, List.take_zero]
          rw [decide_eq_true (by omega), Bool.true_and]
          rfl
        rw [e]
        by_cases hb : b = 32
        · subst hb
          cases q
          · simp [show 0 < i by omega, show i ≤ n + 1 by omega]; omega
          · simp
        · rw [if_neg (by simp [hb]), if_neg (by simp [hb])]
      · have e : cutAt (b :: s) q (n + 1 - i) = cutAt s (if b = 34 then !q else q) (n + 1 - (i + 1)) := by
          have : n + 1 - i = (n + 1 - (i + 1)) + 1 := by omega
          rw [this]
          unfold cutAt
          simp only [List.length_cons, List.getD_cons_succ, List.take_succ_cons]
          rw [oddQ_cons]
          have e1 : decide (n + 1 - (i + 1) + 1 < s.length + 1) = decide (n + 1 - (i + 1) < s.length) := by rw [decide_eq_decide]; omega
          rw [e1]
          congr 1
          split
          · cases q <;> cases oddQ (s.take (n + 1 - (i + 1))) <;> rfl
          · rfl
        rw [e]
        have er : spaceGo (b :: s) i n q f = spaceGo s (i + 1) n (if b = 34 then !q else q) (if b = 32 ∧ (if b = 34 then !q else q) = false ∧ 0 < i then i else f) := by rw [spaceGo, if_neg (show ¬ n < i by omega)]
        rw [er]
        by_cases hc : cutAt s (if b = 34 then !q else q) (n + 1 - (i + 1)) = true
        · rw [if_pos ⟨by omega, hc⟩, if_pos ⟨by omega, hc⟩]
        · have n1 : ¬ (i + 1 ≤ n + 1 ∧ cutAt s (if b = 34 then !q else q) (n + 1 - (i + 1)) = true) := fun x => hc x.2
          have n2 : ¬ (i ≤ n + 1 ∧ cutAt s (if b = 34 then !q else q) (n + 1 - (i + 1)) = true) := fun x => hc x.2
          rw [if_neg n1, if_neg n2]
theorem spaceE_up (s : Str) (n : Nat) (q : Bool) : spaceE s (n + 1) q = if cutAt s q (n + 1) = true then n + 1 else spaceE s n q := by
  unfold spaceE
  rw [spaceGo_up]
  simp only [Nat.sub_zero, Nat.zero_le, true_and]
theorem spaceE_zero (s : Str) (q : Bool) : spaceE s 0 q = 0 := by have := (spaceE_le s 0 q).1; omega
theorem divGo_eq (s : Str) (q : Bool) : ∀ n, divGo s q n = if 0 < spaceE s n q then some (spaceE s n q) else none
  | 0 => by rw [spaceE_zero]; rfl
  | n + 1 => by
    rw [divGo, spaceE_up, divGo_eq s q n]
    have e : (n + 1 < s.length ∧ s.getD (n + 1) 0 = 32 ∧ oddQ (s.take (n + 1)) = q) ↔ cutAt s q (n + 1) = true := by
      unfold cutAt
      simp only [Bool.and_eq_true, decide_eq_true_eq, beq_iff_eq, and_assoc]
    by_cases h : cutAt s q (n + 1) = true
    · rw [if_pos (e.2 h), if_pos h, if_pos (by omega)]
    · rw [if_neg (fun x => h (e.1 x)), if_neg h]
theorem divE_eq (s : Str) (q : Bool) (n : Nat) : divE s n q = if 0 < spaceE s n q then (spaceE s n q, true) else (n, false) := by
  unfold divE
  rw [divGo_eq]
  split
  · rename_i k e
    split at e
    · rename_i h; rw [if_pos h]; cases e; rfl
    · cases e
  · rename_i e
    split at e
    · cases e
    · rename_i h; rw [if_neg h]
theorem spaceE_cut (s : Str) (q : Bool) : ∀ n, 0 < spaceE s n q → cutAt s q (spaceE s n q) = true
  | 0, h => by rw [spaceE_zero] at h; omega
  | n + 1, h => by
    rw [spaceE_up] at h ⊢
    split
    · rename_i hc; exact hc
    · rename_i hc; rw [if_neg hc] at h; exact spaceE_cut s q n h
/-- The last byte is no space. -/
def lastOk (s : Str) : Prop := s ≠ [] ∧ s.getLast? ≠ some 32
theorem lastOk_drop {s : Str} (h : lastOk s) {k : Nat} (hk : k < s.length) : lastOk (s.drop k) := by
  refine ⟨fun e => ?_, ?_⟩
  · have := congrArg List.length e; simp at this; omega
  · rw [List.getLast?_drop, if_neg (by omega)]; exact h.2
theorem trimL_split (s : Str) : ∃ k, s = List.replicate k 32 ++ trimL s ∧ (trimL s).head? ≠ some 32 := by
  induction s with
  | nil => exact ⟨0, rfl, by simp [trimL]⟩
  | cons b s ih =>
    by_cases h : b = 32
    · obtain ⟨k, h1, h2⟩ := ih
      refine ⟨k + 1, ?_, ?_⟩
      · subst h
        rw [List.replicate_succ, List.cons_append]
        have : trimL (32 :: s) = trimL s := by simp [trimL]
        rw [this, ← h1]
      · have : trimL (b :: s) = trimL s := by simp [trimL, h]
        rw [this]; exact h2
    · have : trimL (b :: s) = b :: s := by simp [trimL, h]
      rw [this]
      exact ⟨0, rfl, by simpa using h⟩
theorem lastOk_trimL {s : Str} (h : lastOk s) : lastOk (trimL s) := by
  obtain ⟨k, h1, h2⟩ := trimL_split s
  have hne : trimL s ≠ [] := by
    intro e
    rw [e, List.append_nil] at h1
    cases k with
    | zero => exact h.1 h1
    | succ k =>
      refine h.2 ?_
      rw [h1, List.replicate_succ', List.getLast?_append]
      rfl
  refine ⟨hne, ?_⟩
  have := h.2
  rw [h1, List.getLast?_append] at this
  cases hl : (trimL s).getLast? with
  | none => simp
  | some x => rw [hl] at this; simpa using this
theorem right_last {s : Str} (h : rightE s = true) : lastOk s := by
  unfold rightE at h
  simp only [Bool.and_eq_true, Bool.not_eq_true', decide_eq_false_iff_not] at h
  exact ⟨h.1.1.1.1, h.1.2⟩
theorem textE_len : ∀ (f col : Nat) (mark : Str) (q : Bool) (k : Nat) (out s : Str), 8 ≤ col → col ≤ 12 → mark.length = 1 → (textE f col mark q k out s).2.length ≤ out.length + 80 * f
  | 0, _, _, _, _, _, _, _, _, _ => by simp [textE]
  | f + 1, col, mark, q, k, out, s, h1, h2, h3 => by
    have hld : (if q = true then [34] else [] : Str).length ≤ 1 := by split <;> simp
    by_cases h : s.length ≤ 73 - col - (if q = true then 1 else 0)
    · rw [textE_short h]
      have hol := outE_len (k + 1) col mark ((if q = true then [34] else []) ++ s)
      simp only [List.length_append] at hol ⊢
      omega
    · by_cases h2' : 0 < spaceE s (73 - col - (if q = true then 1 else 0)) q
      · rw [textE_space h h2']
        have hol := outE_len (k + 1) col mark ((if q = true then [34] else []) ++ s.take (spaceE s (73 - col - (if q = true then 1 else 0)) q))
        have hle := (spaceE_le s (73 - col - (if q = true then 1 else 0)) q).1
        refine Nat.le_trans (textE_len f 12 [32] false _ _ _ (by omega) (by omega) rfl) ?_
        simp only [List.length_append, List.length_take] at hol ⊢
        omega
      · rw [textE_cut h h2']
        have hol := outE_len (k + 1) col mark ((if q = true then [34] else []) ++ s.take (73 - col - (if q = true then 1 else 0)))
        refine Nat.le_trans (textE_len f 12 [45] _ _ _ _ (by omega) (by omega) rfl) ?_
        simp only [List.length_append, List.length_take] at hol ⊢
        omega
def frontE (mark : Str) (col : Nat) (q : Bool) : Str := mark ++ sp (col - 8) ++ if q = true then [34] else []
theorem front_len {mark : Str} {col : Nat} {q : Bool} (hm : mark.length = 1) (h8 : 8 ≤ col) : (frontE mark col q).length = col - 7 + (if q = true then 1 else 0) := by
  unfold frontE sp
  simp only [List.length_append, List.length_replicate]
  split <;> simp <;> omega
theorem front_last {mark : Str} {col : Nat} {q : Bool} (hm : mark = [32] ∨ mark = [45]) (hc : col = 8 ∨ col = 12) : decide (((frontE mark col q).getD ((frontE mark col q).length - 1) 0).toNat = 34) = q := by
  rcases hm with rfl | rfl <;> rcases hc with rfl | rfl <;> cases q <;> decide
/-- The state of the law's inner loop. -/
structure LyG where
  fuel : Nat
  col : Nat
  mark : Str
  q : Bool
  n : Nat
  out : Str
  s : Str
structure LyOk (R : Nat × Str) (g : LyG) : Prop where
  fuel : g.s.length < g.fuel
  col : g.col = 8 ∨ g.col = 12
  mark : g.mark = [32] ∨ g.mark = [45]
  eq : textE g.fuel g.col g.mark g.q g.n g.out g.s = R
  n : g.n + g.s.length ≤ 900
  last : lastOk g.s
  out : g.out.length + 100 * g.s.length ≤ 1000000
theorem dig_eq {n : Nat} (h0 : 0 < n) (h1 : n < 1000000) : digZ n = digs (n % 1000000) := by
  unfold digZ
  rw [if_neg (by omega), Nat.mod_eq_of_lt h1]
theorem layout_write {a b : Str} {left : Bool} {R0 R1 : Nat × Str} (ra : rightE a = true) (rb : rightE b = true) (la : a.length ≤ 400) (lb : b.length ≤ 400)
    (h0 : R0 = textE (a.length + 1) (if left = true then 8 else 12) [32] false 0 [] a) (h1 : R1 = textE (b.length + 1) 12 [32] false R0.1 R0.2 b) : writeE [(left, a), (false, b)] = (R1.2, 0) ∧ R0.1 ≤ 401 ∧ R0.2.length ≤ 32080 ∧ R1.2.length ≤ 64160 := by
  have b1 := textE_len (a.length + 1) (if left = true then 8 else 12) [32] false 0 [] a (by split <;> omega) (by split <;> omega) rfl
  have b2 := textE_len (b.length + 1) 12 [32] false R0.1 R0.2 b (by omega) (by omega) rfl
  have b3 := textE_n (a.length + 1) (if left = true then 8 else 12) [32] false 0 [] a
  rw [← h0] at b1 b3
  rw [← h1] at b2
  simp only [List.length_nil] at b1
  refine ⟨?_, by omega, by omega, by omega⟩
  unfold writeE
  simp only [List.all_cons, List.all_nil, Bool.and_true, ra, rb, if_true, writeGo, ← h0, Bool.false_eq_true, if_false, ← h1]
  rw [if_neg (by omega), if_neg (by omega)]
def stp (R0 R1 : Nat × Str) : Nat → Nat × Str
  | 0 => (0, [])
  | 1 => R0
  | _ => R1
set_option maxHeartbeats 2000000 in
theorem l_ColumnsLayout (w₀ : World) (hm : MaxL w₀) (ht10 : Tab10 w₀) (h : AHeap) (a : Str) (ha : a.length ≤ 9223372036854775807) (b : Str) (hb : b.length ≤ 9223372036854775807) (left : Bool) :
    ACall Tryd.prog w₀ 4 [.str a, .str b, .bool left] h (fun x _ => x = .bool true) := by
  refine ACall.mono (R := fun x h' => x = .bool true ∧ h' = h) ?_ fun x h' hx => hx.1
  refine acall_intro (n := 145) (rs := [.tmp 6]) Tryd.func4 rfl rfl rfl rfl (Nat.le_of_ble_eq_true rfl) ?_
  simp only [initSlots]
  -- region 0  law.go:104
  refine awp_rseq [0, 1, 2] (by rfl) fun K hK => ?_
  simp (decide := true) only [aOps_nil, ev, absV, absS, putD, Slots.put, Slots.keep, if_true, if_false, true_and, ↓ap_assign, pop_assign, Nat.zero_add, Nat.reduceAdd]
  repeat (with_reducible refine And.intro ?_ ?_; · first | trivial | omega | (intro hg; simp only [Bool.and_eq_true, Bool.or_eq_true, Bool.not_eq_true', Bool.and_eq_false_iff, Bool.or_eq_false_iff, Bool.not_eq_false', decide_eq_true_eq, decide_eq_false_iff_not, eqNil] at hg; omega) | (simp only [List.length_append, List.length_map, List.length_range, List.length_replicate, List.length_take, List.length_drop, List.length_cons, List.length_nil, List.length_set, List.length_reverse]; omega))
  apply hK; clear hK K
  refine awp_seq ?_
  -- region 1  law.go:105
  refine awp_rseq [0, 1, 2, 36] (by rfl) fun K hK => ?_
  simp (decide := true) only [ev, absV, absS, putD, Slots.put, Slots.get, if_true, if_false, true_and, ↓ap_move, pop_move, ↓ap_len, pop_len, pLen_str Tryd.underlying9, ↓ap_binOp, pop_binOp, isNilC_int, cond_false, pBinX_int, pI_gtr, ↓ag_move, agP, agQ_some, nthDst, gKnown_bool, guardB_bool_false, implies_true, ↓ag_len, cv_len, cp_len, ↓ag_binOp, cv_binl, cp_binl, ↓ap_pick, pop_pick, pPick_bool, pickV_cond_r, pickV_or]
  repeat (with_reducible refine And.intro ?_ ?_; · first | trivial | omega | (intro hg; simp only [Bool.and_eq_true, Bool.or_eq_true, Bool.not_eq_true', Bool.and_eq_false_iff, Bool.or_eq_false_iff, Bool.not_eq_false', decide_eq_true_eq, decide_eq_false_iff_not, eqNil] at hg; omega) | (simp only [List.length_append, List.length_map, List.length_range, List.length_replicate, List.length_take, List.length_drop, List.length_cons, List.length_nil, List.length_set, List.length_reverse]; omega))
  first
  | (refine aOps_yes (by rfl) ?_; refine aOps_callV (V := .bool (rightE a)) (by rfl) (by rfl) (c_right w₀ _ a (by omega)) ?_)
  | (refine aOps_gcall (V := .bool (rightE a)) (f := _) (cap := _) (xs := _) rfl (fun hg => ⟨rfl, ?_⟩) (fun hg => c_right w₀ _ a (by omega)) ?_; · (simp (decide := true) only [gv, nthDst, Slots.get, if_true, if_false, guardB_bool_false] at hg; simp (decide := true) only [evs, ev, Slots.get, if_true, if_false, hg, condV_true, List.append_nil, List.map_cons, List.map_nil] <;> try rfl))
  simp (decide := true) only [ev, absV, absS, putD, Slots.put, Slots.get, if_true, if_false, true_and, gv, nthDst, guardB_bool_false, ↓ag_unOp, pop_unOp, agP, agQ_some, gKnown_bool, implies_true, pU_not, cv_un, cp_un, ↓ap_pick, pop_pick, pPick_bool, pickV_cond_r, pickV_or, ↓ap_move, pop_move, ↓ag_move]
  try simp (disch := omega) only [wrap_i64, wrap_u8]
  repeat (with_reducible refine And.intro ?_ ?_; · first | trivial | omega | (intro hg; simp only [Bool.and_eq_true, Bool.or_eq_true, Bool.not_eq_true', Bool.and_eq_false_iff, Bool.or_eq_false_iff, Bool.not_eq_false', decide_eq_true_eq, decide_eq_false_iff_not, eqNil] at hg; omega) | (simp only [List.length_append, List.length_map, List.length_range, List.length_replicate, List.length_take, List.length_drop, List.length_cons, List.length_nil, List.length_set, List.length_reverse]; omega))
  first
  | (refine aOps_yes (by rfl) ?_; refine aOps_callV (V := .bool (rightE b)) (by rfl) (by rfl) (c_right w₀ _ b (by omega)) ?_)
  | (refine aOps_gcall (V := .bool (rightE b)) (f := _) (cap := _) (xs := _) rfl (fun hg => ⟨rfl, ?_⟩) (fun hg => c_right w₀ _ b (by omega)) ?_; · (simp (decide := true) only [gv, nthDst, Slots.get, if_true, if_false, guardB_bool_false] at hg; simp (decide := true) only [evs, ev, Slots.get, if_true, if_false, hg, condV_true, List.append_nil, List.map_cons, List.map_nil] <;> try rfl))
  simp (decide := true) only [aOps_nil, ev, absV, absS, putD, Slots.put, Slots.get, Slots.keep, if_true, if_false, true_and, gv, nthDst, guardB_bool_false, ↓ag_unOp, pop_unOp, agP, agQ_some, gKnown_bool, implies_true, pU_not, cv_un, cp_un, ↓ap_pick, pop_pick, pPick_bool, pickV_cond_r, pickV_or]
  try simp (disch := omega) only [wrap_i64, wrap_u8]
  repeat (with_reducible refine And.intro ?_ ?_; · first | trivial | omega | (intro hg; simp only [Bool.and_eq_true, Bool.or_eq_true, Bool.not_eq_true', Bool.and_eq_false_iff, Bool.or_eq_false_iff, Bool.not_eq_false', decide_eq_true_eq, decide_eq_false_iff_not, eqNil] at hg; omega) | (simp only [List.length_append, List.length_map, List.length_range, List.length_replicate, List.length_take, List.length_drop, List.length_cons, List.length_nil, List.length_set, List.length_reverse]; omega))
  apply hK; clear hK K
  refine awp_cond (b := _) rfl (fun hb1 => ?_) (fun hb1 => ?_)
  · try simp only [decide_eq_true_eq, Bool.not_eq_true', Bool.or_eq_true] at hb1
    -- region 2  law.go:106
    refine awp_rseq [6] (by rfl) fun K hK => ?_
    refine aOps_callV (V := .bool true) (by rfl) (by rfl) (c_lives02 w₀ hm ht10 _) ?_
    simp (decide := true) only [aOps_nil, ev, putD, Slots.put, Slots.get, Slots.keep, if_true, if_false, true_and, ↓ap_assign, pop_assign]
    repeat (with_reducible refine And.intro ?_ ?_; · first | trivial | omega | (intro hg; simp only [Bool.and_eq_true, Bool.or_eq_true, Bool.not_eq_true', Bool.and_eq_false_iff, Bool.or_eq_false_iff, Bool.not_eq_false', decide_eq_true_eq, decide_eq_false_iff_not, eqNil] at hg; omega) | (simp only [List.length_append, List.length_map, List.length_range, List.length_replicate, List.length_take, List.length_drop, List.length_cons, List.length_nil, List.length_set, List.length_reverse]; omega))
    apply hK; clear hK K
    refine awp_ret ?_
    try simp only [thenA_ret]
    refine retA_ret h (by repeat (first | exact Sub.refl _ | assumption | refine Sub.trans_set ?_ (by assumption))) (resPre_tmp (resPre_nil)) ?_
    simp (decide := true) only [Slots.get, if_true, and_true, resOf_one]
    all_goals first | rfl | exact ⟨rfl, rfl⟩ | (simp (decide := true) only [if_true, if_false, *]; done) | (trace_state; fail)
  · try simp only [decide_eq_false_iff_not, Bool.not_eq_false', Bool.or_eq_false_iff] at hb1
    obtain ⟨⟨⟨l1, l2⟩, ra⟩, rb⟩ := hb1
    obtain ⟨R0, hR0⟩ : ∃ R, R = textE (a.length + 1) (if left = true then 8 else 12) [32] false 0 [] a := ⟨_, rfl⟩
    obtain ⟨R1, hR1⟩ : ∃ R, R = textE (b.length + 1) 12 [32] false R0.1 R0.2 b := ⟨_, rfl⟩
    obtain ⟨hw, hn0, ho0, ho1⟩ := layout_write ra rb (by omega) (by omega) hR0 hR1
    refine awp_skip ?_
    change Awp _ _ _ _ _ _ _
    -- region 3  law.go:108
    refine awp_rseq [0, 1, 2, 7, 8] (by rfl) fun K hK => ?_
    simp (decide := true) only [ev, absV, absS, putD, Slots.put, Slots.get, if_true, if_false, true_and, ↓ap_move, pop_move, ↓ap_build, ↓pop_buildL, bld27_0_1, evP, List.map_cons, List.map_nil, bld27_1]
    repeat (with_reducible refine And.intro ?_ ?_; · first | trivial | omega | (intro hg; simp only [Bool.and_eq_true, Bool.or_eq_true, Bool.not_eq_true', Bool.and_eq_false_iff, Bool.or_eq_false_iff, Bool.not_eq_false', decide_eq_true_eq, decide_eq_false_iff_not, eqNil] at hg; omega) | (simp only [List.length_append, List.length_map, List.length_range, List.length_replicate, List.length_take, List.length_drop, List.length_cons, List.length_nil, List.length_set, List.length_reverse]; omega))
    refine aOps_buildSlice (cs := [.bool left, .str a, .bool false, .str b]) (by kernel_rfl) fun k3q5 hk3q5 => ?_
    try have hf_3q5 : h k3q5 = none := by first | assumption | (simp only [AHeap.set_none] at hk3q5; simp only [hk3q5])
    refine aOps_call (by rfl) (by rfl) (c_Write w₀ ht10 _ [(left, a), (false, b)] (.own k3q5) 0 (.exact 2) (isLines (ls := [(left, a), (false, b)]) (AHeap.set_same _ _ _) _ rfl) (by simp) (by intro x hx; simp at hx; rcases hx with rfl | rfl <;> simp only <;> omega)) fun x3q6 h3q6 hx3q6 => ?_
    rw [hw] at hx3q6
    obtain ⟨rfl, hs3⟩ := hx3q6
    have hs_h3q6 : Sub h h3q6 := Sub.trans (by repeat (first | exact Sub.refl _ | assumption | refine Sub.trans_set ?_ (by assumption))) hs3
    have hr_h3q6 := hs_h3q6
    have eb_3q5 := hs3 k3q5 _ (by repeat (first | exact AHeap.set_same _ _ _ | assumption | refine (AHeap.set_ne _ _ (by first | assumption | exact Ne.symm (by assumption))).trans ?_))
    simp (decide := true) only [aOps_nil, ev, putD, Slots.put, Slots.get, Slots.keep, if_true, if_false, true_and, ↓ap_move, pop_move, ↓ap_extract, pop_extract, pExt_tuple, List.length_cons, List.length_nil, List.getD_cons_zero, List.getD_cons_succ, ↓ap_assign, pop_assign, List.getD_cons_zero, List.getD_cons_succ, Nat.zero_add, Nat.reduceAdd]
    repeat (with_reducible refine And.intro ?_ ?_; · first | trivial | omega | (intro hg; simp only [Bool.and_eq_true, Bool.or_eq_true, Bool.not_eq_true', Bool.and_eq_false_iff, Bool.or_eq_false_iff, Bool.not_eq_false', decide_eq_true_eq, decide_eq_false_iff_not, eqNil] at hg; omega) | (simp only [List.length_append, List.length_map, List.length_range, List.length_replicate, List.length_take, List.length_drop, List.length_cons, List.length_nil, List.length_set, List.length_reverse]; omega))
    apply hK; clear hK K
    -- region 4  law.go:109
    refine awp_rseq [0, 1, 2, 7, 8, 9] (by rfl) fun K hK => ?_
    simp (decide := true) only [aOps_nil, ev, absV, absS, putD, Slots.put, Slots.keep, if_true, if_false, true_and, ↓ap_assign, pop_assign]
    repeat (with_reducible refine And.intro ?_ ?_; · first | trivial | omega | (intro hg; simp only [Bool.and_eq_true, Bool.or_eq_true, Bool.not_eq_true', Bool.and_eq_false_iff, Bool.or_eq_false_iff, Bool.not_eq_false', decide_eq_true_eq, decide_eq_false_iff_not, eqNil] at hg; omega) | (simp only [List.length_append, List.length_map, List.length_range, List.length_replicate, List.length_take, List.length_drop, List.length_cons, List.length_nil, List.length_set, List.length_reverse]; omega))
    apply hK; clear hK K
    -- region 5  law.go:110
    refine awp_rseq [0, 1, 2, 7, 8, 9, 10] (by rfl) fun K hK => ?_
    simp (decide := true) only [aOps_nil, ev, absV, absS, putD, Slots.put, Slots.keep, if_true, if_false, true_and, ↓ap_assign, pop_assign]
    repeat (with_reducible refine And.intro ?_ ?_; · first | trivial | omega | (intro hg; simp only [Bool.and_eq_true, Bool.or_eq_true, Bool.not_eq_true', Bool.and_eq_false_iff, Bool.or_eq_false_iff, Bool.not_eq_false', decide_eq_true_eq, decide_eq_false_iff_not, eqNil] at hg; omega) | (simp only [List.length_append, List.length_map, List.length_range, List.length_replicate, List.length_take, List.length_drop, List.length_cons, List.length_nil, List.length_set, List.length_reverse]; omega))
    apply hK; clear hK K
    -- region 6  law.go:111
    refine awp_rseq [2, 7, 8, 9, 10, 11] (by rfl) fun K hK => ?_
    simp (decide := true) only [ev, putD, Slots.put, Slots.get, if_true, if_false, true_and, ↓ap_move, pop_move]
    repeat (with_reducible refine And.intro ?_ ?_; · first | trivial | omega | (intro hg; simp only [Bool.and_eq_true, Bool.or_eq_true, Bool.not_eq_true', Bool.and_eq_false_iff, Bool.or_eq_false_iff, Bool.not_eq_false', decide_eq_true_eq, decide_eq_false_iff_not, eqNil] at hg; omega) | (simp only [List.length_append, List.length_map, List.length_range, List.length_replicate, List.length_take, List.length_drop, List.length_cons, List.length_nil, List.length_set, List.length_reverse]; omega))
    refine aOps_buildSlice (cs := [.str a, .str b]) (by kernel_rfl) fun k6q2 hk6q2 => ?_
    have hn_6q2 : h3q6 k6q2 = none := by first | assumption | (simp only [AHeap.set_none] at hk6q2; simp only [hk6q2])
    have hf_6q2 : h k6q2 = none := Sub.none hs_h3q6 hn_6q2
    have ne_6q2_3q5 : k6q2 ≠ k3q5 := AHeap.ne_some hn_6q2 eb_3q5
    simp (decide := true) only [aOps_nil, ev, putD, Slots.put, Slots.get, Slots.keep, if_true, if_false, true_and, ↓ap_assign, pop_assign]
    repeat (with_reducible refine And.intro ?_ ?_; · first | trivial | omega | (intro hg; simp only [Bool.and_eq_true, Bool.or_eq_true, Bool.not_eq_true', Bool.and_eq_false_iff, Bool.or_eq_false_iff, Bool.not_eq_false', decide_eq_true_eq, decide_eq_false_iff_not, eqNil] at hg; omega) | (simp only [List.length_append, List.length_map, List.length_range, List.length_replicate, List.length_take, List.length_drop, List.length_cons, List.length_nil, List.length_set, List.length_reverse]; omega))
    apply hK; clear hK K
    refine awp_seq ?_
    -- region 7  law.go:112
    refine awp_rseq [2, 7, 8, 9, 10, 11, 12] (by rfl) fun K hK => ?_
    simp (decide := true) only [aOps_nil, ev, absV, absS, putD, Slots.put, Slots.keep, if_true, if_false, true_and, ↓ap_assign, pop_assign]
    repeat (with_reducible refine And.intro ?_ ?_; · first | trivial | omega | (intro hg; simp only [Bool.and_eq_true, Bool.or_eq_true, Bool.not_eq_true', Bool.and_eq_false_iff, Bool.or_eq_false_iff, Bool.not_eq_false', decide_eq_true_eq, decide_eq_false_iff_not, eqNil] at hg; omega) | (simp only [List.length_append, List.length_map, List.length_range, List.length_replicate, List.length_take, List.length_drop, List.length_cons, List.length_nil, List.length_set, List.length_reverse]; omega))
    apply hK; clear hK K
    refine awp_block ?_
    refine awp_loopG [2, 7, 8, 9, 10, 11, 12] (fun i : Nat => [(2, .bool left), (7, .str R1.2), (8, .int .i64 0), (9, .str (stp R0 R1 i).2), (10, .int .i64 (stp R0 R1 i).1), (11, .slice (.own k6q2) 0 2 (.exact 2)), (12, .int .i64 i)]) (fun i : Nat => h3q6.set k6q2 ⟨[.str a, .str b], 0⟩) (fun i : Nat => i ≤ 2) (fun i : Nat => 2 - i) 0 (by rfl) (Sub.refl _) (by omega) ?_
    intro i hi
    refine awp_seq ?_
    -- region 8  law.go:112
    refine awp_rseq [2, 7, 8, 9, 10, 11, 12, 52] (by rfl) fun K hK => ?_
    simp (decide := true) only [aOps_nil, ev, absV, absS, putD, Slots.put, Slots.get, Slots.keep, if_true, if_false, true_and, ↓ap_move, pop_move, ↓ap_binOp, pop_binOp, isNilC_int, cond_false, pBinX_int, pI_lss]
    repeat (with_reducible refine And.intro ?_ ?_; · first | trivial | omega | (intro hg; simp only [Bool.and_eq_true, Bool.or_eq_true, Bool.not_eq_true', Bool.and_eq_false_iff, Bool.or_eq_false_iff, Bool.not_eq_false', decide_eq_true_eq, decide_eq_false_iff_not, eqNil] at hg; omega) | (simp only [List.length_append, List.length_map, List.length_range, List.length_replicate, List.length_take, List.length_drop, List.length_cons, List.length_nil, List.length_set, List.length_reverse]; omega))
    apply hK; clear hK K
    refine awp_cond (b := _) rfl (fun hb2 => ?_) (fun hb2 => ?_)
    · try simp only [decide_eq_true_eq] at hb2
      have hi2 : i < 2 := by omega
      obtain ⟨x, hx⟩ : ∃ x, x = if i = 0 then a else b := ⟨_, rfl⟩
      have e0 : ([.str a, .str b] : List AVal).getD i .dead = .str x := by
        match i, hi2 with
        | 0, _ => rw [hx]; rfl
        | 1, _ => rw [hx]; rfl
      obtain ⟨cl, hcl⟩ : ∃ cl : Nat, cl = if i = 0 ∧ left = true then 8 else 12 := ⟨_, rfl⟩
      have hg0 : LyOk (stp R0 R1 (i + 1)) ⟨x.length + 1, cl, [32], false, (stp R0 R1 i).1, (stp R0 R1 i).2, x⟩ := by
        match i, hi2 with
        | 0, _ =>
          rw [if_pos rfl] at hx
          subst hx
          refine ⟨Nat.lt_succ_self _, by rw [hcl]; simp only; split <;> simp, .inl rfl, ?_, ?_, right_last ra, ?_⟩
          · simp only [true_and] at hcl
            rw [hcl, hR0]
            rfl
          · show 0 + x.length ≤ 900
            omega
          · show 0 + 100 * x.length ≤ 1000000
            omega
        | 1, _ =>
          rw [if_neg (by omega)] at hx
          subst hx
          refine ⟨Nat.lt_succ_self _, by rw [hcl]; simp, .inl rfl, ?_, ?_, right_last rb, ?_⟩
          · simp at hcl
            rw [hcl]
            exact hR1.symm
          · show R0.1 + x.length ≤ 900
            omega
          · show R0.2.length + 100 * x.length ≤ 1000000
            omega
      refine awp_skip ?_
      change Awp _ _ _ _ _ _ _
      refine awp_seq ?_
      refine awp_block ?_
      -- region 10  law.go:113
      refine awp_rseq [2, 7, 8, 9, 10, 11, 12, 13] (by rfl) fun K hK => ?_
      simp (decide := true) only [aOps_nil, ev, putD, Slots.put, Slots.get, Slots.keep, if_true, if_false, true_and, ↓ap_move, pop_move, ↓ap_indexAddrL, apL_mk, pIndexAddr_slice Tryd.underlying40 sz9, ↓ap_loadL, pLoad_one ag9, ↓ap_assign, pop_assign, rd_any, Nat.zero_add, lv_str, Nat.mul_one, e0, Int.toNat_natCast]
      repeat (with_reducible refine And.intro ?_ ?_; · first | trivial | omega | (intro hg; simp only [Bool.and_eq_true, Bool.or_eq_true, Bool.not_eq_true', Bool.and_eq_false_iff, Bool.or_eq_false_iff, Bool.not_eq_false', decide_eq_true_eq, decide_eq_false_iff_not, eqNil] at hg; omega) | (simp only [List.length_append, List.length_map, List.length_range, List.length_replicate, List.length_take, List.length_drop, List.length_cons, List.length_nil, List.length_set, List.length_reverse]; omega))
      apply hK; clear hK K
      -- region 11  law.go:114
      refine awp_rseq [2, 7, 8, 9, 10, 11, 12, 13, 14] (by rfl) fun K hK => ?_
      refine aOps_callV (V := .str (sp 4)) (by rfl) (by rfl) (c_spaces w₀ _ 4 (by decide)) ?_
      simp (decide := true) only [aOps_nil, ev, absV, absS, putD, Slots.put, Slots.get, Slots.keep, if_true, if_false, true_and, ↓ap_binOp, pop_binOp, isNilC_tmp, cond_false, pBinX_str, pS_add, ↓ap_assign, pop_assign]
      repeat (with_reducible refine And.intro ?_ ?_; · first | trivial | omega | (intro hg; simp only [Bool.and_eq_true, Bool.or_eq_true, Bool.not_eq_true', Bool.and_eq_false_iff, Bool.or_eq_false_iff, Bool.not_eq_false', decide_eq_true_eq, decide_eq_false_iff_not, eqNil] at hg; omega) | (simp only [List.length_append, List.length_map, List.length_range, List.length_replicate, List.length_take, List.length_drop, List.length_cons, List.length_nil, List.length_set, List.length_reverse]; omega))
      apply hK; clear hK K
      refine awp_seq ?_
      -- region 12  law.go:115
      refine awp_rseq [2, 7, 8, 9, 10, 11, 12, 13, 14, 65] (by rfl) fun K hK => ?_
      simp (decide := true) only [aOps_nil, ev, absV, absS, putD, Slots.put, Slots.get, Slots.keep, if_true, if_false, true_and, ↓ap_move, pop_move, ↓ap_binOp, pop_binOp, isNilC_int, cond_false, pBinX_int, pI_eql, ↓ag_move, agP, agQ_some, nthDst, gKnown_bool, guardB_bool_true, implies_true, ↓ap_pick, pop_pick, pPick_bool, pickV_cond_l, pickV_and]
      repeat (with_reducible refine And.intro ?_ ?_; · first | trivial | omega | (intro hg; simp only [Bool.and_eq_true, Bool.or_eq_true, Bool.not_eq_true', Bool.and_eq_false_iff, Bool.or_eq_false_iff, Bool.not_eq_false', decide_eq_true_eq, decide_eq_false_iff_not, eqNil] at hg; omega) | (simp only [List.length_append, List.length_map, List.length_range, List.length_replicate, List.length_take, List.length_drop, List.length_cons, List.length_nil, List.length_set, List.length_reverse]; omega))
      apply hK; clear hK K
      refine awp_joinT [2, 7, 8, 9, 10, 11, 12, 13, 14] (fun z : Unit => [(2, .bool left), (7, .str R1.2), (8, .int .i64 0), (9, .str (stp R0 R1 i).2), (10, .int .i64 (stp R0 R1 i).1), (11, .slice (.own k6q2) 0 2 (.exact 2)), (12, .int .i64 i), (13, .str x), (14, .str (frontE [32] cl false))]) (fun z : Unit => h3q6.set k6q2 ⟨[.str a, .str b], 0⟩) (fun z : Unit => True) ?_ ?_
      · refine awp_cond (b := _) rfl (fun hb3 => ?_) (fun hb3 => ?_)
        · try simp only [decide_eq_true_eq, Bool.and_eq_true] at hb3
          -- region 13  law.go:116
          refine awp_r [2, 7, 8, 9, 10, 11, 12, 13, 14] (by rfl) ?_
          simp (decide := true) only [aOps_nil, ev, absV, absS, putD, Slots.put, Slots.keep, if_true, if_false, true_and, and_true, ↓ap_assign, pop_assign]
          repeat (with_reducible refine And.intro ?_ ?_; · first | trivial | omega | (intro hg; simp only [Bool.and_eq_true, Bool.or_eq_true, Bool.not_eq_true', Bool.and_eq_false_iff, Bool.or_eq_false_iff, Bool.not_eq_false', decide_eq_true_eq, decide_eq_false_iff_not, eqNil] at hg; omega) | (simp only [List.length_append, List.length_map, List.length_range, List.length_replicate, List.length_take, List.length_drop, List.length_cons, List.length_nil, List.length_set, List.length_reverse]; omega))
          try simp only [thenA_normal]
          have hfc : frontE [32] cl false = [32] ++ sp (cl - 8) := by unfold frontE; simp
          first
          | refine ⟨(), ?_, Sub.refl _, trivial⟩
          | refine ⟨(), ?_, Sub.refl _⟩
          rw [hfc, hcl]
          first
          | (rw [if_pos (⟨by omega, hb3.2⟩ : i = 0 ∧ left = true)]; rfl)
          | (rw [if_neg (by
              rintro ⟨e1, e2⟩
              rcases hb3 with q | q
              · omega
              · rw [e2] at q; cases q)]; rfl)
        · try simp only [decide_eq_false_iff_not, Bool.and_eq_false_iff] at hb3
          refine awp_skip ?_
          try simp only [thenA_normal]
          have hfc : frontE [32] cl false = [32] ++ sp (cl - 8) := by unfold frontE; simp
          first
          | refine ⟨(), ?_, Sub.refl _, trivial⟩
          | refine ⟨(), ?_, Sub.refl _⟩
          rw [hfc, hcl]
          first
          | (rw [if_pos (⟨by omega, hb3.2⟩ : i = 0 ∧ left = true)]; rfl)
          | (rw [if_neg (by
              rintro ⟨e1, e2⟩
              rcases hb3 with q | q
              · omega
              · rw [e2] at q; cases q)]; rfl)
      · intro _ _
        refine awp_block ?_
        refine awp_loopG [2, 7, 8, 9, 10, 11, 12, 13, 14] (fun g : LyG => [(2, .bool left), (7, .str R1.2), (8, .int .i64 0), (9, .str g.out), (10, .int .i64 g.n), (11, .slice (.own k6q2) 0 2 (.exact 2)), (12, .int .i64 i), (13, .str g.s), (14, .str (frontE g.mark g.col g.q))]) (fun g : LyG => h3q6.set k6q2 ⟨[.str a, .str b], 0⟩) (fun g : LyG => LyOk (stp R0 R1 (i + 1)) g) (fun g : LyG => g.fuel) ⟨x.length + 1, cl, [32], false, (stp R0 R1 i).1, (stp R0 R1 i).2, x⟩ (by rfl) (Sub.refl _) hg0 ?_
        rintro ⟨fuel, cl, mk, q, n, out, t⟩ ⟨g1, g2, g3, g4, g5, g6, g7⟩
        simp only at g1 g2 g3 g4 g5 g6 g7 ⊢
        obtain ⟨f, rfl⟩ : ∃ f, fuel = f + 1 := ⟨fuel - 1, by omega⟩
        obtain ⟨nn, hnn⟩ : ∃ nn, nn = 73 - cl - (if q = true then 1 else 0) := ⟨_, rfl⟩
        obtain ⟨fr, hfr⟩ : ∃ fr, fr = frontE mk cl q := ⟨_, rfl⟩
        have hml : mk.length = 1 := by rcases g3 with rfl | rfl <;> rfl
        have hfl := front_len (q := q) hml (show 8 ≤ cl by omega)
        have hfl2 := front_last (q := q) g3 g2
        rw [← hfr] at hfl hfl2 ⊢
        have hnn2 : 60 ≤ nn ∧ nn ≤ 65 ∧ fr.length + nn = 66 := by rw [hnn, hfl]; split <;> omega
        have hdz : digZ (n + 1) = digs ((n + 1) % 1000000) := dig_eq (by omega) (by omega)
        have hdl : (digZ (n + 1)).length ≤ 6 := by rw [hdz]; exact digs_len _
        have hl6 : ([48, 48, 48, 48, 48, 48] : Str).length = 6 := rfl
        have htl : 0 < t.length := List.length_pos_iff.2 g6.1
        have hz6 : (([48, 48, 48, 48, 48, 48] : Str).drop ((0 : Nat) : Int).toNat).take ((6 - ((digZ (n + 1)).length : Int)).toNat - ((0 : Nat) : Int).toNat) = List.replicate (6 - (digZ (n + 1)).length) 48 := by
          rw [show (6 - ((digZ (n + 1)).length : Int)).toNat - ((0 : Nat) : Int).toNat = 6 - (digZ (n + 1)).length by omega]
          obtain ⟨j, hj⟩ : ∃ j, j = 6 - (digZ (n + 1)).length := ⟨_, rfl⟩
          rw [← hj]
          have : j ≤ 6 := by omega
          match j, this with
          | 0, _ => rfl
          | 1, _ => rfl
          | 2, _ => rfl
          | 3, _ => rfl
          | 4, _ => rfl
          | 5, _ => rfl
          | 6, _ => rfl
        have hroom : (66 : Int) - (fr.length : Int) = (nn : Int) := by omega
        have hfl3 : decide (((fr.getD ((fr.length : Int) - 1).toNat 0).toNat : Int) = 34) = q := by
          rw [show ((fr.length : Int) - 1).toNat = fr.length - 1 by omega, ← hfl2, decide_eq_decide]
          omega
        obtain ⟨d, hd⟩ : ∃ d, d = divE t nn q := ⟨_, rfl⟩
        have hd1 : ¬ t.length ≤ nn → d.1 ≤ t.length := by
          intro hsh
          rw [hd, divE_eq]
          split
          · exact (spaceE_le t nn q).2
          · simp only; omega
        have hout : ∀ x : Str, out ++ List.replicate (6 - (digZ (n + 1)).length) 48 ++ digZ (n + 1) ++ fr ++ x ++ [10] = out ++ outE (n + 1) mk cl ((if q = true then [34] else []) ++ x) := by
          intro x
          rw [hfr, hdz]
          unfold outE frontE
          simp only [List.append_assoc]
        have ht1 : (t.drop ((0 : Nat) : Int).toNat).take ((d.1 : Int).toNat - ((0 : Nat) : Int).toNat) = t.take d.1 := by rw [Int.toNat_natCast]; rfl
        have ht2 : (t.drop (d.1 : Int).toNat).take ((t.length : Int).toNat - (d.1 : Int).toNat) = t.drop d.1 := by rw [Int.toNat_natCast, Int.toNat_natCast, List.take_of_length_le (by simp)]
        have hfrl : fr.length ≤ 10 := by rw [hfl]; split <;> omega
        have hlr : (List.replicate (6 - (digZ (n + 1)).length) (48 : UInt8)).length ≤ 6 := by simp
        refine awp_seq ?_
        -- region 14  law.go:118
        refine awp_rseq [2, 7, 8, 9, 10, 11, 12, 13, 14, 67] (by rfl) fun K hK => ?_
        simp (decide := true) only [aOps_nil, ev, absV, absS, putD, Slots.put, Slots.get, Slots.keep, if_true, if_false, true_and, ↓ap_move, pop_move, ↓ap_binOp, pop_binOp, isNilC_str, cond_false, pBinX_str, pS_neq]
        repeat (with_reducible refine And.intro ?_ ?_; · first | trivial | omega | (intro hg; simp only [Bool.and_eq_true, Bool.or_eq_true, Bool.not_eq_true', Bool.and_eq_false_iff, Bool.or_eq_false_iff, Bool.not_eq_false', decide_eq_true_eq, decide_eq_false_iff_not, eqNil] at hg; omega) | (simp only [List.length_append, List.length_map, List.length_range, List.length_replicate, List.length_take, List.length_drop, List.length_cons, List.length_nil, List.length_set, List.length_reverse]; omega))
        apply hK; clear hK K
        refine awp_cond (b := _) rfl (fun hb4 => ?_) (fun hb4 => ?_)
        · try simp only [decide_eq_false_iff_not, Bool.not_eq_true'] at hb4
          refine awp_skip ?_
          change Awp _ _ _ _ _ _ _
          refine awp_block ?_
          -- region 15  law.go:119
          refine awp_rseq [2, 7, 8, 9, 10, 11, 12, 13, 14] (by rfl) fun K hK => ?_
          simp (decide := true) only [aOps_nil, ev, absV, absS, putD, Slots.put, Slots.get, Slots.keep, if_true, if_false, true_and, ↓ap_move, pop_move, ↓ap_binOp, pop_binOp, isNilC_int, cond_false, pBinX_int, pI_add, ↓ap_assign, pop_assign]
          try simp (disch := omega) only [wrap_i64]
          repeat (with_reducible refine And.intro ?_ ?_; · first | trivial | omega | (intro hg; simp only [Bool.and_eq_true, Bool.or_eq_true, Bool.not_eq_true', Bool.and_eq_false_iff, Bool.or_eq_false_iff, Bool.not_eq_false', decide_eq_true_eq, decide_eq_false_iff_not, eqNil] at hg; omega) | (simp only [List.length_append, List.length_map, List.length_range, List.length_replicate, List.length_take, List.length_drop, List.length_cons, List.length_nil, List.length_set, List.length_reverse]; omega))
          apply hK; clear hK K
          -- region 16  law.go:120
          refine awp_dseq_any [2, 7, 8, 9, 10, 11, 12, 13, 14] mixed (by kernel_rfl) (by rfl) fun K hK => ?_
          simp (decide := true) only [ev, putD, Slots.put, Slots.get, if_true, if_false, true_and, ↓vp_move, pop_move]
          repeat (with_reducible refine And.intro ?_ ?_; · first | trivial | omega | (intro hg; simp only [Bool.and_eq_true, Bool.or_eq_true, Bool.not_eq_true', Bool.and_eq_false_iff, Bool.or_eq_false_iff, Bool.not_eq_false', decide_eq_true_eq, decide_eq_false_iff_not, eqNil] at hg; omega) | (simp only [List.length_append, List.length_map, List.length_range, List.length_replicate, List.length_take, List.length_drop, List.length_cons, List.length_nil, List.length_set, List.length_reverse]; omega))
          refine vOps_callV (V := .str (digZ (n + 1))) (by rfl) (by rfl) (c_digits w₀ _ (n + 1) (by omega)) ?_
          simp (decide := true) only [ev, absV, absS, putD, Slots.put, Slots.get, if_true, if_false, true_and, ↓vp_len, pop_len, pLen_str Tryd.underlying9, ↓vp_binOp, pop_binOp, isNilC_tmp, cond_false, pBinX_int, pI_sub, ↓vp_slice, pop_slice, evO, pSliceS_0i Tryd.underlying9, pSliceS, bndA_none, bndA_int, pBinX_str, pS_add, ↓vp_move, pop_move, hl6]
          try simp (disch := omega) only [wrap_i64]
          repeat (with_reducible refine And.intro ?_ ?_; · first | trivial | omega | (intro hg; simp only [Bool.and_eq_true, Bool.or_eq_true, Bool.not_eq_true', Bool.and_eq_false_iff, Bool.or_eq_false_iff, Bool.not_eq_false', decide_eq_true_eq, decide_eq_false_iff_not, eqNil] at hg; omega) | (simp only [List.length_take, List.length_drop, List.length_cons, List.length_nil]; omega))
          refine vOps_callV (V := .str (digZ (n + 1))) (by rfl) (by rfl) (c_digits w₀ _ (n + 1) (by omega)) ?_
          simp (decide := true) only [vOps_nil, ev, putD, Slots.put, Slots.get, Slots.keep, if_true, if_false, true_and, ↓vp_binOp, pop_binOp, isNilC_tmp, cond_false, pBinX_str, pS_add, ↓vp_move, pop_move, ↓vp_assign, pop_assign, hz6]
          repeat (with_reducible refine And.intro ?_ ?_; · first | trivial | omega | (intro hg; simp only [Bool.and_eq_true, Bool.or_eq_true, Bool.not_eq_true', Bool.and_eq_false_iff, Bool.or_eq_false_iff, Bool.not_eq_false', decide_eq_true_eq, decide_eq_false_iff_not, eqNil] at hg; omega) | (simp only [List.length_append, List.length_replicate]; omega))
          apply hK; clear hK K
          -- region 17  law.go:121
          refine awp_rseq [2, 7, 8, 9, 10, 11, 12, 13, 14, 15] (by rfl) fun K hK => ?_
          simp (decide := true) only [aOps_nil, ev, absV, absS, putD, Slots.put, Slots.get, Slots.keep, if_true, if_false, true_and, ↓ap_move, pop_move, ↓ap_len, pop_len, pLen_str Tryd.underlying9, ↓ap_binOp, pop_binOp, isNilC_tmp, cond_false, pBinX_int, pI_sub, ↓ap_assign, pop_assign, hroom]
          try simp (disch := omega) only [wrap_i64]
          repeat (with_reducible refine And.intro ?_ ?_; · first | trivial | omega | (intro hg; simp only [Bool.and_eq_true, Bool.or_eq_true, Bool.not_eq_true', Bool.and_eq_false_iff, Bool.or_eq_false_iff, Bool.not_eq_false', decide_eq_true_eq, decide_eq_false_iff_not, eqNil] at hg; omega) | (simp only [List.length_append, List.length_map, List.length_range, List.length_replicate, List.length_take, List.length_drop, List.length_cons, List.length_nil, List.length_set, List.length_reverse]; omega))
          apply hK; clear hK K
          refine awp_seq ?_
          -- region 18  law.go:122
          refine awp_rseq [2, 7, 8, 9, 10, 11, 12, 13, 14, 15, 88] (by rfl) fun K hK => ?_
          simp (decide := true) only [aOps_nil, ev, putD, Slots.put, Slots.get, Slots.keep, if_true, if_false, true_and, ↓ap_move, pop_move, ↓ap_len, pop_len, pLen_str Tryd.underlying9, ↓ap_binOp, pop_binOp, isNilC_tmp, cond_false, pBinX_int, pI_leq]
          repeat (with_reducible refine And.intro ?_ ?_; · first | trivial | omega | (intro hg; simp only [Bool.and_eq_true, Bool.or_eq_true, Bool.not_eq_true', Bool.and_eq_false_iff, Bool.or_eq_false_iff, Bool.not_eq_false', decide_eq_true_eq, decide_eq_false_iff_not, eqNil] at hg; omega) | (simp only [List.length_append, List.length_map, List.length_range, List.length_replicate, List.length_take, List.length_drop, List.length_cons, List.length_nil, List.length_set, List.length_reverse]; omega))
          apply hK; clear hK K
          refine awp_cond (b := _) rfl (fun hb5 => ?_) (fun hb5 => ?_)
          · try simp only [decide_eq_true_eq] at hb5
            have hsh : t.length ≤ nn := by omega
            rw [textE_short (by rw [← hnn]; exact hsh)] at g4
            -- region 19  law.go:123
            refine awp_rseq [2, 7, 8, 9, 10, 11, 12] (by rfl) fun K hK => ?_
            simp (decide := true) only [aOps_nil, ev, absV, absS, putD, Slots.put, Slots.get, Slots.keep, if_true, if_false, true_and, ↓ap_move, pop_move, ↓ap_binOp, pop_binOp, isNilC_tmp, cond_false, pBinX_str, pS_add, isNilC_str, ↓ap_assign, pop_assign]
            repeat (with_reducible refine And.intro ?_ ?_; · first | trivial | omega | (intro hg; simp only [Bool.and_eq_true, Bool.or_eq_true, Bool.not_eq_true', Bool.and_eq_false_iff, Bool.or_eq_false_iff, Bool.not_eq_false', decide_eq_true_eq, decide_eq_false_iff_not, eqNil] at hg; omega) | (simp only [List.length_append, List.length_replicate, List.length_cons, List.length_nil]; omega))
            apply hK; clear hK K
            refine awp_exit ?_
            change Awp _ _ _ _ _ _ _
            -- region 9  law.go:112
            refine awp_r [2, 7, 8, 9, 10, 11, 12] (by rfl) ?_
            simp (decide := true) only [aOps_nil, ev, absV, absS, putD, Slots.put, Slots.get, Slots.keep, if_true, if_false, true_and, ↓ap_move, pop_move, ↓ap_binOp, pop_binOp, isNilC_int, cond_false, pBinX_int, pI_add, ↓ap_assign, pop_assign]
            try simp (disch := omega) only [wrap_i64]
            repeat (with_reducible refine And.intro ?_ ?_; · first | trivial | omega | (intro hg; simp only [Bool.and_eq_true, Bool.or_eq_true, Bool.not_eq_true', Bool.and_eq_false_iff, Bool.or_eq_false_iff, Bool.not_eq_false', decide_eq_true_eq, decide_eq_false_iff_not, eqNil] at hg; omega) | (simp only [List.length_append, List.length_map, List.length_range, List.length_replicate, List.length_take, List.length_drop, List.length_cons, List.length_nil, List.length_set, List.length_reverse]; omega))
            try simp only [thenA_normal]
            refine ⟨i + 1, ?_, Sub.refl _, by omega, by omega⟩
            rw [← g4, ← hout t]
            rfl
          · try simp only [decide_eq_false_iff_not] at hb5
            have hsh : ¬ t.length ≤ nn := by omega
            have hdl1 := hd1 hsh
            have htk : (t.take d.1).length ≤ 66 + t.length := by simp; omega
            refine awp_skip ?_
            change Awp _ _ _ _ _ _ _
            -- region 20  law.go:126
            refine awp_rseq [2, 7, 8, 9, 10, 11, 12, 13, 14, 16, 17] (by rfl) fun K hK => ?_
            simp (decide := true) only [ev, absV, absS, putD, Slots.put, Slots.get, if_true, if_false, true_and, ↓ap_move, pop_move, ↓ap_len, pop_len, pLen_str Tryd.underlying9, ↓ap_binOp, pop_binOp, isNilC_int, cond_false, pBinX_int, pI_sub]
            try simp (disch := omega) only [wrap_i64]
            try simp (decide := true) only [ev, absV, absS, putD, Slots.put, Slots.get, if_true, if_false, true_and, ↓ap_index, pop_index, pIndex_str Tryd.underlying9, ↓ap_binOp, pop_binOp, isNilC_int, cond_false, pBinX_int, pI_eql, hfl3]
            repeat (with_reducible refine And.intro ?_ ?_; · first | trivial | omega | (intro hg; simp only [Bool.and_eq_true, Bool.or_eq_true, Bool.not_eq_true', Bool.and_eq_false_iff, Bool.or_eq_false_iff, Bool.not_eq_false', decide_eq_true_eq, decide_eq_false_iff_not, eqNil] at hg; omega) | (simp only [List.length_append, List.length_map, List.length_range, List.length_replicate, List.length_take, List.length_drop, List.length_cons, List.length_nil, List.length_set, List.length_reverse]; omega))
            refine aOps_callV (V := .tuple [.int .i64 d.1, .bool d.2]) (by rfl) (by rfl) ((by rw [hd]; exact c_divide w₀ _ t nn q (by omega) (by omega))) ?_
            simp (decide := true) only [aOps_nil, ev, putD, Slots.put, Slots.get, Slots.keep, if_true, if_false, true_and, ↓ap_move, pop_move, ↓ap_extract, pop_extract, pExt_tuple, List.length_cons, List.length_nil, List.getD_cons_zero, List.getD_cons_succ, ↓ap_assign, pop_assign, List.getD_cons_zero, List.getD_cons_succ, Nat.zero_add, Nat.reduceAdd]
            repeat (with_reducible refine And.intro ?_ ?_; · first | trivial | omega | (intro hg; simp only [Bool.and_eq_true, Bool.or_eq_true, Bool.not_eq_true', Bool.and_eq_false_iff, Bool.or_eq_false_iff, Bool.not_eq_false', decide_eq_true_eq, decide_eq_false_iff_not, eqNil] at hg; omega) | (simp only [List.length_append, List.length_map, List.length_range, List.length_replicate, List.length_take, List.length_drop, List.length_cons, List.length_nil, List.length_set, List.length_reverse]; omega))
            apply hK; clear hK K
            -- region 21  law.go:127
            refine awp_rseq [2, 7, 8, 9, 10, 11, 12, 13, 14, 16, 17] (by rfl) fun K hK => ?_
            simp (decide := true) only [aOps_nil, ev, absV, absS, putD, Slots.put, Slots.get, Slots.keep, if_true, if_false, true_and, ↓ap_move, pop_move, ↓ap_slice, pop_slice, evO, pSliceS_0i Tryd.underlying9, pSliceS, bndA_none, bndA_int, ↓ap_binOp, pop_binOp, isNilC_tmp, cond_false, pBinX_str, pS_add, isNilC_str, ↓ap_assign, pop_assign, ht1]
            repeat (with_reducible refine And.intro ?_ ?_; · first | trivial | omega | (intro hg; simp only [Bool.and_eq_true, Bool.or_eq_true, Bool.not_eq_true', Bool.and_eq_false_iff, Bool.or_eq_false_iff, Bool.not_eq_false', decide_eq_true_eq, decide_eq_false_iff_not, eqNil] at hg; omega) | (simp only [List.length_append, List.length_replicate, List.length_take, List.length_cons, List.length_nil]; omega))
            apply hK; clear hK K
            -- region 22  law.go:128
            refine awp_dseq_any [2, 7, 8, 9, 10, 11, 12, 13, 16, 17, 18] mixed (by kernel_rfl) (by rfl) fun K hK => ?_
            simp (decide := true) only [ev, putD, Slots.put, Slots.get, if_true, if_false, true_and, ↓vp_move, pop_move, ↓vp_slice, pop_slice, evO, pSliceS_0i Tryd.underlying9, pSliceS, bndA_none, bndA_int, ht1]
            repeat (with_reducible refine And.intro ?_ ?_; · first | trivial | omega | (intro hg; simp only [Bool.and_eq_true, Bool.or_eq_true, Bool.not_eq_true', Bool.and_eq_false_iff, Bool.or_eq_false_iff, Bool.not_eq_false', decide_eq_true_eq, decide_eq_false_iff_not, eqNil] at hg; omega) | (simp only [List.length_append, List.length_map, List.length_range, List.length_replicate, List.length_take, List.length_drop, List.length_cons, List.length_nil, List.length_set, List.length_reverse]; omega))
            refine vOps_callV (V := .bool (oddQ (t.take d.1))) (by rfl) (by rfl) (c_Open w₀ _ _ (by simp; omega)) ?_
            simp (decide := true) only [vOps_nil, ev, absV, absS, putD, Slots.put, Slots.get, Slots.keep, if_true, if_false, true_and, ↓vp_move, pop_move, ↓vp_len, pop_len, pLen_str Tryd.underlying9, ↓vp_binOp, pop_binOp, isNilC_int, cond_false, pBinX_int, pI_sub, ↓vp_index, pop_index, pIndex_str Tryd.underlying9, pI_eql, isNilC_tmp, pBinX_bne, Tryd.underlying4, ↓vp_assign, pop_assign]
            try simp (disch := omega) only [wrap_i64]
            repeat (with_reducible refine And.intro ?_ ?_; · first | trivial | omega | (intro hg; simp only [Bool.and_eq_true, Bool.or_eq_true, Bool.not_eq_true', Bool.and_eq_false_iff, Bool.or_eq_false_iff, Bool.not_eq_false', decide_eq_true_eq, decide_eq_false_iff_not, eqNil] at hg; omega) | (simp only [List.length_append, List.length_map, List.length_range, List.length_replicate, List.length_take, List.length_drop, List.length_cons, List.length_nil, List.length_set, List.length_reverse]; omega))
            apply hK; clear hK K
            -- region 23  law.go:129
            refine awp_rseq [2, 7, 8, 9, 10, 11, 12, 13, 17, 18] (by rfl) fun K hK => ?_
            simp (decide := true) only [aOps_nil, ev, putD, Slots.put, Slots.get, Slots.keep, if_true, if_false, true_and, ↓ap_move, pop_move, ↓ap_slice, pop_slice, evO, pSliceS_i0 Tryd.underlying9, pSliceS, bndA_none, bndA_int, ↓ap_assign, pop_assign, hfl3, ht2]
            repeat (with_reducible refine And.intro ?_ ?_; · first | trivial | omega | (intro hg; simp only [Bool.and_eq_true, Bool.or_eq_true, Bool.not_eq_true', Bool.and_eq_false_iff, Bool.or_eq_false_iff, Bool.not_eq_false', decide_eq_true_eq, decide_eq_false_iff_not, eqNil] at hg; omega) | (simp only [List.length_append, List.length_map, List.length_range, List.length_replicate, List.length_take, List.length_drop, List.length_cons, List.length_nil, List.length_set, List.length_reverse]; omega))
            apply hK; clear hK K
            -- region 24  law.go:130
            refine awp_rseq [2, 7, 8, 9, 10, 11, 12, 13, 14, 17, 18] (by rfl) fun K hK => ?_
            refine aOps_callV (V := .str (sp 4)) (by rfl) (by rfl) (c_spaces w₀ _ 4 (by decide)) ?_
            simp (decide := true) only [aOps_nil, ev, absV, absS, putD, Slots.put, Slots.get, Slots.keep, if_true, if_false, true_and, ↓ap_binOp, pop_binOp, isNilC_tmp, cond_false, pBinX_str, pS_add, ↓ap_assign, pop_assign]
            repeat (with_reducible refine And.intro ?_ ?_; · first | trivial | omega | (intro hg; simp only [Bool.and_eq_true, Bool.or_eq_true, Bool.not_eq_true', Bool.and_eq_false_iff, Bool.or_eq_false_iff, Bool.not_eq_false', decide_eq_true_eq, decide_eq_false_iff_not, eqNil] at hg; omega) | (simp only [List.length_append, List.length_map, List.length_range, List.length_replicate, List.length_take, List.length_drop, List.length_cons, List.length_nil, List.length_set, List.length_reverse]; omega))
            apply hK; clear hK K
            -- region 25  law.go:131
            refine awp_rseq [2, 7, 8, 9, 10, 11, 12, 13, 14, 18, 127] (by rfl) fun K hK => ?_
            simp (decide := true) only [aOps_nil, ev, putD, Slots.put, Slots.get, Slots.keep, if_true, if_false, true_and, ↓ap_move, pop_move]
            repeat (with_reducible refine And.intro ?_ ?_; · first | trivial | omega | (intro hg; simp only [Bool.and_eq_true, Bool.or_eq_true, Bool.not_eq_true', Bool.and_eq_false_iff, Bool.or_eq_false_iff, Bool.not_eq_false', decide_eq_true_eq, decide_eq_false_iff_not, eqNil] at hg; omega) | (simp only [List.length_append, List.length_map, List.length_range, List.length_replicate, List.length_take, List.length_drop, List.length_cons, List.length_nil, List.length_set, List.length_reverse]; omega))
            apply hK; clear hK K
            refine awp_cond (b := _) rfl (fun hb6 => ?_) (fun hb6 => ?_)
            · try simp only [decide_eq_true_eq, decide_eq_false_iff_not, Bool.not_eq_true', Bool.not_eq_false', Bool.and_eq_true, Bool.and_eq_false_iff, Bool.or_eq_true, Bool.or_eq_false_iff, Bool.true_eq, Bool.false_eq, reduceCtorEq] at hb6
              have hsp : 0 < spaceE t nn q ∧ d.1 = spaceE t nn q := by
                by_cases hq : 0 < spaceE t nn q
                · rw [hd, divE_eq, if_pos hq]; exact ⟨hq, rfl⟩
                · rw [hd, divE_eq, if_neg hq] at hb6; cases hb6
              have hkl : d.1 < t.length := by
                have := spaceE_cut t q nn hsp.1
                unfold cutAt at this
                simp only [Bool.and_eq_true, decide_eq_true_eq] at this
                omega
              have hkn : d.1 ≤ nn := by have := (spaceE_le t nn q).1; omega
              have htq := trimL_le (t.drop d.1)
              rw [List.length_drop] at htq
              rw [textE_space (by rw [← hnn]; exact hsh) (by rw [← hnn]; exact hsp.1), ← hnn, ← hsp.2] at g4
              -- region 26  law.go:132
              refine awp_r [2, 7, 8, 9, 10, 11, 12, 13, 14] (by rfl) ?_
              simp (decide := true) only [ev, putD, Slots.put, Slots.get, if_true, if_false, true_and, ↓ap_move, pop_move]
              repeat (with_reducible refine And.intro ?_ ?_; · first | trivial | omega | (intro hg; simp only [Bool.and_eq_true, Bool.or_eq_true, Bool.not_eq_true', Bool.and_eq_false_iff, Bool.or_eq_false_iff, Bool.not_eq_false', decide_eq_true_eq, decide_eq_false_iff_not, eqNil] at hg; omega) | (simp only [List.length_append, List.length_map, List.length_range, List.length_replicate, List.length_take, List.length_drop, List.length_cons, List.length_nil, List.length_set, List.length_reverse]; omega))
              refine aOps_callV (V := .str (trimL (t.drop d.1))) (by rfl) (by rfl) (c_trimL w₀ _ _) ?_
              simp (decide := true) only [aOps_nil, ev, putD, Slots.put, Slots.get, Slots.keep, if_true, if_false, true_and, ↓ap_assign, pop_assign]
              repeat (with_reducible refine And.intro ?_ ?_; · first | trivial | omega | (intro hg; simp only [Bool.and_eq_true, Bool.or_eq_true, Bool.not_eq_true', Bool.and_eq_false_iff, Bool.or_eq_false_iff, Bool.not_eq_false', decide_eq_true_eq, decide_eq_false_iff_not, eqNil] at hg; omega) | (simp only [List.length_append, List.length_map, List.length_range, List.length_replicate, List.length_take, List.length_drop, List.length_cons, List.length_nil, List.length_set, List.length_reverse]; omega))
              try simp only [thenA_normal, inBlockA_normal]
              have hol : (out ++ List.replicate (6 - (digZ (n + 1)).length) 48 ++ digZ (n + 1) ++ fr ++ t.take d.1 ++ [10]).length ≤ out.length + 90 := by
                simp only [List.length_append, List.length_replicate, List.length_take, List.length_cons, List.length_nil]; omega
              first
              | (refine ⟨⟨f, 12, [32], false, n + 1, out ++ List.replicate (6 - (digZ (n + 1)).length) 48 ++ digZ (n + 1) ++ fr ++ t.take d.1 ++ [10], trimL (t.drop d.1)⟩, rfl, Sub.refl _, ⟨?_, .inr rfl, .inl rfl, ?_, ?_, lastOk_trimL (lastOk_drop g6 hkl), ?_⟩, Nat.lt_succ_self _⟩
                 · simp only; omega
                 · simp only; rw [hout]; exact g4
                 · simp only; omega
                 · simp only; omega)
              | (refine ⟨⟨f, 12, [45], true, n + 1, out ++ List.replicate (6 - (digZ (n + 1)).length) 48 ++ digZ (n + 1) ++ fr ++ t.take d.1 ++ [10], t.drop d.1⟩, rfl, Sub.refl _, ⟨?_, .inr rfl, .inr rfl, ?_, ?_, lastOk_drop g6 hkl, ?_⟩, Nat.lt_succ_self _⟩
                 · simp only; omega
                 · simp only; rw [hout]; rw [show (q != oddQ (t.take d.1)) = true by cases q <;> cases hqq : oddQ (t.take d.1) <;> rw [hqq] at hb7 <;> first | rfl | (simp at hb7)] at g4; exact g4
                 · simp only; omega
                 · simp only; omega)
              | (refine ⟨⟨f, 12, [45], false, n + 1, out ++ List.replicate (6 - (digZ (n + 1)).length) 48 ++ digZ (n + 1) ++ fr ++ t.take d.1 ++ [10], t.drop d.1⟩, rfl, Sub.refl _, ⟨?_, .inr rfl, .inr rfl, ?_, ?_, lastOk_drop g6 hkl, ?_⟩, Nat.lt_succ_self _⟩
                 · simp only; omega
                 · simp only; rw [hout]; rw [show (q != oddQ (t.take d.1)) = false by cases q <;> cases hqq : oddQ (t.take d.1) <;> rw [hqq] at hb7 <;> first | rfl | (simp at hb7)] at g4; exact g4
                 · simp only; omega
                 · simp only; omega)
            · try simp only [decide_eq_true_eq, decide_eq_false_iff_not, Bool.not_eq_true', Bool.not_eq_false', Bool.and_eq_true, Bool.and_eq_false_iff, Bool.or_eq_true, Bool.or_eq_false_iff, Bool.true_eq, Bool.false_eq, reduceCtorEq] at hb6
              have hsp : ¬ 0 < spaceE t nn q ∧ d.1 = nn := by
                by_cases hq : 0 < spaceE t nn q
                · rw [hd, divE_eq, if_pos hq] at hb6; cases hb6
                · rw [hd, divE_eq, if_neg hq]; exact ⟨hq, rfl⟩
              have hkl : d.1 < t.length := by omega
              have hkn : d.1 ≤ nn := by omega
              have htq := List.length_drop (i := d.1) (l := t)
              rw [textE_cut (by rw [← hnn]; exact hsh) (by rw [← hnn]; exact hsp.1), ← hnn, ← hsp.2] at g4
              -- region 27  law.go:134
              refine awp_rseq [2, 7, 8, 9, 10, 11, 12, 13, 14, 18] (by rfl) fun K hK => ?_
              refine aOps_callV (V := .str (sp 4)) (by rfl) (by rfl) (c_spaces w₀ _ 4 (by decide)) ?_
              simp (decide := true) only [aOps_nil, ev, absV, absS, putD, Slots.put, Slots.get, Slots.keep, if_true, if_false, true_and, ↓ap_binOp, pop_binOp, isNilC_tmp, cond_false, pBinX_str, pS_add, ↓ap_assign, pop_assign]
              repeat (with_reducible refine And.intro ?_ ?_; · first | trivial | omega | (intro hg; simp only [Bool.and_eq_true, Bool.or_eq_true, Bool.not_eq_true', Bool.and_eq_false_iff, Bool.or_eq_false_iff, Bool.not_eq_false', decide_eq_true_eq, decide_eq_false_iff_not, eqNil] at hg; omega) | (simp only [List.length_append, List.length_map, List.length_range, List.length_replicate, List.length_take, List.length_drop, List.length_cons, List.length_nil, List.length_set, List.length_reverse]; omega))
              apply hK; clear hK K
              -- region 28  law.go:135
              refine awp_rseq [2, 7, 8, 9, 10, 11, 12, 13, 14, 132] (by rfl) fun K hK => ?_
              simp (decide := true) only [aOps_nil, ev, putD, Slots.put, Slots.get, Slots.keep, if_true, if_false, true_and, ↓ap_move, pop_move]
              repeat (with_reducible refine And.intro ?_ ?_; · first | trivial | omega | (intro hg; simp only [Bool.and_eq_true, Bool.or_eq_true, Bool.not_eq_true', Bool.and_eq_false_iff, Bool.or_eq_false_iff, Bool.not_eq_false', decide_eq_true_eq, decide_eq_false_iff_not, eqNil] at hg; omega) | (simp only [List.length_append, List.length_map, List.length_range, List.length_replicate, List.length_take, List.length_drop, List.length_cons, List.length_nil, List.length_set, List.length_reverse]; omega))
              apply hK; clear hK K
              refine awp_cond (b := _) rfl (fun hb7 => ?_) (fun hb7 => ?_)
              · try simp only [Bool.not_eq_true'] at hb7
                -- region 29  law.go:136
                refine awp_r [2, 7, 8, 9, 10, 11, 12, 13, 14] (by rfl) ?_
                simp (decide := true) only [aOps_nil, ev, absV, absS, putD, Slots.put, Slots.get, Slots.keep, if_true, if_false, true_and, ↓ap_move, pop_move, ↓ap_binOp, pop_binOp, isNilC_str, cond_false, pBinX_str, pS_add, ↓ap_assign, pop_assign]
                repeat (with_reducible refine And.intro ?_ ?_; · first | trivial | omega | (intro hg; simp only [Bool.and_eq_true, Bool.or_eq_true, Bool.not_eq_true', Bool.and_eq_false_iff, Bool.or_eq_false_iff, Bool.not_eq_false', decide_eq_true_eq, decide_eq_false_iff_not, eqNil] at hg; omega) | (simp only [List.length_append, List.length_map, List.length_range, List.length_replicate, List.length_take, List.length_drop, List.length_cons, List.length_nil, List.length_set, List.length_reverse]; omega))
                try simp only [thenA_normal, inBlockA_normal]
                have hol : (out ++ List.replicate (6 - (digZ (n + 1)).length) 48 ++ digZ (n + 1) ++ fr ++ t.take d.1 ++ [10]).length ≤ out.length + 90 := by
                  simp only [List.length_append, List.length_replicate, List.length_take, List.length_cons, List.length_nil]; omega
                first
                | (refine ⟨⟨f, 12, [32], false, n + 1, out ++ List.replicate (6 - (digZ (n + 1)).length) 48 ++ digZ (n + 1) ++ fr ++ t.take d.1 ++ [10], trimL (t.drop d.1)⟩, rfl, Sub.refl _, ⟨?_, .inr rfl, .inl rfl, ?_, ?_, lastOk_trimL (lastOk_drop g6 hkl), ?_⟩, Nat.lt_succ_self _⟩
                   · simp only; omega
                   · simp only; rw [hout]; exact g4
                   · simp only; omega
                   · simp only; omega)
                | (refine ⟨⟨f, 12, [45], true, n + 1, out ++ List.replicate (6 - (digZ (n + 1)).length) 48 ++ digZ (n + 1) ++ fr ++ t.take d.1 ++ [10], t.drop d.1⟩, rfl, Sub.refl _, ⟨?_, .inr rfl, .inr rfl, ?_, ?_, lastOk_drop g6 hkl, ?_⟩, Nat.lt_succ_self _⟩
                   · simp only; omega
                   · simp only; rw [hout]; rw [show (q != oddQ (t.take d.1)) = true by cases q <;> cases hqq : oddQ (t.take d.1) <;> rw [hqq] at hb7 <;> first | rfl | (simp at hb7)] at g4; exact g4
                   · simp only; omega
                   · simp only; omega)
                | (refine ⟨⟨f, 12, [45], false, n + 1, out ++ List.replicate (6 - (digZ (n + 1)).length) 48 ++ digZ (n + 1) ++ fr ++ t.take d.1 ++ [10], t.drop d.1⟩, rfl, Sub.refl _, ⟨?_, .inr rfl, .inr rfl, ?_, ?_, lastOk_drop g6 hkl, ?_⟩, Nat.lt_succ_self _⟩
                   · simp only; omega
                   · simp only; rw [hout]; rw [show (q != oddQ (t.take d.1)) = false by cases q <;> cases hqq : oddQ (t.take d.1) <;> rw [hqq] at hb7 <;> first | rfl | (simp at hb7)] at g4; exact g4
                   · simp only; omega
                   · simp only; omega)
              · try simp only [Bool.not_eq_false'] at hb7
                refine awp_skip ?_
                try simp only [thenA_normal, inBlockA_normal]
                have hol : (out ++ List.replicate (6 - (digZ (n + 1)).length) 48 ++ digZ (n + 1) ++ fr ++ t.take d.1 ++ [10]).length ≤ out.length + 90 := by
                  simp only [List.length_append, List.length_replicate, List.length_take, List.length_cons, List.length_nil]; omega
                first
                | (refine ⟨⟨f, 12, [32], false, n + 1, out ++ List.replicate (6 - (digZ (n + 1)).length) 48 ++ digZ (n + 1) ++ fr ++ t.take d.1 ++ [10], trimL (t.drop d.1)⟩, rfl, Sub.refl _, ⟨?_, .inr rfl, .inl rfl, ?_, ?_, lastOk_trimL (lastOk_drop g6 hkl), ?_⟩, Nat.lt_succ_self _⟩
                   · simp only; omega
                   · simp only; rw [hout]; exact g4
                   · simp only; omega
                   · simp only; omega)
                | (refine ⟨⟨f, 12, [45], true, n + 1, out ++ List.replicate (6 - (digZ (n + 1)).length) 48 ++ digZ (n + 1) ++ fr ++ t.take d.1 ++ [10], t.drop d.1⟩, rfl, Sub.refl _, ⟨?_, .inr rfl, .inr rfl, ?_, ?_, lastOk_drop g6 hkl, ?_⟩, Nat.lt_succ_self _⟩
                   · simp only; omega
                   · simp only; rw [hout]; rw [show (q != oddQ (t.take d.1)) = true by cases q <;> cases hqq : oddQ (t.take d.1) <;> rw [hqq] at hb7 <;> first | rfl | (simp at hb7)] at g4; exact g4
                   · simp only; omega
                   · simp only; omega)
                | (refine ⟨⟨f, 12, [45], false, n + 1, out ++ List.replicate (6 - (digZ (n + 1)).length) 48 ++ digZ (n + 1) ++ fr ++ t.take d.1 ++ [10], t.drop d.1⟩, rfl, Sub.refl _, ⟨?_, .inr rfl, .inr rfl, ?_, ?_, lastOk_drop g6 hkl, ?_⟩, Nat.lt_succ_self _⟩
                   · simp only; omega
                   · simp only; rw [hout]; rw [show (q != oddQ (t.take d.1)) = false by cases q <;> cases hqq : oddQ (t.take d.1) <;> rw [hqq] at hb7 <;> first | rfl | (simp at hb7)] at g4; exact g4
                   · simp only; omega
                   · simp only; omega)
        · try simp only [decide_eq_true_eq, Bool.not_eq_false'] at hb4
          exact absurd hb4 g6.1
    · try simp only [decide_eq_false_iff_not] at hb2
      have hst : stp R0 R1 i = R1 := by rw [show i = 2 by omega]; rfl
      rw [hst]
      refine awp_exit ?_
      change Awp _ _ _ _ _ _ _
      -- region 30  law.go:141
      refine awp_rseq [6] (by rfl) fun K hK => ?_
      simp (decide := true) only [ev, absV, absS, putD, Slots.put, Slots.get, if_true, if_false, true_and, ↓ap_move, pop_move, ↓ap_binOp, pop_binOp, isNilC_int, cond_false, pBinX_int, pI_eql, ↓ag_move, agP, agQ_some, nthDst, gKnown_bool, guardB_bool_true, implies_true, decide_true, condV_true, Bool.and_true, ↓ag_binOp, isNilC_tmp, pBinX_str, pS_eql, ↓ap_pick, pop_pick, pPick_bool, pickV_and, Bool.and_true]
      repeat (with_reducible refine And.intro ?_ ?_; · first | trivial | omega | (intro hg; simp only [Bool.and_eq_true, Bool.or_eq_true, Bool.not_eq_true', Bool.and_eq_false_iff, Bool.or_eq_false_iff, Bool.not_eq_false', decide_eq_true_eq, decide_eq_false_iff_not, eqNil] at hg; omega) | (simp only [List.length_append, List.length_map, List.length_range, List.length_replicate, List.length_take, List.length_drop, List.length_cons, List.length_nil, List.length_set, List.length_reverse]; omega))
      first
      | (refine aOps_yes (by rfl) ?_; refine aOps_callV (V := .bool true) (by rfl) (by rfl) (c_lives02 w₀ hm ht10 _) ?_)
      | (refine aOps_gcall (V := .bool true) (f := _) (cap := _) (xs := _) rfl (fun hg => ⟨rfl, ?_⟩) (fun hg => c_lives02 w₀ hm ht10 _) ?_; · (simp (decide := true) only [gv, nthDst, Slots.get, if_true, if_false, guardB_bool_true, guardB_bool_false, guardB_cond, Bool.not_not] at hg; simp (decide := true) only [evs, ev, Slots.get, if_true, if_false, hg, condV_true, List.append_nil, List.map_cons, List.map_nil, absV, absS] <;> try rfl))
      simp (decide := true) only [aOps_nil, ev, absV, absS, putD, Slots.put, Slots.get, Slots.keep, if_true, if_false, true_and, ↓ap_pick, pop_pick, pPick_bool, pickV_and, ↓ap_assign, pop_assign, Bool.and_true]
      repeat (with_reducible refine And.intro ?_ ?_; · first | trivial | omega | (intro hg; simp only [Bool.and_eq_true, Bool.or_eq_true, Bool.not_eq_true', Bool.and_eq_false_iff, Bool.or_eq_false_iff, Bool.not_eq_false', decide_eq_true_eq, decide_eq_false_iff_not, eqNil] at hg; omega) | (simp only [List.length_append, List.length_map, List.length_range, List.length_replicate, List.length_take, List.length_drop, List.length_cons, List.length_nil, List.length_set, List.length_reverse]; omega))
      apply hK; clear hK K
      refine awp_ret ?_
      try simp only [thenA_ret, inBlockA_ret]
      refine retA_ret h (by repeat (first | exact Sub.refl _ | assumption | refine Sub.trans_set ?_ (by assumption))) (resPre_tmp (resPre_nil)) ?_
      simp (decide := true) only [Slots.get, if_true, and_true, resOf_one]
      all_goals first | rfl | exact ⟨rfl, rfl⟩ | (simp (decide := true) only [if_true, if_false, *]; done) | (trace_state; fail)
end Go.Proofs.YtikpnhdjjabdmaaDoor

/-
  The arguments of the statements, opened: booleans, texts, integers, pairs of bytes; the wrap that hands on the world's shape.
  Conditions: none.
-/
namespace Go.Proofs.YtikpnhdjjabdmaaDoor
open Go.AM
open Go.ChangeShapes Go.WideShapes Go.ChangeAt Go.RowKit
set_option maxRecDepth 100000

section
variable {H : Type} {enc : TypeId × Value → H} {W : World} {base : Nat} {v : Value} {x : DataW H × List MemPlace}
theorem arg_bool {t : TypeId} (ht : Tryd.prog.underlying t = some .bool) (hv : Value.okWide Tryd.prog W .any base t v) : ∃ b : Bool, VR (fun _ => none) (.bool b) v := by
  obtain ⟨b, rfl⟩ := okWide_bool ht hv
  exact ⟨b, by simp only [VR]⟩
theorem arg_str {t : TypeId} (ht : Tryd.prog.underlying t = some .string) (h : ∃ fuel, DataW.trod enc Tryd.prog W 0 (fun _ => true) true fuel t v.cells.toList = some x) (hv : Value.okWide Tryd.prog W .any base t v) :
    ∃ s : List UInt8, VR (fun _ => none) (.str s) v ∧ s.length ≤ 9223372036854775807 := by
  obtain ⟨fuel, hf⟩ := h
  obtain ⟨s, rfl⟩ := okWide_string ht hv
  obtain ⟨s', h, hx, hs⟩ := DataW.trod_string ht hf
  simp [Value.cells] at h
  subst h
  exact ⟨s.data.toList, VR_strArg _ s, str_le hs⟩
end

/-- The plain wrap of a row with listed variables, the world's shape handed on. -/
theorem returns_and_shaped {H : Type} {enc : TypeId × Value → H} {a : Assume} {C : Checked} {os : Os} {f : FuncId} {fn : Func} {s : ChangeSpec} {conds : List PathCond} {apart fresh handsOn again : Bool} {X : World → Array Value → Prop}
    (hX : ∀ (w w' : World) (args : Array Value), w.heap = w'.heap → X w args → X w' args)
    (own : ownKnob C.prog.godebug = none) (started : os.Started) (noInit : C.prog.inits.idxOf? f = none) (hfn : C.prog.funcs[f]? = some fn)
    (witness : ∃ (w : World) (tape : Tape) (i : Input), w.os = os ∧ (w.forCall tape i).Shaped C.prog ∧ i.vars = [] ∧ Input.okWide C.prog (w.forCall tape i) .any w.heap.size f i ∧
      ((s.pre enc C.prog fn conds apart (w.forCall tape i).memory i.args ∧ X (w.forCall tape i).memory i.args) ∧ sizedMet enc C.prog fn (OpenSpec.ofChange s) apart (w.forCall tape i).memory i.args) ∧ a.holds C.prog (lone (Frame.enter C.prog f i.args .normal) [] (w.forCall tape i)))
    (contract : ∀ (W : World) (base : Nat) (args : Array Value) (ds gs : List (DataW H)) (before : List MemPlace), W.ShapedOpen C.prog →
      (∀ (j : Nat) t v, fn.params[j]? = some t → args[j]? = some v → Value.okWide C.prog W .any base t v) →
      DataW.Whole enc C.prog fn.params.toList s.vars apart W args.toList ds gs before →
      conds.all (PathCond.test C.prog ⟨fn.params.toList, ds, s.plain.varTypes C.prog, gs⟩) = true →
      (DataW.weightsEach C.prog (fn.params.toList ++ s.plain.varTypes C.prog) (ds ++ gs)).all (· ≤ reachBytes) = true → X W args →
      a.holds C.prog (lone (Frame.enter C.prog f args .normal) [] W) →
      Calls C.prog f args W fun e W' => ∃ v, e = .returned v ∧ s.post enc C.prog fn apart fresh handsOn again W args v W') :
    ReturnsInHanded a C os f .any (fun w args => (s.pre enc C.prog fn conds apart w args ∧ X w args) ∧ sizedMet enc C.prog fn (OpenSpec.ofChange s) apart w args) (s.post enc C.prog fn apart fresh handsOn again) := by
  refine returnsInHanded_of_calls own started noInit witness ?_
  intro w tape i _ hsh _ hok hpre hholds
  obtain ⟨_, _, _, fn', hfn', _, _, _, _, hval⟩ := hok
  have e : fn' = fn := Option.some.inj (hfn'.symm.trans hfn)
  subst e
  obtain ⟨⟨⟨ds, gs, before, hw, hc⟩, hx⟩, hz⟩ := hpre
  have hw' := DataW.Whole.of_heap (w' := w.forCall tape i) (by rfl) hw
  refine (contract (w.forCall tape i) w.heap.size i.args ds gs before hsh hval hw' hc (hz.weights hw) (hX _ _ _ (by rfl) hx) hholds).mono fun e W' ⟨v, he, hp⟩ => ?_
  subst he
  exact ChangeSpec.post_blind hp
end Go.Proofs.YtikpnhdjjabdmaaDoor

/-
  What the world of a statement about columns gives: the listed table, the cell of the longest text.
  Conditions: none.
-/
namespace Go.Proofs.YtikpnhdjjabdmaaDoor
open Go.AM
open Go.ChangeShapes Go.WideShapes Go.ChangeAt Go.RowKit
set_option maxRecDepth 100000
/-- The listed table of powers of ten. -/
theorem tab_of {W : World} {rest : List (String × DataW Unit)} (h : laidMet Tryd.prog (("internal/strconv.uint64pow10", Rows.laid_internal_strconv_uint64pow10) :: rest) W) : Tab10 W :=
  Lib.tabIs_of_head (g := 3) (by kernel_rfl) (by kernel_rfl) (show Tryd.prog.underlying 138 = _ from Tryd.underlying138) Tryd.underlying116 (by kernel_rfl) (by kernel_rfl) h
theorem maxl_of {W : World} (h : W.ShapedOpen Tryd.prog) : MaxL W :=
  cell_of_shapedOpen_int (t := 3) (zero := #[.int .i64 0]) h (of_decide_eq_true (by kernel_rfl)) (by kernel_rfl) rfl (by kernel_rfl) (by kernel_rfl) Tryd.underlying3
end Go.Proofs.YtikpnhdjjabdmaaDoor

