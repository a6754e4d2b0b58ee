/-
  Texts of this proof, joined: CoO, CoP, CoQ, CoR, CoS, CoT, CoV, CoW, CoX, LwR, LwS.
  Conditions: none.
-/
import Derived.Test.YtikpnhdjjabdmaaDoorWd
import Derived.Test.YtikpnhdjjabdmaaDoorWc
import Derived.Test.YtikpnhdjjabdmaaDoorProg
import Derived.Test.YtikpnhdjjabdmaaDoorWb
import Derived.WalkKit
import Derived.ProofKit
import Derived.OpenShut
import Derived.ShutString
import Derived.ChangeOld
import Derived.Below
import Derived.Deep.Strs
import Derived.Handed
import Derived.HandedShaped
import Derived.Shelf.Vars
import Derived.Test.YtikpnhdjjabdmaaDoorRows
import Derived.Lib.LaidTab
import Derived.MakeChecks
set_option linter.unusedSimpArgs false
set_option linter.unnecessarySimpa false
set_option linter.unusedVariables false
/-
  Contracts: read of the laws.
  Conditions: none.
-/
namespace Go.Proofs.YtikpnhdjjabdmaaDoor
open Go.AM
open Go.Proofs
open Go.Col
set_option maxRecDepth 100000

theorem readL_small (dbg : Bool) : ∀ (ls : List Str) (n : Int) (x : Rd) (N : Nat), RdSm N x → RdSm (N + ls.length) (readL dbg ls n x).1
  | [], _, x, N, h => h
  | s :: ls, n, x, N, h => by
    have hl := (lineE_small (s := s) (line := n) (dbg := dbg)).1
    have e : N + (s :: ls).length = (N + 1) + ls.length := by rw [List.length_cons]; omega
    have up : ∀ k {y : Rd}, RdSm (N + 1) y → RdSm (N + 1 + k) y := fun k y hy => by
      induction k with
      | zero => exact hy
      | succ k ih => exact ih.next
    rw [readL]
    cases hp : lineE s n dbg with
    | mk r q =>
      obtain ⟨cn, f⟩ := q
      rw [hp] at hl
      simp only
      split
      · rw [e]; exact readL_small dbg ls _ x (N + 1) h.next
      · split
        · split
          · rw [e]; exact readL_small dbg ls _ _ (N + 1) (takeE_small h (by have : r.text.length ≤ 65 := hl; omega))
          · rw [e]; exact up _ (takeE_small h (by have : r.text.length ≤ 65 := hl; omega))
        · rw [e]; exact up _ h.next
theorem readE_small (text : Str) (dbg : Bool) : (readE text dbg).1.length ≤ text.length + 1 ∧ ∀ c ∈ (readE text dbg).1, c.text.length ≤ 80 * (text.length + 1) ∧ c.marks.length ≤ text.length + 1 := by
  have h := readL_small dbg (splitNL (trimNL text)) 1 .start 0 ⟨Nat.zero_le _, fun c hc => by cases hc⟩
  have h1 := splitNL_len (trimNL text)
  have h2 := trimNL_len text
  unfold readE
  split
  · exact ⟨Nat.zero_le _, fun c hc => by cases hc⟩
  · simp only
    split
    · exact ⟨Nat.zero_le _, fun c hc => by cases hc⟩
    · split
      · exact ⟨Nat.zero_le _, fun c hc => by cases hc⟩
      · exact ⟨by have := h.many; simp only; omega, fun c hc => by have := h.small c hc; omega⟩
theorem join_len {sep : Str} {m : Nat} : ∀ {l : List Str}, (∀ x ∈ l, x.length ≤ m) → (Lib.join l sep).length ≤ l.length * (m + sep.length)
  | [], _ => by simp [Lib.join]
  | [x], h => by
    have := h x (by simp)
    simp [Lib.join]
    omega
  | x :: y :: l, h => by
    have ih := join_len (sep := sep) (l := y :: l) fun z hz => h z (by simp [hz])
    have hx := h x (by simp)
    have e : Lib.join (x :: y :: l) sep = x ++ sep ++ Lib.join (y :: l) sep := by
      unfold Lib.join
      rw [List.intercalate_cons_cons]
    rw [e]
    simp only [List.length_append]
    have : (x :: y :: l).length * (m + sep.length) = (y :: l).length * (m + sep.length) + (m + sep.length) := by
      rw [List.length_cons, Nat.add_mul, Nat.one_mul]
    omega
def cardS (c : CardC) : Str := c.text ++ if c.left = true then [60] else []
/-- The cards' texts behind one another, or the fault. -/
def readT (text : Str) : Str × FaultC := (Lib.join ((readE text false).1.map cardS) [124], (readE text false).2)
theorem IsCards_nth {w₀ : World} {h : AHeap} {l : AM.Loc} {o n : Nat} {cp : Cap} {cs : List CardC} (hc : IsCards w₀ h (.slice l o n cp) cs) {i : Nat} (hi : i < cs.length) :
    ∃ mv, IsL w₀ h 3 mv ((cs.getD i ⟨false, [], []⟩).marks.map markC) ∧ rd w₀ h l (o + i * 3) = .bool (cs.getD i ⟨false, [], []⟩).left ∧ rd w₀ h l (o + i * 3 + 1) = .str (cs.getD i ⟨false, [], []⟩).text ∧ rd w₀ h l (o + i * 3 + 2) = mv := by
  obtain ⟨ps, rfl, h2, h3⟩ := hc
  rw [List.length_map] at hi
  have he := h2.elem (i := i) (by rw [List.length_map]; exact hi)
  rw [getD_map (⟨false, [], []⟩, .dead) hi] at he
  have hg : (ps.map (·.1)).getD i ⟨false, [], []⟩ = (ps.getD i (⟨false, [], []⟩, .dead)).1 := by
    simp [List.getD, hi]
  rw [hg]
  have hm : ps.getD i (⟨false, [], []⟩, .dead) ∈ ps := by rw [List.getD, List.getElem?_eq_getElem hi]; exact List.getElem_mem hi
  simp only [cellsAt, cell3, List.cons.injEq, and_true] at he
  exact ⟨_, h3 _ hm, he.1, he.2.1, he.2.2⟩
theorem IsCards.live {w₀ : World} {h : AHeap} {v : AVal} {cs : List CardC} (hc : IsCards w₀ h v cs) : v.live = true := by
  obtain ⟨ps, rfl, h2, h3⟩ := hc
  exact h2.live
theorem IsCards.len {w₀ : World} {h : AHeap} {v : AVal} {cs : List CardC} (hc : IsCards w₀ h v cs) : pLen Tryd.prog 30 v = ⟨True, .int .i64 cs.length⟩ := by
  obtain ⟨ps, rfl, h2, h3⟩ := hc
  have := h2.len Tryd.underlying30
  rw [List.length_map] at this ⊢
  exact this
theorem IsCards.open {w₀ : World} {h : AHeap} {v : AVal} {cs : List CardC} (hc : IsCards w₀ h v cs) (hn : 0 < cs.length) : ∃ l o c, v = .slice l o cs.length c := by
  obtain ⟨ps, rfl, h2, h3⟩ := hc
  obtain ⟨l, o, c, e⟩ := h2.open (fun e => by rw [List.map_eq_nil_iff] at e; subst e; simp at hn)
  rw [List.length_map] at e ⊢
  exact ⟨l, o, c, e⟩
def strC (s : Str) : List AVal := [.str s]
structure RtOk (cs : List CardC) (H : AHeap) (g : Nat × Option Buf) : Prop where
  i : g.1 ≤ cs.length
  ok : bufOk H 1 g.2
  eq : bufC g.2 = ((cs.take g.1).map fun c => strC (cardS c)).flatten
theorem c_read1 (w₀ : World) (hm : MaxL w₀) (h : AHeap) (text : Str) (hl : text.length ≤ 100000) : ACall Tryd.prog w₀ 20 [.str text] h (fun v h' => v = .tuple [.str (readT text).1, faultA (readT text).2] ∧ Sub h h') := by
  obtain ⟨z1, z2⟩ := readE_small text false
  refine acall_intro (n := 39) (rs := [.tmp 2, .cell 3 34]) Tryd.func20 rfl rfl rfl rfl (Nat.le_of_ble_eq_true rfl) ?_
  simp only [initSlots]
  -- region 0  law.go:16
  refine awp_rseq [0, 3] (by rfl) fun K hK => ?_
  simp (decide := true) only [ev, absV, absS, putD, Slots.put, if_false, true_and, ↓ap_assign, pop_assign]
  repeat (with_reducible refine And.intro ?_ ?_; · first | trivial | omega | (intro hg; simp only [Bool.and_eq_true, Bool.or_eq_true, Bool.not_eq_true', Bool.and_eq_false_iff, Bool.or_eq_false_iff, Bool.not_eq_false', decide_eq_true_eq, decide_eq_false_iff_not, eqNil] at hg; omega) | (simp only [List.length_append, List.length_map, List.length_range, List.length_replicate, List.length_take, List.length_drop, List.length_cons, List.length_nil, List.length_set, List.length_reverse]; omega))
  refine aOps_alloc ze34 (cs := [.int .i64 0, .int .i64 0, .int .i64 0]) (by rfl) fun k0q1 hk0q1 => ?_
  try have hf_0q1 : h k0q1 = none := by first | assumption | (simp only [AHeap.set_none] at hk0q1; simp only [hk0q1])
  simp (decide := true) only [aOps_nil, putD, Slots.put, Slots.keep, if_true, if_false]
  repeat (with_reducible refine And.intro ?_ ?_; · first | trivial | omega | (intro hg; simp only [Bool.and_eq_true, Bool.or_eq_true, Bool.not_eq_true', Bool.and_eq_false_iff, Bool.or_eq_false_iff, Bool.not_eq_false', decide_eq_true_eq, decide_eq_false_iff_not, eqNil] at hg; omega) | (simp only [List.length_append, List.length_map, List.length_range, List.length_replicate, List.length_take, List.length_drop, List.length_cons, List.length_nil, List.length_set, List.length_reverse]; omega))
  apply hK; clear hK K
  -- region 1  law.go:17
  refine awp_rseq [3, 4, 5] (by rfl) fun K hK => ?_
  simp (decide := true) only [ev, putD, Slots.put, Slots.get, if_true, if_false, true_and, ↓ap_move, pop_move]
  repeat (with_reducible refine And.intro ?_ ?_; · first | trivial | omega | (intro hg; simp only [Bool.and_eq_true, Bool.or_eq_true, Bool.not_eq_true', Bool.and_eq_false_iff, Bool.or_eq_false_iff, Bool.not_eq_false', decide_eq_true_eq, decide_eq_false_iff_not, eqNil] at hg; omega) | (simp only [List.length_append, List.length_map, List.length_range, List.length_replicate, List.length_take, List.length_drop, List.length_cons, List.length_nil, List.length_set, List.length_reverse]; omega))
  refine aOps_call (by rfl) (by rfl) (c_Read w₀ hm _ text false (by omega)) fun x1q1 h1q1 hx1q1 => ?_
  obtain ⟨cv, rfl, hc, hs1⟩ := hx1q1
  obtain ⟨cs, hcs⟩ : ∃ cs, cs = (readE text false).1 := ⟨_, rfl⟩
  obtain ⟨f, hf⟩ : ∃ f, f = (readE text false).2 := ⟨_, rfl⟩
  rw [← hcs] at hc z1 z2
  rw [← hf]
  have hs_h1q1 : Sub h h1q1 := Sub.trans (by repeat (first | exact Sub.refl _ | assumption | refine Sub.trans_set ?_ (by assumption))) hs1
  have hr_h1q1 := hs_h1q1
  have eb_0q1 := hs1 k0q1 _ (by repeat (first | exact AHeap.set_same _ _ _ | assumption | refine (AHeap.set_ne _ _ (by first | assumption | exact Ne.symm (by assumption))).trans ?_))
  simp (decide := true) only [ev, putD, Slots.put, Slots.get, if_true, if_false, true_and, ↓ap_move, pop_move, ↓ap_extract, pop_extract, pExt_tuple, List.length_cons, List.length_nil, List.getD_cons_zero, List.getD_cons_succ, List.getD_cons_zero, List.getD_cons_succ, Nat.zero_add, Nat.reduceAdd, faultA]
  repeat (with_reducible refine And.intro ?_ ?_; · first | trivial | omega | (intro hg; simp only [Bool.and_eq_true, Bool.or_eq_true, Bool.not_eq_true', Bool.and_eq_false_iff, Bool.or_eq_false_iff, Bool.not_eq_false', decide_eq_true_eq, decide_eq_false_iff_not, eqNil] at hg; omega) | (simp only [List.length_append, List.length_map, List.length_range, List.length_replicate, List.length_take, List.length_drop, List.length_cons, List.length_nil, List.length_set, List.length_reverse]; omega))
  refine aOps_alloc ze34 (cs := [.int .i64 0, .int .i64 0, .int .i64 0]) (by rfl) fun k1q5 hk1q5 => ?_
  have hn_1q5 : h1q1 k1q5 = none := by first | assumption | (simp only [AHeap.set_none] at hk1q5; simp only [hk1q5])
  have hf_1q5 : h k1q5 = none := Sub.none hs_h1q1 hn_1q5
  have ne_1q5_0q1 : k1q5 ≠ k0q1 := AHeap.ne_some hn_1q5 eb_0q1
  simp (decide := true) only [ev, putD, Slots.put, Slots.get, if_true, if_false, true_and, ↓ap_assign, pop_assign]
  repeat (with_reducible refine And.intro ?_ ?_; · first | trivial | omega | (intro hg; simp only [Bool.and_eq_true, Bool.or_eq_true, Bool.not_eq_true', Bool.and_eq_false_iff, Bool.or_eq_false_iff, Bool.not_eq_false', decide_eq_true_eq, decide_eq_false_iff_not, eqNil] at hg; omega) | (simp only [List.length_append, List.length_map, List.length_range, List.length_replicate, List.length_take, List.length_drop, List.length_cons, List.length_nil, List.length_set, List.length_reverse]; omega))
  refine aOps_store (by rfl) (by rfl) (by repeat (first | exact AHeap.set_same _ _ _ | assumption | refine (AHeap.set_ne _ _ (by first | assumption | exact Ne.symm (by assumption))).trans ?_)) sz34 (by rfl) (by rfl) (by first | exact Nat.le_refl _ | decide | (simp; done) | (simp; omega)) (Nat.zero_le _) (by rfl) ?_
  simp only [AHeap.set_set, AVal.cells]
  simp (decide := true) only [aOps_nil, ev, putD, Slots.get, Slots.keep, if_true, if_false, setAt, List.set_cons_zero, List.set_cons_succ, Nat.zero_add, Nat.reduceAdd]
  repeat (with_reducible refine And.intro ?_ ?_; · first | trivial | omega | (intro hg; simp only [Bool.and_eq_true, Bool.or_eq_true, Bool.not_eq_true', Bool.and_eq_false_iff, Bool.or_eq_false_iff, Bool.not_eq_false', decide_eq_true_eq, decide_eq_false_iff_not, eqNil] at hg; omega) | (simp only [List.length_append, List.length_map, List.length_range, List.length_replicate, List.length_take, List.length_drop, List.length_cons, List.length_nil, List.length_set, List.length_reverse]; omega))
  apply hK; clear hK K
  -- region 2  law.go:18
  refine awp_rseq [3, 4, 5, 6] (by rfl) fun K hK => ?_
  simp (decide := true) only [aOps_nil, ev, absV, absS, putD, Slots.put, Slots.keep, if_true, if_false, true_and, ↓ap_assign, pop_assign]
  repeat (with_reducible refine And.intro ?_ ?_; · first | trivial | omega | (intro hg; simp only [Bool.and_eq_true, Bool.or_eq_true, Bool.not_eq_true', Bool.and_eq_false_iff, Bool.or_eq_false_iff, Bool.not_eq_false', decide_eq_true_eq, decide_eq_false_iff_not, eqNil] at hg; omega) | (simp only [List.length_append, List.length_map, List.length_range, List.length_replicate, List.length_take, List.length_drop, List.length_cons, List.length_nil, List.length_set, List.length_reverse]; omega))
  apply hK; clear hK K
  refine awp_seq ?_
  -- region 3  law.go:19
  refine awp_rseq [3, 4, 5, 6, 7] (by rfl) fun K hK => ?_
  simp (decide := true) only [aOps_nil, ev, absV, absS, putD, Slots.put, Slots.keep, if_true, if_false, true_and, ↓ap_assign, pop_assign]
  repeat (with_reducible refine And.intro ?_ ?_; · first | trivial | omega | (intro hg; simp only [Bool.and_eq_true, Bool.or_eq_true, Bool.not_eq_true', Bool.and_eq_false_iff, Bool.or_eq_false_iff, Bool.not_eq_false', decide_eq_true_eq, decide_eq_false_iff_not, eqNil] at hg; omega) | (simp only [List.length_append, List.length_map, List.length_range, List.length_replicate, List.length_take, List.length_drop, List.length_cons, List.length_nil, List.length_set, List.length_reverse]; omega))
  apply hK; clear hK K
  refine awp_block ?_
  refine awp_loopG [3, 4, 5, 6, 7] (fun g : Nat × Option Buf => [(3, .ptr (.own k0q1) 0), (4, cv), (5, .ptr (.own k1q5) 0), (6, bufV 1 g.2), (7, .int .i64 g.1)]) (fun g : Nat × Option Buf => bufH (h1q1.set k1q5 ⟨[.int .i64 f.e, .int .i64 f.line, .int .i64 f.col], 0⟩) g.2) (fun g : Nat × Option Buf => RtOk cs (h1q1.set k1q5 ⟨[.int .i64 f.e, .int .i64 f.line, .int .i64 f.col], 0⟩) g) (fun g : Nat × Option Buf => cs.length - g.1) (0, none) (by rfl) (Sub.refl _) ⟨Nat.zero_le _, trivial, rfl⟩ ?_
  rintro ⟨i, b⟩ ⟨g1, g2, g3⟩
  simp only at g1 g2 g3 ⊢
  have hcb := hc.mono ((Sub.set hn_1q5).trans (Sub.buf g2))
  have hlv := hc.live
  have hln := hcb.len
  have hbl := bufV_live 1 b
  refine awp_seq ?_
  -- region 4  law.go:19
  refine awp_rseq [3, 4, 5, 6, 7, 17] (by rfl) fun K hK => ?_
  simp (decide := true) only [aOps_nil, ev, putD, Slots.put, Slots.get, Slots.keep, if_true, if_false, true_and, ↓ap_move, pop_move, ↓ap_len, pop_len, ↓ap_binOp, pop_binOp, isNilC_tmp, cond_false, pBinX_int, pI_lss, hln]
  repeat (with_reducible refine And.intro ?_ ?_; · first | trivial | omega | (intro hg; simp only [Bool.and_eq_true, Bool.or_eq_true, Bool.not_eq_true', Bool.and_eq_false_iff, Bool.or_eq_false_iff, Bool.not_eq_false', decide_eq_true_eq, decide_eq_false_iff_not, eqNil] at hg; omega) | (simp only [List.length_append, List.length_map, List.length_range, List.length_replicate, List.length_take, List.length_drop, List.length_cons, List.length_nil, List.length_set, List.length_reverse]; omega))
  apply hK; clear hK K
  refine awp_cond (b := _) rfl (fun hb1 => ?_) (fun hb1 => ?_)
  · try simp only [decide_eq_true_eq] at hb1
    have hi : i < cs.length := by omega
    obtain ⟨l, o, cp, rfl⟩ := hcb.open (by omega)
    obtain ⟨mv, e3, e0, e1, e2⟩ := IsCards_nth hcb hi
    obtain ⟨c, hcc⟩ : ∃ c, c = cs.getD i ⟨false, [], []⟩ := ⟨_, rfl⟩
    rw [← hcc] at e0 e1
    have hcl : c.text.length ≤ 80 * (text.length + 1) := by
      rw [hcc, List.getD, List.getElem?_eq_getElem hi]; exact (z2 _ (List.getElem_mem hi)).1
    refine awp_skip ?_
    change Awp _ _ _ _ _ _ _
    refine awp_seq ?_
    refine awp_block ?_
    -- region 6  law.go:20
    refine awp_rseq [3, 4, 5, 6, 7, 8] (by rfl) fun K hK => ?_
    simp (decide := true) only [aOps_nil, ev, putD, Slots.put, Slots.get, Slots.keep, if_true, if_false, true_and, ↓ap_move, pop_move, ↓ap_indexAddrL, apL_mk, pIndexAddr_slice Tryd.underlying30 sz39, ↓ap_fieldAddr, pop_fieldAddr, fa39_1, ↓ap_loadL, pLoad_one ag9, ↓ap_assign, pop_assign, lv_str, e1, Int.toNat_natCast]
    repeat (with_reducible refine And.intro ?_ ?_; · first | trivial | omega | (intro hg; simp only [Bool.and_eq_true, Bool.or_eq_true, Bool.not_eq_true', Bool.and_eq_false_iff, Bool.or_eq_false_iff, Bool.not_eq_false', decide_eq_true_eq, decide_eq_false_iff_not, eqNil] at hg; omega) | (simp only [List.length_append, List.length_map, List.length_range, List.length_replicate, List.length_take, List.length_drop, List.length_cons, List.length_nil, List.length_set, List.length_reverse]; omega))
    apply hK; clear hK K
    refine awp_seq ?_
    -- region 7  law.go:21
    refine awp_rseq [3, 4, 5, 6, 7, 8, 29] (by rfl) fun K hK => ?_
    simp (decide := true) only [aOps_nil, ev, putD, Slots.put, Slots.get, Slots.keep, if_true, if_false, true_and, ↓ap_move, pop_move, ↓ap_indexAddrL, apL_mk, pIndexAddr_slice Tryd.underlying30 sz39, ↓ap_fieldAddr, pop_fieldAddr, fa39_0, ↓ap_loadL, pLoad_one ag4, lv_bool, Nat.add_zero, e0, Int.toNat_natCast]
    repeat (with_reducible refine And.intro ?_ ?_; · first | trivial | omega | (intro hg; simp only [Bool.and_eq_true, Bool.or_eq_true, Bool.not_eq_true', Bool.and_eq_false_iff, Bool.or_eq_false_iff, Bool.not_eq_false', decide_eq_true_eq, decide_eq_false_iff_not, eqNil] at hg; omega) | (simp only [List.length_append, List.length_map, List.length_range, List.length_replicate, List.length_take, List.length_drop, List.length_cons, List.length_nil, List.length_set, List.length_reverse]; omega))
    apply hK; clear hK K
    refine awp_joinT [3, 4, 5, 6, 7, 8] (fun z : Unit => [(3, .ptr (.own k0q1) 0), (4, .slice l o cs.length cp), (5, .ptr (.own k1q5) 0), (6, bufV 1 b), (7, .int .i64 i), (8, .str (cardS c))]) (fun z : Unit => bufH (h1q1.set k1q5 ⟨[.int .i64 f.e, .int .i64 f.line, .int .i64 f.col], 0⟩) b) (fun z : Unit => True) ?_ ?_
    · refine awp_cond (b := _) rfl (fun hb2 => ?_) (fun hb2 => ?_)
      · try simp only [decide_eq_true_eq, decide_eq_false_iff_not, Bool.not_eq_true', Bool.not_eq_false', Bool.and_eq_true, Bool.and_eq_false_iff, Bool.or_eq_true, Bool.or_eq_false_iff, Bool.true_eq, Bool.false_eq, reduceCtorEq] at hb2
        -- region 8  law.go:22
        refine awp_r [3, 4, 5, 6, 7, 8] (by rfl) ?_
        simp (decide := true) only [aOps_nil, ev, absV, absS, putD, Slots.put, Slots.get, Slots.keep, if_true, if_false, true_and, and_true, ↓ap_move, pop_move, ↓ap_binOp, pop_binOp, isNilC_str, cond_false, pBinX_str, pS_add, ↓ap_assign, pop_assign, faultA]
        repeat (with_reducible refine And.intro ?_ ?_; · first | trivial | omega | (intro hg; simp only [Bool.and_eq_true, Bool.or_eq_true, Bool.not_eq_true', Bool.and_eq_false_iff, Bool.or_eq_false_iff, Bool.not_eq_false', decide_eq_true_eq, decide_eq_false_iff_not, eqNil] at hg; omega) | (simp only [List.length_cons, List.length_nil]; omega))
        try simp only [thenA_normal]
        have hcs2 : cardS c = c.text ++ if c.left = true then [60] else [] := rfl
        rw [hb2] at hcs2
        first
        | refine ⟨(), ?_, Sub.refl _, trivial⟩
        | refine ⟨(), ?_, Sub.refl _⟩
        first
        | (rw [hcs2]; rfl)
        | (rw [hcs2, if_neg (by decide), List.append_nil]; rfl)
      · try simp only [decide_eq_true_eq, decide_eq_false_iff_not, Bool.not_eq_true', Bool.not_eq_false', Bool.and_eq_true, Bool.and_eq_false_iff, Bool.or_eq_true, Bool.or_eq_false_iff, Bool.true_eq, Bool.false_eq, reduceCtorEq] at hb2
        refine awp_skip ?_
        try simp only [thenA_normal]
        have hcs2 : cardS c = c.text ++ if c.left = true then [60] else [] := rfl
        rw [hb2] at hcs2
        first
        | refine ⟨(), ?_, Sub.refl _, trivial⟩
        | refine ⟨(), ?_, Sub.refl _⟩
        first
        | (rw [hcs2]; rfl)
        | (rw [hcs2, if_neg (by decide), List.append_nil]; rfl)
    · intro _ _
      -- region 9  law.go:24
      refine awp_r [3, 4, 5, 6, 7] (by rfl) ?_
      simp (decide := true) only [ev, putD, Slots.put, Slots.get, if_true, if_false, true_and, ↓ap_move, pop_move, faultA]
      repeat (with_reducible refine And.intro ?_ ?_; · first | trivial | omega | (intro hg; simp only [Bool.and_eq_true, Bool.or_eq_true, Bool.not_eq_true', Bool.and_eq_false_iff, Bool.or_eq_false_iff, Bool.not_eq_false', decide_eq_true_eq, decide_eq_false_iff_not, eqNil] at hg; omega) | (simp only [List.length_append, List.length_map, List.length_range, List.length_replicate, List.length_take, List.length_drop, List.length_cons, List.length_nil, List.length_set, List.length_reverse]; omega))
      refine aOps_buildSlice (cs := [.str (cardS c)]) (by kernel_rfl) fun k9q2 hk9q2 => ?_
      try have hf_9q2 : h k9q2 = none := by first | assumption | (simp only [AHeap.set_none] at hk9q2; simp only [hk9q2])
      refine aOps_appendL (es := 1) (zs := (cs.take i).map fun c => strC (cardS c)) (xs := [strC (cardS c)]) (h₀ := h1q1.set k1q5 ⟨[.int .i64 f.e, .int .i64 f.line, .int .i64 f.col], 0⟩) (b := b) (by rfl) (by rfl) Tryd.underlying40 Tryd.underlying40 (fun k e => by cases e) sz9 by9 ze9 (by rfl) (by decide) (by rfl) g2 g3 (fun y hy => by obtain ⟨d, _, rfl⟩ := List.mem_map.1 hy; rfl) (Sub.set hk9q2) (by rfl) (IsL.own (AHeap.set_same _ _ _) (by simp [strC]) (by rfl) (by rfl) (.exact 1) (Nat.le_refl _)) (by rfl) (by simp; omega) (by simp; omega) fun b' h5 o1 o2 o3 => ?_
      have hbl' := bufV_live 1 b'
      simp (decide := true) only [aOps_nil, ev, putD, Slots.put, Slots.get, Slots.keep, if_true, if_false, true_and, ↓ap_assign, pop_assign]
      repeat (with_reducible refine And.intro ?_ ?_; · first | trivial | omega | (intro hg; simp only [Bool.and_eq_true, Bool.or_eq_true, Bool.not_eq_true', Bool.and_eq_false_iff, Bool.or_eq_false_iff, Bool.not_eq_false', decide_eq_true_eq, decide_eq_false_iff_not, eqNil] at hg; omega) | (simp only [List.length_append, List.length_map, List.length_range, List.length_replicate, List.length_take, List.length_drop, List.length_cons, List.length_nil, List.length_set, List.length_reverse]; omega))
      change Awp _ _ _ _ _ _ _
      -- region 5  law.go:19
      refine awp_r [3, 4, 5, 6, 7] (by rfl) ?_
      simp (decide := true) only [aOps_nil, ev, absV, absS, putD, Slots.put, Slots.get, Slots.keep, if_true, if_false, true_and, ↓ap_move, pop_move, ↓ap_binOp, pop_binOp, isNilC_int, cond_false, pBinX_int, pI_add, ↓ap_assign, pop_assign]
      try simp (disch := omega) only [wrap_i64]
      repeat (with_reducible refine And.intro ?_ ?_; · first | trivial | omega | (intro hg; simp only [Bool.and_eq_true, Bool.or_eq_true, Bool.not_eq_true', Bool.and_eq_false_iff, Bool.or_eq_false_iff, Bool.not_eq_false', decide_eq_true_eq, decide_eq_false_iff_not, eqNil] at hg; omega) | (simp only [List.length_append, List.length_map, List.length_range, List.length_replicate, List.length_take, List.length_drop, List.length_cons, List.length_nil, List.length_set, List.length_reverse]; omega))
      try simp only [thenA_normal]
      refine ⟨(i + 1, b'), rfl, o3, ⟨hi, o1, ?_⟩, by simp only; omega⟩
      simp only
      have ht : cs.take (i + 1) = cs.take i ++ [c] := by
        rw [List.take_add_one, List.getElem?_eq_getElem hi, hcc]
        simp [List.getD, hi]
      rw [o2, ht, List.map_append]
      rfl
  · try simp only [decide_eq_false_iff_not] at hb1
    refine awp_exit ?_
    change Awp _ _ _ _ _ _ _
    obtain ⟨B, hB⟩ : ∃ B, B = bufH (h1q1.set k1q5 ⟨[.int .i64 f.e, .int .i64 f.line, .int .i64 f.col], 0⟩) b := ⟨_, rfl⟩
    have hs_B : Sub h B := by rw [hB]; exact (hs_h1q1.trans (Sub.set hn_1q5)).trans (Sub.buf g2)
    have eb_1q5 : B k1q5 = some ⟨[.int .i64 f.e, .int .i64 f.line, .int .i64 f.col], 0⟩ := by rw [hB]; exact bufAt g2 (AHeap.set_same _ _ _)
    replace eb_0q1 : B k0q1 = some ⟨[.int .i64 0, .int .i64 0, .int .i64 0], 0⟩ := by rw [hB]; exact bufAt g2 ((AHeap.set_ne _ _ ne_1q5_0q1.symm).trans eb_0q1)
    have he : i = cs.length := by omega
    rw [he, List.take_length] at g3
    have hst : IsStrs w₀ B (bufV 1 b) (cs.map cardS) := by
      have := IsL.buf (w₀ := w₀) g2 (by decide) (by rw [g3]) (by simp [strC]) (h := B) (by rw [hB]; exact Sub.refl _)
      unfold IsStrs
      rw [List.map_map]
      exact this
    have hjl : (Lib.join (cs.map cardS) [124]).length ≤ 140737488355328 := by
      refine Nat.le_trans (join_len (m := 80 * (text.length + 1) + 1) fun y hy => ?_) ?_
      · obtain ⟨d, hd, rfl⟩ := List.mem_map.1 hy
        have := (z2 d hd).1
        unfold cardS
        rw [List.length_append]
        split <;> simp <;> omega
      · rw [List.length_map]
        exact Nat.le_trans (Nat.mul_le_mul (Nat.le_trans z1 (by omega : text.length + 1 ≤ 100001)) (by simp; omega : _ ≤ 8000082)) (by decide)
    have hrt : readT text = (Lib.join (cs.map cardS) [124], f) := by unfold readT; rw [← hcs, ← hf]
    rw [← hB]
    -- region 10  law.go:26
    refine awp_dseq_anyT 4 [2, 3] mixed (by kernel_rfl) (by rfl) fun K hK => ?_
    simp only [List.take_succ_cons, List.take_zero, List.drop_succ_cons, List.drop_zero]
    simp (decide := true) only [ev, putD, Slots.put, Slots.get, if_true, if_false, true_and, ↓vp_move, pop_move]
    repeat (with_reducible refine And.intro ?_ ?_; · first | trivial | omega | (intro hg; simp only [Bool.and_eq_true, Bool.or_eq_true, Bool.not_eq_true', Bool.and_eq_false_iff, Bool.or_eq_false_iff, Bool.not_eq_false', decide_eq_true_eq, decide_eq_false_iff_not, eqNil] at hg; omega) | (simp only [List.length_append, List.length_map, List.length_range, List.length_replicate, List.length_take, List.length_drop, List.length_cons, List.length_nil, List.length_set, List.length_reverse]; omega))
    refine vOps_callV (V := .str (Lib.join (cs.map cardS) [124])) (by rfl) (by rfl) (c_join w₀ _ _ _ _ hst (by simp; omega) hjl) ?_
    simp (decide := true) only [vOps_nil, ev, putD, Slots.put, Slots.get, if_true, if_false, true_and, ↓vp_load, pop_load, pLoad_agg ag34 sz34, ↓vp_assign, pop_assign, rd_own w₀ eb_1q5, cellsAt, List.getD_cons_zero, List.getD_cons_succ, Nat.zero_add, Nat.reduceAdd, lv_int, allLive, Bool.and_true]
    repeat (with_reducible refine And.intro ?_ ?_; · first | trivial | omega | (intro hg; simp only [Bool.and_eq_true, Bool.or_eq_true, Bool.not_eq_true', Bool.and_eq_false_iff, Bool.or_eq_false_iff, Bool.not_eq_false', decide_eq_true_eq, decide_eq_false_iff_not, eqNil] at hg; omega) | (simp only [List.length_append, List.length_map, List.length_range, List.length_replicate, List.length_take, List.length_drop, List.length_cons, List.length_nil, List.length_set, List.length_reverse]; omega))
    try simp only [vOps_nil, fOps_nil]
    refine aOps_store (by rfl) (by rfl) (by repeat (first | exact AHeap.set_same _ _ _ | assumption | refine (AHeap.set_ne _ _ (by first | assumption | exact Ne.symm (by assumption))).trans ?_)) sz34 (by rfl) (by rfl) (by first | exact Nat.le_refl _ | decide | (simp; done) | (simp; omega)) (Nat.zero_le _) (by rfl) ?_
    simp only [AVal.cells]
    simp (decide := true) only [aOps_nil, ev, putD, Slots.get, Slots.keep, if_true, if_false, setAt, List.set_cons_zero, List.set_cons_succ, Nat.zero_add, Nat.reduceAdd]
    repeat (with_reducible refine And.intro ?_ ?_; · first | trivial | omega | (intro hg; simp only [Bool.and_eq_true, Bool.or_eq_true, Bool.not_eq_true', Bool.and_eq_false_iff, Bool.or_eq_false_iff, Bool.not_eq_false', decide_eq_true_eq, decide_eq_false_iff_not, eqNil] at hg; omega) | (simp only [List.length_append, List.length_map, List.length_range, List.length_replicate, List.length_take, List.length_drop, List.length_cons, List.length_nil, List.length_set, List.length_reverse]; omega))
    apply hK; clear hK K
    refine awp_ret ?_
    try simp only [thenA_ret, inBlockA_ret]
    refine retA_ret h (by repeat (first | exact Sub.refl _ | assumption | refine Sub.trans_set ?_ (by assumption))) (?_) ?_
    · simp (decide := true) only [resPre, resV_tmp, resV_cell, Slots.get, if_true, if_false, and_true, resV_tmp, resV_cell, pLoad_agg ag34 sz34, rd_set, cellsAt, List.getD_cons_zero, List.getD_cons_succ, Nat.zero_add, Nat.reduceAdd, lv_int, allLive, Bool.and_true, cellsAt, List.getD_cons_zero, List.getD_cons_succ, Nat.zero_add, Nat.reduceAdd, lv_int, allLive, Bool.and_true]
    
    simp (decide := true) only [Slots.get, if_true, if_false, resOfG_two, resV_tmp, resV_cell, pLoad_agg ag34 sz34, rd_set, cellsAt, List.getD_cons_zero, List.getD_cons_succ, Nat.zero_add, Nat.reduceAdd, lv_int, allLive, Bool.and_true, cellsAt, List.getD_cons_zero, List.getD_cons_succ, Nat.zero_add, Nat.reduceAdd, lv_int, allLive, Bool.and_true, faultA]
    rw [hrt]
    exact ⟨rfl, Sub.refl _⟩
end Go.Proofs.YtikpnhdjjabdmaaDoor

/-
  Contracts: lives of the laws.
  Conditions: none.
-/
namespace Go.Proofs.YtikpnhdjjabdmaaDoor
open Go.AM
open Go.Proofs
open Go.Col
set_option maxRecDepth 100000

theorem rt1 : readT (sp 13 ++ [65, 68, 68, 32, 49]) = ([65, 68, 68, 32, 49], ⟨0, 0, 0⟩) := by kernel_rfl
theorem rt2 : readT (sp 7 ++ [77, 65, 73, 78, 10] ++ sp 6 ++ [42, 78, 79, 84, 69]) = ([77, 65, 73, 78, 60], ⟨0, 0, 0⟩) := by kernel_rfl
theorem rt3 : readT (sp 11 ++ [65, 32, 34, 66, 10] ++ sp 6 ++ [45, 32, 32, 32, 32, 34, 67, 34, 10]) = (([65, 32, 34, 66] ++ sp 57 ++ [67, 34]), ⟨0, 0, 0⟩) := by kernel_rfl
theorem rt4 : readT (sp 11 ++ [80, 69, 82, 70, 10] ++ sp 6 ++ [45, 32, 32, 32, 32, 79, 82, 77, 32, 80]) = ([80, 69, 82, 70, 79, 82, 77, 32, 80], ⟨0, 0, 0⟩) := by kernel_rfl
theorem rt5 : readT (sp 6 ++ [45, 32, 32, 32, 32, 88]) = ([], ⟨6, 1, 7⟩) := by kernel_rfl
theorem rt6 : readT (sp 11 ++ [65, 32, 34, 66]) = ([], ⟨4, 1, 12⟩) := by kernel_rfl
theorem digs_1 : digs (1 % 1000000) = [49] := Lib.decDigits_one (by decide)
theorem wr_one (l : Bool) (s : Str) (hr : rightE s = true) (hs : s.length ≤ 60) : writeE [(l, s)] = (outE 1 [32] (if l = true then 8 else 12) s, 0) := by
  have hl := outE_len 1 (if l = true then 8 else 12) [32] s
  have ht : textE (s.length + 1) (if l = true then 8 else 12) [32] false 0 [] s = (1, outE 1 [32] (if l = true then 8 else 12) s) := by
    rw [textE_short (by simp only [Bool.false_eq_true, if_false]; split <;> omega)]
    rfl
  unfold writeE
  simp only [List.all_cons, List.all_nil, Bool.and_true, hr, if_true, writeGo, ht]
  rw [if_neg (by rw [hl]; simp only [List.length_cons, List.length_nil]; split <;> omega)]
theorem wr1 : writeE [(false, [83, 84, 79, 80, 32, 82, 85, 78, 46])] = ([48, 48, 48, 48, 48, 49, 32, 32, 32, 32, 32, 83, 84, 79, 80, 32, 82, 85, 78, 46, 10], 0) := by
  rw [wr_one _ _ (by decide) (by decide)]
  unfold outE
  rw [digs_1]
  rfl
theorem wr2 : writeE [(true, [83, 84, 79, 80, 32, 82, 85, 78, 46])] = ([48, 48, 48, 48, 48, 49, 32, 83, 84, 79, 80, 32, 82, 85, 78, 46, 10], 0) := by
  rw [wr_one _ _ (by decide) (by decide)]
  unfold outE
  rw [digs_1]
  rfl
theorem isLines {w₀ : World} {h : AHeap} {k : Nat} {ls : List (Bool × Str)} (hk : h k = some ⟨(ls.map lineC).flatten, 0⟩) (c : Cap) (hc : c = .exact ls.length) : IsL w₀ h 2 (.slice (.own k) 0 ls.length c) (ls.map lineC) := by
  have hw : ∀ x ∈ ls.map lineC, x.length = 2 := fun x hx => by obtain ⟨y, _, rfl⟩ := List.mem_map.1 hx; rfl
  have hl : allLive (ls.map lineC).flatten = true := allLive_flatten.2 fun x hx => by obtain ⟨y, _, rfl⟩ := List.mem_map.1 hx; rfl
  have := IsL.own (w₀ := w₀) hk hw rfl hl c (by rw [hc]; simp)
  rw [List.length_map] at this
  exact this
set_option maxHeartbeats 2000000 in
theorem c_lives02 (w₀ : World) (hm : MaxL w₀) (ht10 : Tab10 w₀) (h : AHeap) : ACall Tryd.prog w₀ 8 [] h (fun v h' => v = .bool true ∧ h' = h) := by
  refine acall_intro (n := 139) (rs := [.tmp 0]) Tryd.func8 rfl rfl rfl rfl (Nat.le_of_ble_eq_true rfl) ?_
  simp only [initSlots]
  -- region 0  law.go:30
  refine awp_rseq [] (by rfl) fun K hK => ?_
  simp (decide := true) only [aOps_nil, ev, absV, absS, putD, Slots.put, Slots.keep, if_false, true_and, ↓ap_assign, pop_assign]
  repeat (with_reducible refine And.intro ?_ ?_; · first | trivial | omega | (intro hg; simp only [Bool.and_eq_true, Bool.or_eq_true, Bool.not_eq_true', Bool.and_eq_false_iff, Bool.or_eq_false_iff, Bool.not_eq_false', decide_eq_true_eq, decide_eq_false_iff_not, eqNil] at hg; omega) | (simp only [List.length_append, List.length_map, List.length_range, List.length_replicate, List.length_take, List.length_drop, List.length_cons, List.length_nil, List.length_set, List.length_reverse]; omega))
  apply hK; clear hK K
  -- region 1  law.go:31
  refine awp_rseq [1, 2] (by rfl) fun K hK => ?_
  refine aOps_callV (V := .str (sp 13)) (by rfl) (by rfl) (c_spaces w₀ _ 13 (by decide)) ?_
  simp (decide := true) only [ev, absV, absS, putD, Slots.put, Slots.get, if_true, if_false, true_and, ↓ap_binOp, pop_binOp, isNilC_str, cond_false, pBinX_str, pS_add]
  repeat (with_reducible refine And.intro ?_ ?_; · first | trivial | omega | (intro hg; simp only [Bool.and_eq_true, Bool.or_eq_true, Bool.not_eq_true', Bool.and_eq_false_iff, Bool.or_eq_false_iff, Bool.not_eq_false', decide_eq_true_eq, decide_eq_false_iff_not, eqNil] at hg; omega) | (simp only [List.length_append, List.length_map, List.length_range, List.length_replicate, List.length_take, List.length_drop, List.length_cons, List.length_nil, List.length_set, List.length_reverse]; omega))
  refine aOps_call (by rfl) (by rfl) (c_read1 w₀ hm _ (sp 13 ++ [65, 68, 68, 32, 49]) (by decide)) fun x1q2 h1q2 hx1q2 => ?_
  rw [rt1] at hx1q2
  obtain ⟨rfl, hs1⟩ := hx1q2
  have hs_h1q2 : Sub h h1q2 := Sub.trans (by repeat (first | exact Sub.refl _ | assumption | refine Sub.trans_set ?_ (by assumption))) hs1
  have hr_h1q2 := hs_h1q2
  simp (decide := true) only [ev, putD, Slots.put, Slots.get, if_true, if_false, true_and, ↓ap_move, pop_move, ↓ap_extract, pop_extract, pExt_tuple, List.getD_cons_zero, List.getD_cons_succ, List.getD_cons_zero, List.getD_cons_succ, faultA]
  repeat (with_reducible refine And.intro ?_ ?_; · first | trivial | omega | (intro hg; simp only [Bool.and_eq_true, Bool.or_eq_true, Bool.not_eq_true', Bool.and_eq_false_iff, Bool.or_eq_false_iff, Bool.not_eq_false', decide_eq_true_eq, decide_eq_false_iff_not, eqNil] at hg; omega) | (simp only [List.length_append, List.length_map, List.length_range, List.length_replicate, List.length_take, List.length_drop, List.length_cons, List.length_nil, List.length_set, List.length_reverse]; omega))
  refine aOps_alloc ze34 (cs := [.int .i64 0, .int .i64 0, .int .i64 0]) (by rfl) fun k1q6 hk1q6 => ?_
  have hn_1q6 : h1q2 k1q6 = none := by first | assumption | (simp only [AHeap.set_none] at hk1q6; simp only [hk1q6])
  have hf_1q6 : h k1q6 = none := Sub.none hs_h1q2 hn_1q6
  simp (decide := true) only [ev, putD, Slots.put, Slots.get, if_true, if_false, true_and, ↓ap_assign, pop_assign]
  repeat (with_reducible refine And.intro ?_ ?_; · first | trivial | omega | (intro hg; simp only [Bool.and_eq_true, Bool.or_eq_true, Bool.not_eq_true', Bool.and_eq_false_iff, Bool.or_eq_false_iff, Bool.not_eq_false', decide_eq_true_eq, decide_eq_false_iff_not, eqNil] at hg; omega) | (simp only [List.length_append, List.length_map, List.length_range, List.length_replicate, List.length_take, List.length_drop, List.length_cons, List.length_nil, List.length_set, List.length_reverse]; omega))
  refine aOps_store (by rfl) (by rfl) (by repeat (first | exact AHeap.set_same _ _ _ | assumption | refine (AHeap.set_ne _ _ (by first | assumption | exact Ne.symm (by assumption))).trans ?_)) sz34 (by rfl) (by rfl) (by first | exact Nat.le_refl _ | decide | (simp; done) | (simp; omega)) (Nat.zero_le _) (by rfl) ?_
  simp only [AHeap.set_set, AVal.cells]
  simp (decide := true) only [aOps_nil, ev, putD, Slots.get, Slots.keep, if_true, if_false, setAt, List.set_cons_zero, List.set_cons_succ, Nat.zero_add, Nat.reduceAdd]
  repeat (with_reducible refine And.intro ?_ ?_; · first | trivial | omega | (intro hg; simp only [Bool.and_eq_true, Bool.or_eq_true, Bool.not_eq_true', Bool.and_eq_false_iff, Bool.or_eq_false_iff, Bool.not_eq_false', decide_eq_true_eq, decide_eq_false_iff_not, eqNil] at hg; omega) | (simp only [List.length_append, List.length_map, List.length_range, List.length_replicate, List.length_take, List.length_drop, List.length_cons, List.length_nil, List.length_set, List.length_reverse]; omega))
  apply hK; clear hK K
  -- region 2  law.go:32
  refine awp_rseq [1, 2, 3, 4] (by rfl) fun K hK => ?_
  refine aOps_callV (V := .str (sp 7)) (by rfl) (by rfl) (c_spaces w₀ _ 7 (by decide)) ?_
  simp (decide := true) only [ev, absV, absS, putD, Slots.put, Slots.get, if_true, if_false, true_and, ↓ap_binOp, pop_binOp, isNilC_str, cond_false, pBinX_str, pS_add]
  repeat (with_reducible refine And.intro ?_ ?_; · first | trivial | omega | (intro hg; simp only [Bool.and_eq_true, Bool.or_eq_true, Bool.not_eq_true', Bool.and_eq_false_iff, Bool.or_eq_false_iff, Bool.not_eq_false', decide_eq_true_eq, decide_eq_false_iff_not, eqNil] at hg; omega) | (simp only [List.length_append, List.length_map, List.length_range, List.length_replicate, List.length_take, List.length_drop, List.length_cons, List.length_nil, List.length_set, List.length_reverse]; omega))
  refine aOps_callV (V := .str (sp 6)) (by rfl) (by rfl) (c_spaces w₀ _ 6 (by decide)) ?_
  simp (decide := true) only [ev, absV, absS, putD, Slots.put, Slots.get, if_true, if_false, true_and, ↓ap_binOp, pop_binOp, isNilC_tmp, cond_false, pBinX_str, pS_add, isNilC_str]
  repeat (with_reducible refine And.intro ?_ ?_; · first | trivial | omega | (intro hg; simp only [Bool.and_eq_true, Bool.or_eq_true, Bool.not_eq_true', Bool.and_eq_false_iff, Bool.or_eq_false_iff, Bool.not_eq_false', decide_eq_true_eq, decide_eq_false_iff_not, eqNil] at hg; omega) | (simp only [List.length_append, List.length_map, List.length_range, List.length_replicate, List.length_take, List.length_drop, List.length_cons, List.length_nil, List.length_set, List.length_reverse]; omega))
  refine aOps_call (by rfl) (by rfl) (c_read1 w₀ hm _ (sp 7 ++ [77, 65, 73, 78, 10] ++ sp 6 ++ [42, 78, 79, 84, 69]) (by decide)) fun x2q5 h2q5 hx2q5 => ?_
  rw [rt2] at hx2q5
  obtain ⟨rfl, hs2⟩ := hx2q5
  have hs_h2q5 : Sub h h2q5 := Sub.trans (by repeat (first | exact Sub.refl _ | assumption | refine Sub.trans_set ?_ (by assumption))) hs2
  have hr_h2q5 : Sub h1q2 h2q5 := Sub.trans (by repeat (first | exact Sub.refl _ | assumption | refine Sub.trans_set ?_ (by assumption))) hs2
  have eb_1q6 := hs2 k1q6 _ (by repeat (first | exact AHeap.set_same _ _ _ | assumption | refine (AHeap.set_ne _ _ (by first | assumption | exact Ne.symm (by assumption))).trans ?_))
  simp (decide := true) only [ev, putD, Slots.put, Slots.get, if_true, if_false, true_and, ↓ap_move, pop_move, ↓ap_extract, pop_extract, pExt_tuple, List.getD_cons_zero, List.getD_cons_succ, List.getD_cons_zero, List.getD_cons_succ, faultA]
  repeat (with_reducible refine And.intro ?_ ?_; · first | trivial | omega | (intro hg; simp only [Bool.and_eq_true, Bool.or_eq_true, Bool.not_eq_true', Bool.and_eq_false_iff, Bool.or_eq_false_iff, Bool.not_eq_false', decide_eq_true_eq, decide_eq_false_iff_not, eqNil] at hg; omega) | (simp only [List.length_append, List.length_map, List.length_range, List.length_replicate, List.length_take, List.length_drop, List.length_cons, List.length_nil, List.length_set, List.length_reverse]; omega))
  refine aOps_alloc ze34 (cs := [.int .i64 0, .int .i64 0, .int .i64 0]) (by rfl) fun k2q9 hk2q9 => ?_
  have hn_2q9 : h2q5 k2q9 = none := by first | assumption | (simp only [AHeap.set_none] at hk2q9; simp only [hk2q9])
  have hf_2q9 : h k2q9 = none := Sub.none hs_h2q5 hn_2q9
  have ne_2q9_1q6 : k2q9 ≠ k1q6 := AHeap.ne_some hn_2q9 eb_1q6
  simp (decide := true) only [ev, putD, Slots.put, Slots.get, if_true, if_false, true_and, ↓ap_assign, pop_assign]
  repeat (with_reducible refine And.intro ?_ ?_; · first | trivial | omega | (intro hg; simp only [Bool.and_eq_true, Bool.or_eq_true, Bool.not_eq_true', Bool.and_eq_false_iff, Bool.or_eq_false_iff, Bool.not_eq_false', decide_eq_true_eq, decide_eq_false_iff_not, eqNil] at hg; omega) | (simp only [List.length_append, List.length_map, List.length_range, List.length_replicate, List.length_take, List.length_drop, List.length_cons, List.length_nil, List.length_set, List.length_reverse]; omega))
  refine aOps_store (by rfl) (by rfl) (by repeat (first | exact AHeap.set_same _ _ _ | assumption | refine (AHeap.set_ne _ _ (by first | assumption | exact Ne.symm (by assumption))).trans ?_)) sz34 (by rfl) (by rfl) (by first | exact Nat.le_refl _ | decide | (simp; done) | (simp; omega)) (Nat.zero_le _) (by rfl) ?_
  simp only [AHeap.set_set, AVal.cells]
  simp (decide := true) only [aOps_nil, ev, putD, Slots.get, Slots.keep, if_true, if_false, setAt, List.set_cons_zero, List.set_cons_succ, Nat.zero_add, Nat.reduceAdd]
  repeat (with_reducible refine And.intro ?_ ?_; · first | trivial | omega | (intro hg; simp only [Bool.and_eq_true, Bool.or_eq_true, Bool.not_eq_true', Bool.and_eq_false_iff, Bool.or_eq_false_iff, Bool.not_eq_false', decide_eq_true_eq, decide_eq_false_iff_not, eqNil] at hg; omega) | (simp only [List.length_append, List.length_map, List.length_range, List.length_replicate, List.length_take, List.length_drop, List.length_cons, List.length_nil, List.length_set, List.length_reverse]; omega))
  apply hK; clear hK K
  -- region 3  law.go:33
  refine awp_rseq [1, 2, 3, 4, 5, 6] (by rfl) fun K hK => ?_
  refine aOps_callV (V := .str (sp 11)) (by rfl) (by rfl) (c_spaces w₀ _ 11 (by decide)) ?_
  simp (decide := true) only [ev, absV, absS, putD, Slots.put, Slots.get, if_true, if_false, true_and, ↓ap_binOp, pop_binOp, isNilC_str, cond_false, pBinX_str, pS_add]
  repeat (with_reducible refine And.intro ?_ ?_; · first | trivial | omega | (intro hg; simp only [Bool.and_eq_true, Bool.or_eq_true, Bool.not_eq_true', Bool.and_eq_false_iff, Bool.or_eq_false_iff, Bool.not_eq_false', decide_eq_true_eq, decide_eq_false_iff_not, eqNil] at hg; omega) | (simp only [List.length_append, List.length_map, List.length_range, List.length_replicate, List.length_take, List.length_drop, List.length_cons, List.length_nil, List.length_set, List.length_reverse]; omega))
  refine aOps_callV (V := .str (sp 6)) (by rfl) (by rfl) (c_spaces w₀ _ 6 (by decide)) ?_
  simp (decide := true) only [ev, absV, absS, putD, Slots.put, Slots.get, if_true, if_false, true_and, ↓ap_binOp, pop_binOp, isNilC_tmp, cond_false, pBinX_str, pS_add, isNilC_str]
  repeat (with_reducible refine And.intro ?_ ?_; · first | trivial | omega | (intro hg; simp only [Bool.and_eq_true, Bool.or_eq_true, Bool.not_eq_true', Bool.and_eq_false_iff, Bool.or_eq_false_iff, Bool.not_eq_false', decide_eq_true_eq, decide_eq_false_iff_not, eqNil] at hg; omega) | (simp only [List.length_append, List.length_map, List.length_range, List.length_replicate, List.length_take, List.length_drop, List.length_cons, List.length_nil, List.length_set, List.length_reverse]; omega))
  refine aOps_call (by rfl) (by rfl) (c_read1 w₀ hm _ (sp 11 ++ [65, 32, 34, 66, 10] ++ sp 6 ++ [45, 32, 32, 32, 32, 34, 67, 34, 10]) (by decide)) fun x3q5 h3q5 hx3q5 => ?_
  rw [rt3] at hx3q5
  obtain ⟨rfl, hs3⟩ := hx3q5
  have hs_h3q5 : Sub h h3q5 := Sub.trans (by repeat (first | exact Sub.refl _ | assumption | refine Sub.trans_set ?_ (by assumption))) hs3
  have hr_h3q5 : Sub h2q5 h3q5 := Sub.trans (by repeat (first | exact Sub.refl _ | assumption | refine Sub.trans_set ?_ (by assumption))) hs3
  have eb_2q9 := hs3 k2q9 _ (by repeat (first | exact AHeap.set_same _ _ _ | assumption | refine (AHeap.set_ne _ _ (by first | assumption | exact Ne.symm (by assumption))).trans ?_))
  have eb_1q6 := hs3 k1q6 _ (by repeat (first | exact AHeap.set_same _ _ _ | assumption | refine (AHeap.set_ne _ _ (by first | assumption | exact Ne.symm (by assumption))).trans ?_))
  simp (decide := true) only [ev, putD, Slots.put, Slots.get, if_true, if_false, true_and, ↓ap_move, pop_move, ↓ap_extract, pop_extract, pExt_tuple, List.getD_cons_zero, List.getD_cons_succ, List.getD_cons_zero, List.getD_cons_succ, faultA]
  repeat (with_reducible refine And.intro ?_ ?_; · first | trivial | omega | (intro hg; simp only [Bool.and_eq_true, Bool.or_eq_true, Bool.not_eq_true', Bool.and_eq_false_iff, Bool.or_eq_false_iff, Bool.not_eq_false', decide_eq_true_eq, decide_eq_false_iff_not, eqNil] at hg; omega) | (simp only [List.length_append, List.length_map, List.length_range, List.length_replicate, List.length_take, List.length_drop, List.length_cons, List.length_nil, List.length_set, List.length_reverse]; omega))
  refine aOps_alloc ze34 (cs := [.int .i64 0, .int .i64 0, .int .i64 0]) (by rfl) fun k3q9 hk3q9 => ?_
  have hn_3q9 : h3q5 k3q9 = none := by first | assumption | (simp only [AHeap.set_none] at hk3q9; simp only [hk3q9])
  have hf_3q9 : h k3q9 = none := Sub.none hs_h3q5 hn_3q9
  have ne_3q9_1q6 : k3q9 ≠ k1q6 := AHeap.ne_some hn_3q9 eb_1q6
  have ne_3q9_2q9 : k3q9 ≠ k2q9 := AHeap.ne_some hn_3q9 eb_2q9
  simp (decide := true) only [ev, putD, Slots.put, Slots.get, if_true, if_false, true_and, ↓ap_assign, pop_assign]
  repeat (with_reducible refine And.intro ?_ ?_; · first | trivial | omega | (intro hg; simp only [Bool.and_eq_true, Bool.or_eq_true, Bool.not_eq_true', Bool.and_eq_false_iff, Bool.or_eq_false_iff, Bool.not_eq_false', decide_eq_true_eq, decide_eq_false_iff_not, eqNil] at hg; omega) | (simp only [List.length_append, List.length_map, List.length_range, List.length_replicate, List.length_take, List.length_drop, List.length_cons, List.length_nil, List.length_set, List.length_reverse]; omega))
  refine aOps_store (by rfl) (by rfl) (by repeat (first | exact AHeap.set_same _ _ _ | assumption | refine (AHeap.set_ne _ _ (by first | assumption | exact Ne.symm (by assumption))).trans ?_)) sz34 (by rfl) (by rfl) (by first | exact Nat.le_refl _ | decide | (simp; done) | (simp; omega)) (Nat.zero_le _) (by rfl) ?_
  simp only [AHeap.set_set, AVal.cells]
  simp (decide := true) only [aOps_nil, ev, putD, Slots.get, Slots.keep, if_true, if_false, setAt, List.set_cons_zero, List.set_cons_succ, Nat.zero_add, Nat.reduceAdd]
  repeat (with_reducible refine And.intro ?_ ?_; · first | trivial | omega | (intro hg; simp only [Bool.and_eq_true, Bool.or_eq_true, Bool.not_eq_true', Bool.and_eq_false_iff, Bool.or_eq_false_iff, Bool.not_eq_false', decide_eq_true_eq, decide_eq_false_iff_not, eqNil] at hg; omega) | (simp only [List.length_append, List.length_map, List.length_range, List.length_replicate, List.length_take, List.length_drop, List.length_cons, List.length_nil, List.length_set, List.length_reverse]; omega))
  apply hK; clear hK K
  -- region 4  law.go:34
  refine awp_rseq [1, 2, 3, 4, 5, 6, 7, 8] (by rfl) fun K hK => ?_
  refine aOps_callV (V := .str (sp 11)) (by rfl) (by rfl) (c_spaces w₀ _ 11 (by decide)) ?_
  simp (decide := true) only [ev, absV, absS, putD, Slots.put, Slots.get, if_true, if_false, true_and, ↓ap_binOp, pop_binOp, isNilC_str, cond_false, pBinX_str, pS_add]
  repeat (with_reducible refine And.intro ?_ ?_; · first | trivial | omega | (intro hg; simp only [Bool.and_eq_true, Bool.or_eq_true, Bool.not_eq_true', Bool.and_eq_false_iff, Bool.or_eq_false_iff, Bool.not_eq_false', decide_eq_true_eq, decide_eq_false_iff_not, eqNil] at hg; omega) | (simp only [List.length_append, List.length_map, List.length_range, List.length_replicate, List.length_take, List.length_drop, List.length_cons, List.length_nil, List.length_set, List.length_reverse]; omega))
  refine aOps_callV (V := .str (sp 6)) (by rfl) (by rfl) (c_spaces w₀ _ 6 (by decide)) ?_
  simp (decide := true) only [ev, absV, absS, putD, Slots.put, Slots.get, if_true, if_false, true_and, ↓ap_binOp, pop_binOp, isNilC_tmp, cond_false, pBinX_str, pS_add, isNilC_str]
  repeat (with_reducible refine And.intro ?_ ?_; · first | trivial | omega | (intro hg; simp only [Bool.and_eq_true, Bool.or_eq_true, Bool.not_eq_true', Bool.and_eq_false_iff, Bool.or_eq_false_iff, Bool.not_eq_false', decide_eq_true_eq, decide_eq_false_iff_not, eqNil] at hg; omega) | (simp only [List.length_append, List.length_map, List.length_range, List.length_replicate, List.length_take, List.length_drop, List.length_cons, List.length_nil, List.length_set, List.length_reverse]; omega))
  refine aOps_call (by rfl) (by rfl) (c_read1 w₀ hm _ (sp 11 ++ [80, 69, 82, 70, 10] ++ sp 6 ++ [45, 32, 32, 32, 32, 79, 82, 77, 32, 80]) (by decide)) fun x4q5 h4q5 hx4q5 => ?_
  rw [rt4] at hx4q5
  obtain ⟨rfl, hs4⟩ := hx4q5
  have hs_h4q5 : Sub h h4q5 := Sub.trans (by repeat (first | exact Sub.refl _ | assumption | refine Sub.trans_set ?_ (by assumption))) hs4
  have hr_h4q5 : Sub h3q5 h4q5 := Sub.trans (by repeat (first | exact Sub.refl _ | assumption | refine Sub.trans_set ?_ (by assumption))) hs4
  have eb_3q9 := hs4 k3q9 _ (by repeat (first | exact AHeap.set_same _ _ _ | assumption | refine (AHeap.set_ne _ _ (by first | assumption | exact Ne.symm (by assumption))).trans ?_))
  have eb_1q6 := hs4 k1q6 _ (by repeat (first | exact AHeap.set_same _ _ _ | assumption | refine (AHeap.set_ne _ _ (by first | assumption | exact Ne.symm (by assumption))).trans ?_))
  have eb_2q9 := hs4 k2q9 _ (by repeat (first | exact AHeap.set_same _ _ _ | assumption | refine (AHeap.set_ne _ _ (by first | assumption | exact Ne.symm (by assumption))).trans ?_))
  simp (decide := true) only [ev, putD, Slots.put, Slots.get, if_true, if_false, true_and, ↓ap_move, pop_move, ↓ap_extract, pop_extract, pExt_tuple, List.getD_cons_zero, List.getD_cons_succ, List.getD_cons_zero, List.getD_cons_succ, faultA]
  repeat (with_reducible refine And.intro ?_ ?_; · first | trivial | omega | (intro hg; simp only [Bool.and_eq_true, Bool.or_eq_true, Bool.not_eq_true', Bool.and_eq_false_iff, Bool.or_eq_false_iff, Bool.not_eq_false', decide_eq_true_eq, decide_eq_false_iff_not, eqNil] at hg; omega) | (simp only [List.length_append, List.length_map, List.length_range, List.length_replicate, List.length_take, List.length_drop, List.length_cons, List.length_nil, List.length_set, List.length_reverse]; omega))
  refine aOps_alloc ze34 (cs := [.int .i64 0, .int .i64 0, .int .i64 0]) (by rfl) fun k4q9 hk4q9 => ?_
  have hn_4q9 : h4q5 k4q9 = none := by first | assumption | (simp only [AHeap.set_none] at hk4q9; simp only [hk4q9])
  have hf_4q9 : h k4q9 = none := Sub.none hs_h4q5 hn_4q9
  have ne_4q9_1q6 : k4q9 ≠ k1q6 := AHeap.ne_some hn_4q9 eb_1q6
  have ne_4q9_2q9 : k4q9 ≠ k2q9 := AHeap.ne_some hn_4q9 eb_2q9
  have ne_4q9_3q9 : k4q9 ≠ k3q9 := AHeap.ne_some hn_4q9 eb_3q9
  simp (decide := true) only [ev, putD, Slots.put, Slots.get, if_true, if_false, true_and, ↓ap_assign, pop_assign]
  repeat (with_reducible refine And.intro ?_ ?_; · first | trivial | omega | (intro hg; simp only [Bool.and_eq_true, Bool.or_eq_true, Bool.not_eq_true', Bool.and_eq_false_iff, Bool.or_eq_false_iff, Bool.not_eq_false', decide_eq_true_eq, decide_eq_false_iff_not, eqNil] at hg; omega) | (simp only [List.length_append, List.length_map, List.length_range, List.length_replicate, List.length_take, List.length_drop, List.length_cons, List.length_nil, List.length_set, List.length_reverse]; omega))
  refine aOps_store (by rfl) (by rfl) (by repeat (first | exact AHeap.set_same _ _ _ | assumption | refine (AHeap.set_ne _ _ (by first | assumption | exact Ne.symm (by assumption))).trans ?_)) sz34 (by rfl) (by rfl) (by first | exact Nat.le_refl _ | decide | (simp; done) | (simp; omega)) (Nat.zero_le _) (by rfl) ?_
  simp only [AHeap.set_set, AVal.cells]
  simp (decide := true) only [aOps_nil, ev, putD, Slots.get, Slots.keep, if_true, if_false, setAt, List.set_cons_zero, List.set_cons_succ, Nat.zero_add, Nat.reduceAdd]
  repeat (with_reducible refine And.intro ?_ ?_; · first | trivial | omega | (intro hg; simp only [Bool.and_eq_true, Bool.or_eq_true, Bool.not_eq_true', Bool.and_eq_false_iff, Bool.or_eq_false_iff, Bool.not_eq_false', decide_eq_true_eq, decide_eq_false_iff_not, eqNil] at hg; omega) | (simp only [List.length_append, List.length_map, List.length_range, List.length_replicate, List.length_take, List.length_drop, List.length_cons, List.length_nil, List.length_set, List.length_reverse]; omega))
  apply hK; clear hK K
  -- region 5  law.go:35
  refine awp_rseq [1, 2, 3, 4, 5, 6, 7, 8, 10] (by rfl) fun K hK => ?_
  refine aOps_callV (V := .str (sp 6)) (by rfl) (by rfl) (c_spaces w₀ _ 6 (by decide)) ?_
  simp (decide := true) only [ev, absV, absS, putD, Slots.put, Slots.get, if_true, if_false, true_and, ↓ap_binOp, pop_binOp, isNilC_str, cond_false, pBinX_str, pS_add]
  repeat (with_reducible refine And.intro ?_ ?_; · first | trivial | omega | (intro hg; simp only [Bool.and_eq_true, Bool.or_eq_true, Bool.not_eq_true', Bool.and_eq_false_iff, Bool.or_eq_false_iff, Bool.not_eq_false', decide_eq_true_eq, decide_eq_false_iff_not, eqNil] at hg; omega) | (simp only [List.length_append, List.length_map, List.length_range, List.length_replicate, List.length_take, List.length_drop, List.length_cons, List.length_nil, List.length_set, List.length_reverse]; omega))
  refine aOps_call (by rfl) (by rfl) (c_read1 w₀ hm _ (sp 6 ++ [45, 32, 32, 32, 32, 88]) (by decide)) fun x5q2 h5q2 hx5q2 => ?_
  rw [rt5] at hx5q2
  obtain ⟨rfl, hs5⟩ := hx5q2
  have hs_h5q2 : Sub h h5q2 := Sub.trans (by repeat (first | exact Sub.refl _ | assumption | refine Sub.trans_set ?_ (by assumption))) hs5
  have hr_h5q2 : Sub h4q5 h5q2 := Sub.trans (by repeat (first | exact Sub.refl _ | assumption | refine Sub.trans_set ?_ (by assumption))) hs5
  have eb_4q9 := hs5 k4q9 _ (by repeat (first | exact AHeap.set_same _ _ _ | assumption | refine (AHeap.set_ne _ _ (by first | assumption | exact Ne.symm (by assumption))).trans ?_))
  have eb_1q6 := hs5 k1q6 _ (by repeat (first | exact AHeap.set_same _ _ _ | assumption | refine (AHeap.set_ne _ _ (by first | assumption | exact Ne.symm (by assumption))).trans ?_))
  have eb_2q9 := hs5 k2q9 _ (by repeat (first | exact AHeap.set_same _ _ _ | assumption | refine (AHeap.set_ne _ _ (by first | assumption | exact Ne.symm (by assumption))).trans ?_))
  have eb_3q9 := hs5 k3q9 _ (by repeat (first | exact AHeap.set_same _ _ _ | assumption | refine (AHeap.set_ne _ _ (by first | assumption | exact Ne.symm (by assumption))).trans ?_))
  simp (decide := true) only [ev, putD, Slots.put, Slots.get, if_true, if_false, true_and, ↓ap_move, pop_move, ↓ap_extract, pop_extract, pExt_tuple, List.getD_cons_zero, List.getD_cons_succ, List.getD_cons_zero, List.getD_cons_succ, faultA]
  repeat (with_reducible refine And.intro ?_ ?_; · first | trivial | omega | (intro hg; simp only [Bool.and_eq_true, Bool.or_eq_true, Bool.not_eq_true', Bool.and_eq_false_iff, Bool.or_eq_false_iff, Bool.not_eq_false', decide_eq_true_eq, decide_eq_false_iff_not, eqNil] at hg; omega) | (simp only [List.length_append, List.length_map, List.length_range, List.length_replicate, List.length_take, List.length_drop, List.length_cons, List.length_nil, List.length_set, List.length_reverse]; omega))
  refine aOps_alloc ze34 (cs := [.int .i64 0, .int .i64 0, .int .i64 0]) (by rfl) fun k5q6 hk5q6 => ?_
  have hn_5q6 : h5q2 k5q6 = none := by first | assumption | (simp only [AHeap.set_none] at hk5q6; simp only [hk5q6])
  have hf_5q6 : h k5q6 = none := Sub.none hs_h5q2 hn_5q6
  have ne_5q6_1q6 : k5q6 ≠ k1q6 := AHeap.ne_some hn_5q6 eb_1q6
  have ne_5q6_2q9 : k5q6 ≠ k2q9 := AHeap.ne_some hn_5q6 eb_2q9
  have ne_5q6_3q9 : k5q6 ≠ k3q9 := AHeap.ne_some hn_5q6 eb_3q9
  have ne_5q6_4q9 : k5q6 ≠ k4q9 := AHeap.ne_some hn_5q6 eb_4q9
  simp (decide := true) only [ev, putD, Slots.put, Slots.get, if_true, if_false, true_and, ↓ap_assign, pop_assign]
  repeat (with_reducible refine And.intro ?_ ?_; · first | trivial | omega | (intro hg; simp only [Bool.and_eq_true, Bool.or_eq_true, Bool.not_eq_true', Bool.and_eq_false_iff, Bool.or_eq_false_iff, Bool.not_eq_false', decide_eq_true_eq, decide_eq_false_iff_not, eqNil] at hg; omega) | (simp only [List.length_append, List.length_map, List.length_range, List.length_replicate, List.length_take, List.length_drop, List.length_cons, List.length_nil, List.length_set, List.length_reverse]; omega))
  refine aOps_store (by rfl) (by rfl) (by repeat (first | exact AHeap.set_same _ _ _ | assumption | refine (AHeap.set_ne _ _ (by first | assumption | exact Ne.symm (by assumption))).trans ?_)) sz34 (by rfl) (by rfl) (by first | exact Nat.le_refl _ | decide | (simp; done) | (simp; omega)) (Nat.zero_le _) (by rfl) ?_
  simp only [AHeap.set_set, AVal.cells]
  simp (decide := true) only [aOps_nil, ev, putD, Slots.get, Slots.keep, if_true, if_false, setAt, List.set_cons_zero, List.set_cons_succ, Nat.zero_add, Nat.reduceAdd]
  repeat (with_reducible refine And.intro ?_ ?_; · first | trivial | omega | (intro hg; simp only [Bool.and_eq_true, Bool.or_eq_true, Bool.not_eq_true', Bool.and_eq_false_iff, Bool.or_eq_false_iff, Bool.not_eq_false', decide_eq_true_eq, decide_eq_false_iff_not, eqNil] at hg; omega) | (simp only [List.length_append, List.length_map, List.length_range, List.length_replicate, List.length_take, List.length_drop, List.length_cons, List.length_nil, List.length_set, List.length_reverse]; omega))
  apply hK; clear hK K
  -- region 6  law.go:36
  refine awp_rseq [1, 2, 3, 4, 5, 6, 7, 8, 10, 12] (by rfl) fun K hK => ?_
  refine aOps_callV (V := .str (sp 11)) (by rfl) (by rfl) (c_spaces w₀ _ 11 (by decide)) ?_
  simp (decide := true) only [ev, absV, absS, putD, Slots.put, Slots.get, if_true, if_false, true_and, ↓ap_binOp, pop_binOp, isNilC_str, cond_false, pBinX_str, pS_add]
  repeat (with_reducible refine And.intro ?_ ?_; · first | trivial | omega | (intro hg; simp only [Bool.and_eq_true, Bool.or_eq_true, Bool.not_eq_true', Bool.and_eq_false_iff, Bool.or_eq_false_iff, Bool.not_eq_false', decide_eq_true_eq, decide_eq_false_iff_not, eqNil] at hg; omega) | (simp only [List.length_append, List.length_map, List.length_range, List.length_replicate, List.length_take, List.length_drop, List.length_cons, List.length_nil, List.length_set, List.length_reverse]; omega))
  refine aOps_call (by rfl) (by rfl) (c_read1 w₀ hm _ (sp 11 ++ [65, 32, 34, 66]) (by decide)) fun x6q2 h6q2 hx6q2 => ?_
  rw [rt6] at hx6q2
  obtain ⟨rfl, hs6⟩ := hx6q2
  have hs_h6q2 : Sub h h6q2 := Sub.trans (by repeat (first | exact Sub.refl _ | assumption | refine Sub.trans_set ?_ (by assumption))) hs6
  have hr_h6q2 : Sub h5q2 h6q2 := Sub.trans (by repeat (first | exact Sub.refl _ | assumption | refine Sub.trans_set ?_ (by assumption))) hs6
  have eb_5q6 := hs6 k5q6 _ (by repeat (first | exact AHeap.set_same _ _ _ | assumption | refine (AHeap.set_ne _ _ (by first | assumption | exact Ne.symm (by assumption))).trans ?_))
  have eb_1q6 := hs6 k1q6 _ (by repeat (first | exact AHeap.set_same _ _ _ | assumption | refine (AHeap.set_ne _ _ (by first | assumption | exact Ne.symm (by assumption))).trans ?_))
  have eb_2q9 := hs6 k2q9 _ (by repeat (first | exact AHeap.set_same _ _ _ | assumption | refine (AHeap.set_ne _ _ (by first | assumption | exact Ne.symm (by assumption))).trans ?_))
  have eb_3q9 := hs6 k3q9 _ (by repeat (first | exact AHeap.set_same _ _ _ | assumption | refine (AHeap.set_ne _ _ (by first | assumption | exact Ne.symm (by assumption))).trans ?_))
  have eb_4q9 := hs6 k4q9 _ (by repeat (first | exact AHeap.set_same _ _ _ | assumption | refine (AHeap.set_ne _ _ (by first | assumption | exact Ne.symm (by assumption))).trans ?_))
  simp (decide := true) only [ev, putD, Slots.put, Slots.get, if_true, if_false, true_and, ↓ap_move, pop_move, ↓ap_extract, pop_extract, pExt_tuple, List.getD_cons_zero, List.getD_cons_succ, List.getD_cons_zero, List.getD_cons_succ, faultA]
  repeat (with_reducible refine And.intro ?_ ?_; · first | trivial | omega | (intro hg; simp only [Bool.and_eq_true, Bool.or_eq_true, Bool.not_eq_true', Bool.and_eq_false_iff, Bool.or_eq_false_iff, Bool.not_eq_false', decide_eq_true_eq, decide_eq_false_iff_not, eqNil] at hg; omega) | (simp only [List.length_append, List.length_map, List.length_range, List.length_replicate, List.length_take, List.length_drop, List.length_cons, List.length_nil, List.length_set, List.length_reverse]; omega))
  refine aOps_alloc ze34 (cs := [.int .i64 0, .int .i64 0, .int .i64 0]) (by rfl) fun k6q6 hk6q6 => ?_
  have hn_6q6 : h6q2 k6q6 = none := by first | assumption | (simp only [AHeap.set_none] at hk6q6; simp only [hk6q6])
  have hf_6q6 : h k6q6 = none := Sub.none hs_h6q2 hn_6q6
  have ne_6q6_1q6 : k6q6 ≠ k1q6 := AHeap.ne_some hn_6q6 eb_1q6
  have ne_6q6_2q9 : k6q6 ≠ k2q9 := AHeap.ne_some hn_6q6 eb_2q9
  have ne_6q6_3q9 : k6q6 ≠ k3q9 := AHeap.ne_some hn_6q6 eb_3q9
  have ne_6q6_4q9 : k6q6 ≠ k4q9 := AHeap.ne_some hn_6q6 eb_4q9
  have ne_6q6_5q6 : k6q6 ≠ k5q6 := AHeap.ne_some hn_6q6 eb_5q6
  simp (decide := true) only [ev, putD, Slots.put, Slots.get, if_true, if_false, true_and, ↓ap_assign, pop_assign]
  repeat (with_reducible refine And.intro ?_ ?_; · first | trivial | omega | (intro hg; simp only [Bool.and_eq_true, Bool.or_eq_true, Bool.not_eq_true', Bool.and_eq_false_iff, Bool.or_eq_false_iff, Bool.not_eq_false', decide_eq_true_eq, decide_eq_false_iff_not, eqNil] at hg; omega) | (simp only [List.length_append, List.length_map, List.length_range, List.length_replicate, List.length_take, List.length_drop, List.length_cons, List.length_nil, List.length_set, List.length_reverse]; omega))
  refine aOps_store (by rfl) (by rfl) (by repeat (first | exact AHeap.set_same _ _ _ | assumption | refine (AHeap.set_ne _ _ (by first | assumption | exact Ne.symm (by assumption))).trans ?_)) sz34 (by rfl) (by rfl) (by first | exact Nat.le_refl _ | decide | (simp; done) | (simp; omega)) (Nat.zero_le _) (by rfl) ?_
  simp only [AHeap.set_set, AVal.cells]
  simp (decide := true) only [aOps_nil, ev, putD, Slots.get, Slots.keep, if_true, if_false, setAt, List.set_cons_zero, List.set_cons_succ, Nat.zero_add, Nat.reduceAdd]
  repeat (with_reducible refine And.intro ?_ ?_; · first | trivial | omega | (intro hg; simp only [Bool.and_eq_true, Bool.or_eq_true, Bool.not_eq_true', Bool.and_eq_false_iff, Bool.or_eq_false_iff, Bool.not_eq_false', decide_eq_true_eq, decide_eq_false_iff_not, eqNil] at hg; omega) | (simp only [List.length_append, List.length_map, List.length_range, List.length_replicate, List.length_take, List.length_drop, List.length_cons, List.length_nil, List.length_set, List.length_reverse]; omega))
  apply hK; clear hK K
  -- region 7  law.go:37
  refine awp_rseq [1, 2, 3, 4, 5, 6, 7, 8, 10, 12, 13] (by rfl) fun K hK => ?_
  simp (decide := true) only [ev, absV, absS, putD, Slots.put, Slots.get, if_false, true_and, ↓ap_build, ↓pop_buildL, bld34_, evP, List.map_nil]
  repeat (with_reducible refine And.intro ?_ ?_; · first | trivial | omega | (intro hg; simp only [Bool.and_eq_true, Bool.or_eq_true, Bool.not_eq_true', Bool.and_eq_false_iff, Bool.or_eq_false_iff, Bool.not_eq_false', decide_eq_true_eq, decide_eq_false_iff_not, eqNil] at hg; omega) | (simp only [List.length_append, List.length_map, List.length_range, List.length_replicate, List.length_take, List.length_drop, List.length_cons, List.length_nil, List.length_set, List.length_reverse]; omega))
  refine aOps_alloc ze34 (cs := [.int .i64 0, .int .i64 0, .int .i64 0]) (by rfl) fun k7q1 hk7q1 => ?_
  have ne_7q1_6q6 : k7q1 ≠ k6q6 := by simp only [AHeap.set_none] at hk7q1; simp only [hk7q1, ne_eq, not_false_eq_true]
  have hn_7q1 : h6q2 k7q1 = none := by first | assumption | (simp only [AHeap.set_none] at hk7q1; simp only [hk7q1])
  have hf_7q1 : h k7q1 = none := Sub.none hs_h6q2 hn_7q1
  have ne_7q1_1q6 : k7q1 ≠ k1q6 := AHeap.ne_some hn_7q1 eb_1q6
  have ne_7q1_2q9 : k7q1 ≠ k2q9 := AHeap.ne_some hn_7q1 eb_2q9
  have ne_7q1_3q9 : k7q1 ≠ k3q9 := AHeap.ne_some hn_7q1 eb_3q9
  have ne_7q1_4q9 : k7q1 ≠ k4q9 := AHeap.ne_some hn_7q1 eb_4q9
  have ne_7q1_5q6 : k7q1 ≠ k5q6 := AHeap.ne_some hn_7q1 eb_5q6
  refine aOps_store (by rfl) (by rfl) (by repeat (first | exact AHeap.set_same _ _ _ | assumption | refine (AHeap.set_ne _ _ (by first | assumption | exact Ne.symm (by assumption))).trans ?_)) sz34 (by rfl) (by rfl) (by first | exact Nat.le_refl _ | decide | (simp; done) | (simp; omega)) (Nat.zero_le _) (by rfl) ?_
  simp only [AHeap.set_set, AVal.cells]
  simp (decide := true) only [aOps_nil, ev, putD, Slots.put, Slots.get, Slots.keep, if_true, if_false, setAt, List.set_cons_zero, List.set_cons_succ, Nat.zero_add, Nat.reduceAdd]
  repeat (with_reducible refine And.intro ?_ ?_; · first | trivial | omega | (intro hg; simp only [Bool.and_eq_true, Bool.or_eq_true, Bool.not_eq_true', Bool.and_eq_false_iff, Bool.or_eq_false_iff, Bool.not_eq_false', decide_eq_true_eq, decide_eq_false_iff_not, eqNil] at hg; omega) | (simp only [List.length_append, List.length_map, List.length_range, List.length_replicate, List.length_take, List.length_drop, List.length_cons, List.length_nil, List.length_set, List.length_reverse]; omega))
  apply hK; clear hK K
  refine awp_seq ?_
  -- region 8  law.go:38
  refine awp_rseq [112] (by rfl) fun K hK => ?_
  simp (decide := true) only [ev, absV, absS, putD, Slots.put, Slots.get, if_true, if_false, true_and, ↓ap_loadL, apL_mk, pLoad_agg ag34 sz34, ↓ap_binOp, pop_binOp, isNilC_tmp, cond_false, pBinX_agg, ne34, ↓ap_move, pop_move, ↓ag_loadL, agQL_some, agL_mk, agP, agQ_some, nthDst, gKnown_bool, guardB_bool_false, implies_true, decide_true, Bool.not_false, Bool.not_true, condV_true, Bool.and_true, ↓ag_binOp, ↓ap_pick, pop_pick, pPick_bool, pickV_and, ↓ag_move, isNilC_str, pBinX_str, pS_neq, rd_ne', ne_eq, not_false_eq_true, ne_6q6_1q6.symm, ne_6q6_2q9.symm, ne_6q6_3q9.symm, ne_6q6_4q9.symm, ne_7q1_1q6.symm, ne_7q1_2q9.symm, ne_7q1_3q9.symm, ne_7q1_4q9.symm, rd_own w₀ eb_1q6, rd_own w₀ eb_2q9, rd_own w₀ eb_3q9, rd_own w₀ eb_4q9, rd_any, cellsAt, List.getD_cons_zero, List.getD_cons_succ, Nat.zero_add, Nat.reduceAdd, lv_int, allLive, Bool.and_true]
  repeat (with_reducible refine And.intro ?_ ?_; · first | trivial | omega | (intro hg; simp only [Bool.and_eq_true, Bool.or_eq_true, Bool.not_eq_true', Bool.and_eq_false_iff, Bool.or_eq_false_iff, Bool.not_eq_false', decide_eq_true_eq, decide_eq_false_iff_not, eqNil] at hg; omega) | (simp only [List.length_append, List.length_map, List.length_range, List.length_replicate, List.length_take, List.length_drop, List.length_cons, List.length_nil, List.length_set, List.length_reverse]; omega))
  first
  | (refine aOps_yes (by rfl) ?_; refine aOps_callV (V := .str (sp 57)) (by rfl) (by rfl) (c_spaces w₀ _ 57 (by decide)) ?_)
  | (refine aOps_gcall (V := .str (sp 57)) (f := _) (cap := _) (xs := _) rfl (fun hg => ⟨rfl, ?_⟩) (fun hg => c_spaces w₀ _ 57 (by decide)) ?_; · (simp (decide := true) only [gv, nthDst, Slots.get, if_true, if_false, guardB_bool_true, guardB_bool_false, guardB_cond, Bool.not_not] at hg; simp (decide := true) only [evs, ev, Slots.get, if_true, if_false, hg, condV_true, List.append_nil, List.map_cons, List.map_nil, absV, absS] <;> try rfl))
  simp (decide := true) only [aOps_nil, ev, absV, absS, putD, Slots.put, Slots.get, Slots.keep, if_true, if_false, true_and, nthDst, guardB_bool_false, ↓ag_binOp, pop_binOp, agP, agQ_some, gKnown_bool, implies_true, decide_true, Bool.not_false, Bool.not_true, condV_true, Bool.and_true, isNilC_tmp, cond_false, pBinX_str, pS_add, isNilC_str, pS_neq, ↓ap_pick, pop_pick, pPick_bool, pickV_and, ↓ap_move, pop_move, ↓ag_move, ↓ag_loadL, agQL_some, agL_mk, pLoad_agg ag34 sz34, ↓ag_build, ↓pop_buildL, bld32_0_1, evP, List.map_cons, List.map_nil, bld34_0_1, pBinX_agg, ne34, rd_ne', ne_eq, not_false_eq_true, ne_6q6_5q6.symm, ne_7q1_6q6.symm, ne_7q1_5q6.symm, rd_own w₀ eb_5q6, rd_any, cellsAt, List.getD_cons_zero, List.getD_cons_succ, Nat.zero_add, Nat.reduceAdd, lv_int, allLive, Bool.and_true]
  repeat (with_reducible refine And.intro ?_ ?_; · first | trivial | omega | (intro hg; simp only [Bool.and_eq_true, Bool.or_eq_true, Bool.not_eq_true', Bool.and_eq_false_iff, Bool.or_eq_false_iff, Bool.not_eq_false', decide_eq_true_eq, decide_eq_false_iff_not, eqNil] at hg; omega) | (simp only [List.length_append, List.length_map, List.length_range, List.length_replicate, List.length_take, List.length_drop, List.length_cons, List.length_nil, List.length_set, List.length_reverse]; omega))
  apply hK; clear hK K
  refine awp_cond (b := _) rfl (fun hb1 => ?_) (fun hb1 => ?_)
  · exact absurd hb1 (by decide)
  · try simp only at hb1
    refine awp_skip ?_
    change Awp _ _ _ _ _ _ _
    -- region 10  law.go:41
    refine awp_rseq [14, 15] (by rfl) fun K hK => ?_
    simp (decide := true) only [ev, absV, absS, putD, Slots.put, Slots.get, if_false, true_and, ↓ap_build, ↓pop_buildL, bld27_1, evP, List.map_cons, List.map_nil]
    repeat (with_reducible refine And.intro ?_ ?_; · first | trivial | omega | (intro hg; simp only [Bool.and_eq_true, Bool.or_eq_true, Bool.not_eq_true', Bool.and_eq_false_iff, Bool.or_eq_false_iff, Bool.not_eq_false', decide_eq_true_eq, decide_eq_false_iff_not, eqNil] at hg; omega) | (simp only [List.length_append, List.length_map, List.length_range, List.length_replicate, List.length_take, List.length_drop, List.length_cons, List.length_nil, List.length_set, List.length_reverse]; omega))
    refine aOps_buildSlice (cs := [.bool false, .str [83, 84, 79, 80, 32, 82, 85, 78, 46]]) (by kernel_rfl) fun k10q1 hk10q1 => ?_
    have ne_10q1_6q6 : k10q1 ≠ k6q6 := by simp only [AHeap.set_none] at hk10q1; simp only [hk10q1, ne_eq, not_false_eq_true]
    have ne_10q1_7q1 : k10q1 ≠ k7q1 := by simp only [AHeap.set_none] at hk10q1; simp only [hk10q1, ne_eq, not_false_eq_true]
    have hn_10q1 : h6q2 k10q1 = none := by first | assumption | (simp only [AHeap.set_none] at hk10q1; simp only [hk10q1])
    have hf_10q1 : h k10q1 = none := Sub.none hs_h6q2 hn_10q1
    have ne_10q1_1q6 : k10q1 ≠ k1q6 := AHeap.ne_some hn_10q1 eb_1q6
    have ne_10q1_2q9 : k10q1 ≠ k2q9 := AHeap.ne_some hn_10q1 eb_2q9
    have ne_10q1_3q9 : k10q1 ≠ k3q9 := AHeap.ne_some hn_10q1 eb_3q9
    have ne_10q1_4q9 : k10q1 ≠ k4q9 := AHeap.ne_some hn_10q1 eb_4q9
    have ne_10q1_5q6 : k10q1 ≠ k5q6 := AHeap.ne_some hn_10q1 eb_5q6
    refine aOps_call (by rfl) (by rfl) (c_Write w₀ ht10 _ [(false, [83, 84, 79, 80, 32, 82, 85, 78, 46])] (.own k10q1) 0 (.exact 1) (isLines (ls := [(false, [83, 84, 79, 80, 32, 82, 85, 78, 46])]) (AHeap.set_same _ _ _) _ rfl) (by decide) (by decide)) fun x10q2 h10q2 hx10q2 => ?_
    rw [wr1] at hx10q2
    obtain ⟨rfl, hs10⟩ := hx10q2
    have hs_h10q2 : Sub h h10q2 := Sub.trans (by repeat (first | exact Sub.refl _ | assumption | refine Sub.trans_set ?_ (by assumption))) hs10
    have hr_h10q2 : Sub h6q2 h10q2 := Sub.trans (by repeat (first | exact Sub.refl _ | assumption | refine Sub.trans_set ?_ (by assumption))) hs10
    have eb_6q6 := hs10 k6q6 _ (by repeat (first | exact AHeap.set_same _ _ _ | assumption | refine (AHeap.set_ne _ _ (by first | assumption | exact Ne.symm (by assumption))).trans ?_))
    have eb_7q1 := hs10 k7q1 _ (by repeat (first | exact AHeap.set_same _ _ _ | assumption | refine (AHeap.set_ne _ _ (by first | assumption | exact Ne.symm (by assumption))).trans ?_))
    have eb_10q1 := hs10 k10q1 _ (by repeat (first | exact AHeap.set_same _ _ _ | assumption | refine (AHeap.set_ne _ _ (by first | assumption | exact Ne.symm (by assumption))).trans ?_))
    have eb_1q6 := hs10 k1q6 _ (by repeat (first | exact AHeap.set_same _ _ _ | assumption | refine (AHeap.set_ne _ _ (by first | assumption | exact Ne.symm (by assumption))).trans ?_))
    have eb_2q9 := hs10 k2q9 _ (by repeat (first | exact AHeap.set_same _ _ _ | assumption | refine (AHeap.set_ne _ _ (by first | assumption | exact Ne.symm (by assumption))).trans ?_))
    have eb_3q9 := hs10 k3q9 _ (by repeat (first | exact AHeap.set_same _ _ _ | assumption | refine (AHeap.set_ne _ _ (by first | assumption | exact Ne.symm (by assumption))).trans ?_))
    have eb_4q9 := hs10 k4q9 _ (by repeat (first | exact AHeap.set_same _ _ _ | assumption | refine (AHeap.set_ne _ _ (by first | assumption | exact Ne.symm (by assumption))).trans ?_))
    have eb_5q6 := hs10 k5q6 _ (by repeat (first | exact AHeap.set_same _ _ _ | assumption | refine (AHeap.set_ne _ _ (by first | assumption | exact Ne.symm (by assumption))).trans ?_))
    simp (decide := true) only [aOps_nil, ev, putD, Slots.put, Slots.get, Slots.keep, if_true, if_false, true_and, ↓ap_move, pop_move, ↓ap_extract, pop_extract, pExt_tuple, List.getD_cons_zero, List.getD_cons_succ, ↓ap_assign, pop_assign, List.getD_cons_zero, List.getD_cons_succ]
    repeat (with_reducible refine And.intro ?_ ?_; · first | trivial | omega | (intro hg; simp only [Bool.and_eq_true, Bool.or_eq_true, Bool.not_eq_true', Bool.and_eq_false_iff, Bool.or_eq_false_iff, Bool.not_eq_false', decide_eq_true_eq, decide_eq_false_iff_not, eqNil] at hg; omega) | (simp only [List.length_append, List.length_map, List.length_range, List.length_replicate, List.length_take, List.length_drop, List.length_cons, List.length_nil, List.length_set, List.length_reverse]; omega))
    apply hK; clear hK K
    -- region 11  law.go:42
    refine awp_rseq [14, 15, 16, 17] (by rfl) fun K hK => ?_
    simp (decide := true) only [ev, absV, absS, putD, Slots.put, Slots.get, if_false, true_and, ↓ap_build, ↓pop_buildL, bld27_0_1, evP, List.map_cons, List.map_nil]
    repeat (with_reducible refine And.intro ?_ ?_; · first | trivial | omega | (intro hg; simp only [Bool.and_eq_true, Bool.or_eq_true, Bool.not_eq_true', Bool.and_eq_false_iff, Bool.or_eq_false_iff, Bool.not_eq_false', decide_eq_true_eq, decide_eq_false_iff_not, eqNil] at hg; omega) | (simp only [List.length_append, List.length_map, List.length_range, List.length_replicate, List.length_take, List.length_drop, List.length_cons, List.length_nil, List.length_set, List.length_reverse]; omega))
    refine aOps_buildSlice (cs := [.bool true, .str [83, 84, 79, 80, 32, 82, 85, 78, 46]]) (by kernel_rfl) fun k11q1 hk11q1 => ?_
    have hn_11q1 : h10q2 k11q1 = none := by first | assumption | (simp only [AHeap.set_none] at hk11q1; simp only [hk11q1])
    have hf_11q1 : h k11q1 = none := Sub.none hs_h10q2 hn_11q1
    have ne_11q1_1q6 : k11q1 ≠ k1q6 := AHeap.ne_some hn_11q1 eb_1q6
    have ne_11q1_2q9 : k11q1 ≠ k2q9 := AHeap.ne_some hn_11q1 eb_2q9
    have ne_11q1_3q9 : k11q1 ≠ k3q9 := AHeap.ne_some hn_11q1 eb_3q9
    have ne_11q1_4q9 : k11q1 ≠ k4q9 := AHeap.ne_some hn_11q1 eb_4q9
    have ne_11q1_5q6 : k11q1 ≠ k5q6 := AHeap.ne_some hn_11q1 eb_5q6
    have ne_11q1_6q6 : k11q1 ≠ k6q6 := AHeap.ne_some hn_11q1 eb_6q6
    have ne_11q1_7q1 : k11q1 ≠ k7q1 := AHeap.ne_some hn_11q1 eb_7q1
    have ne_11q1_10q1 : k11q1 ≠ k10q1 := AHeap.ne_some hn_11q1 eb_10q1
    refine aOps_call (by rfl) (by rfl) (c_Write w₀ ht10 _ [(true, [83, 84, 79, 80, 32, 82, 85, 78, 46])] (.own k11q1) 0 (.exact 1) (isLines (ls := [(true, [83, 84, 79, 80, 32, 82, 85, 78, 46])]) (AHeap.set_same _ _ _) _ rfl) (by decide) (by decide)) fun x11q2 h11q2 hx11q2 => ?_
    rw [wr2] at hx11q2
    obtain ⟨rfl, hs11⟩ := hx11q2
    have hs_h11q2 : Sub h h11q2 := Sub.trans (by repeat (first | exact Sub.refl _ | assumption | refine Sub.trans_set ?_ (by assumption))) hs11
    have hr_h11q2 : Sub h10q2 h11q2 := Sub.trans (by repeat (first | exact Sub.refl _ | assumption | refine Sub.trans_set ?_ (by assumption))) hs11
    have eb_11q1 := hs11 k11q1 _ (by repeat (first | exact AHeap.set_same _ _ _ | assumption | refine (AHeap.set_ne _ _ (by first | assumption | exact Ne.symm (by assumption))).trans ?_))
    have eb_1q6 := hs11 k1q6 _ (by repeat (first | exact AHeap.set_same _ _ _ | assumption | refine (AHeap.set_ne _ _ (by first | assumption | exact Ne.symm (by assumption))).trans ?_))
    have eb_2q9 := hs11 k2q9 _ (by repeat (first | exact AHeap.set_same _ _ _ | assumption | refine (AHeap.set_ne _ _ (by first | assumption | exact Ne.symm (by assumption))).trans ?_))
    have eb_3q9 := hs11 k3q9 _ (by repeat (first | exact AHeap.set_same _ _ _ | assumption | refine (AHeap.set_ne _ _ (by first | assumption | exact Ne.symm (by assumption))).trans ?_))
    have eb_4q9 := hs11 k4q9 _ (by repeat (first | exact AHeap.set_same _ _ _ | assumption | refine (AHeap.set_ne _ _ (by first | assumption | exact Ne.symm (by assumption))).trans ?_))
    have eb_5q6 := hs11 k5q6 _ (by repeat (first | exact AHeap.set_same _ _ _ | assumption | refine (AHeap.set_ne _ _ (by first | assumption | exact Ne.symm (by assumption))).trans ?_))
    have eb_6q6 := hs11 k6q6 _ (by repeat (first | exact AHeap.set_same _ _ _ | assumption | refine (AHeap.set_ne _ _ (by first | assumption | exact Ne.symm (by assumption))).trans ?_))
    have eb_7q1 := hs11 k7q1 _ (by repeat (first | exact AHeap.set_same _ _ _ | assumption | refine (AHeap.set_ne _ _ (by first | assumption | exact Ne.symm (by assumption))).trans ?_))
    have eb_10q1 := hs11 k10q1 _ (by repeat (first | exact AHeap.set_same _ _ _ | assumption | refine (AHeap.set_ne _ _ (by first | assumption | exact Ne.symm (by assumption))).trans ?_))
    simp (decide := true) only [aOps_nil, ev, putD, Slots.put, Slots.get, Slots.keep, if_true, if_false, true_and, ↓ap_move, pop_move, ↓ap_extract, pop_extract, pExt_tuple, List.getD_cons_zero, List.getD_cons_succ, ↓ap_assign, pop_assign, List.getD_cons_zero, List.getD_cons_succ]
    repeat (with_reducible refine And.intro ?_ ?_; · first | trivial | omega | (intro hg; simp only [Bool.and_eq_true, Bool.or_eq_true, Bool.not_eq_true', Bool.and_eq_false_iff, Bool.or_eq_false_iff, Bool.not_eq_false', decide_eq_true_eq, decide_eq_false_iff_not, eqNil] at hg; omega) | (simp only [List.length_append, List.length_map, List.length_range, List.length_replicate, List.length_take, List.length_drop, List.length_cons, List.length_nil, List.length_set, List.length_reverse]; omega))
    apply hK; clear hK K
    -- region 12  law.go:43
    refine awp_rseq [0] (by rfl) fun K hK => ?_
    simp (decide := true) only [aOps_nil, ev, absV, absS, putD, Slots.put, Slots.get, Slots.keep, if_true, if_false, true_and, ↓ap_move, pop_move, ↓ap_binOp, pop_binOp, isNilC_int, cond_false, pBinX_int, pI_eql, ↓ag_move, agP, agQ_some, nthDst, guardB_bool_true, decide_true, condV_true, Bool.and_true, ↓ag_binOp, ↓ap_pick, pop_pick, pPick_bool, pickV_and, isNilC_str, pBinX_str, pS_eql, ↓ap_assign, pop_assign, Bool.and_true]
    repeat (with_reducible refine And.intro ?_ ?_; · first | trivial | omega | (intro hg; simp only [Bool.and_eq_true, Bool.or_eq_true, Bool.not_eq_true', Bool.and_eq_false_iff, Bool.or_eq_false_iff, Bool.not_eq_false', decide_eq_true_eq, decide_eq_false_iff_not, eqNil] at hg; omega) | (simp only [List.length_append, List.length_map, List.length_range, List.length_replicate, List.length_take, List.length_drop, List.length_cons, List.length_nil, List.length_set, List.length_reverse]; omega))
    apply hK; clear hK K
    refine awp_ret ?_
    try simp only [thenA_ret, inBlockA_ret]
    refine retA_ret h (by repeat (first | exact Sub.refl _ | assumption | refine Sub.trans_set ?_ (by assumption))) (resPre_tmp (resPre_nil)) ?_
    simp (decide := true) only [Slots.get, if_true, and_true, resOf_one]
    all_goals first | rfl | exact ⟨rfl, rfl⟩ | (simp (decide := true) only [if_true, if_false, *]; done) | (trace_state; fail)
end Go.Proofs.YtikpnhdjjabdmaaDoor

/-
  The statement ColumnsLayout, walked.
  Conditions: none.
-/
namespace Go.Proofs.YtikpnhdjjabdmaaDoor
open Go.AM
open Go.Proofs
open Go.Col
set_option maxRecDepth 100000

theorem oddQ_cons (b : UInt8) (s : Str) : oddQ (b :: s) = if b = 34 then !oddQ s else oddQ s := by
  unfold oddQ quotes
  rw [List.countP_cons]
  by_cases h : b = 34
  · rw [if_pos (by simp [h]), if_pos h, Bool.eq_iff_iff, Bool.not_eq_true', decide_eq_true_eq, decide_eq_false_iff_not]
    omega
  · rw [if_neg (by simp [h]), if_neg h]
    rfl
theorem oddQ_append (a b : Str) : oddQ (a ++ b) = (oddQ a != oddQ b) := by
  induction a with
  | nil => show oddQ b = (false != oddQ b); cases oddQ b <;> rfl
  | cons x a ih =>
    rw [List.cons_append, oddQ_cons, oddQ_cons, ih]
    split
    · cases oddQ a <;> cases oddQ b <;> rfl
    · rfl
/-- A byte at which a text can be divided. -/
def cutAt (s : Str) (q : Bool) (n : Nat) : Bool := decide (n < s.length) && decide (s.getD n 0 = 32) && (oddQ (s.take n) == q)
theorem spaceGo_low : ∀ (s : Str) (i n : Nat) (q : Bool) (f : Nat), n < i → spaceGo s i n q f = f
  | [], _, _, _, _, _ => rfl
  | b :: s, i, n, q, f, h => by rw [spaceGo, if_pos h]
theorem spaceGo_up : ∀ (s : Str) (i n : Nat) (q : Bool) (f : Nat), spaceGo s i (n + 1) q f = if i ≤ n + 1 ∧ cutAt s q (n + 1 - i) = true then n + 1 else spaceGo s i n q f
  | [], i, n, q, f => by
    rw [if_neg (by unfold cutAt; simp)]
    rfl
  | b :: s, i, n, q, f => by
    by_cases h1 : n + 1 < i
    · rw [spaceGo_low _ _ _ _ _ h1, spaceGo_low _ _ _ _ _ (by omega), if_neg (by omega)]
    · rw [spaceGo, if_neg h1]
      simp only
      rw [spaceGo_up s (i + 1) n]
      by_cases h2 : i = n + 1
      · rw [if_neg (by omega), spaceGo_low _ _ _ _ _ (by omega), spaceGo_low (b :: s) i n q f (by omega)]
        have e : cutAt (b :: s) q (n + 1 - i) = (decide (b = 32) && (false == q)) := by
          rw [h2, Nat.sub_self]
          unfold cutAt
          simp only [List.length_cons, List.getD_cons_zero, List.take_zero]
          rw [decide_eq_true (by omega), Bool.true_and]
          rfl
        rw [e]
        by_cases hb : b = 32
        · subst hb
          cases q
          · simp [show 0 < i by omega, show i ≤ n + 1 by omega]; omega
          · simp
        · rw [if_neg (by simp [hb]), if_neg (by simp [hb])]
      · have e : cutAt (b :: s) q (n + 1 - i) = cutAt s (if b = 34 then !q else q) (n + 1 - (i + 1)) := by
          have : n + 1 - i = (n + 1 - (i + 1)) + 1 := by omega
          rw [this]
          unfold cutAt
          simp only [List.length_cons, List.getD_cons_succ, List.take_succ_cons]
          rw [oddQ_cons]
          have e1 : decide (n + 1 - (i + 1) + 1 < s.length + 1) = decide (n + 1 - (i + 1) < s.length) := by rw [decide_eq_decide]; omega
          rw [e1]
          congr 1
          split
          · cases q <;> cases oddQ (s.take (n + 1 - (i + 1))) <;> rfl
          · rfl
        rw [e]
        have er : spaceGo (b :: s) i n q f = spaceGo s (i + 1) n (if b = 34 then !q else q) (if b = 32 ∧ (if b = 34 then !q else q) = false ∧ 0 < i then i else f) := by rw [spaceGo, if_neg (show ¬ n < i by omega)]
        rw [er]
        by_cases hc : cutAt s (if b = 34 then !q else q) (n + 1 - (i + 1)) = true
        · rw [if_pos ⟨by omega, hc⟩, if_pos ⟨by omega, hc⟩]
        · have n1 : ¬ (i + 1 ≤ n + 1 ∧ cutAt s (if b = 34 then !q else q) (n + 1 - (i + 1)) = true) := fun x => hc x.2
          have n2 : ¬ (i ≤ n + 1 ∧ cutAt s (if b = 34 then !q else q) (n + 1 - (i + 1)) = true) := fun x => hc x.2
          rw [if_neg n1, if_neg n2]
theorem spaceE_up (s : Str) (n : Nat) (q : Bool) : spaceE s (n + 1) q = if cutAt s q (n + 1) = true then n + 1 else spaceE s n q := by
  unfold spaceE
  rw [spaceGo_up]
  simp only [Nat.sub_zero, Nat.zero_le, true_and]
theorem spaceE_zero (s : Str) (q : Bool) : spaceE s 0 q = 0 := by have := (spaceE_le s 0 q).1; omega
theorem spaceE_cut (s : Str) (q : Bool) : ∀ n, 0 < spaceE s n q → cutAt s q (spaceE s n q) = true
  | 0, h => by rw [spaceE_zero] at h; omega
  | n + 1, h => by
    rw [spaceE_up] at h ⊢
    split
    · rename_i hc; exact hc
    · rename_i hc; rw [if_neg hc] at h; exact spaceE_cut s q n h
theorem spaceE_none {s : Str} {q : Bool} : ∀ {n : Nat}, ¬ 0 < spaceE s n q → ∀ k, 0 < k → k ≤ n → cutAt s q k = false
  | 0, _, k, h1, h2 => by omega
  | n + 1, h, k, h1, h2 => by
    rw [spaceE_up] at h
    by_cases hc : cutAt s q (n + 1) = true
    · rw [if_pos hc] at h; omega
    · rw [if_neg hc] at h
      by_cases hk : k = n + 1
      · subst hk; simpa using hc
      · exact spaceE_none h k h1 (by omega)
/-- The last byte is no space. -/
def lastOk (s : Str) : Prop := s ≠ [] ∧ s.getLast? ≠ some 32
theorem lastOk_drop {s : Str} (h : lastOk s) {k : Nat} (hk : k < s.length) : lastOk (s.drop k) := by
  refine ⟨fun e => ?_, ?_⟩
  · have := congrArg List.length e; simp at this; omega
  · rw [List.getLast?_drop, if_neg (by omega)]; exact h.2
theorem trimL_split (s : Str) : ∃ k, s = List.replicate k 32 ++ trimL s ∧ (trimL s).head? ≠ some 32 := by
  induction s with
  | nil => exact ⟨0, rfl, by simp [trimL]⟩
  | cons b s ih =>
    by_cases h : b = 32
    · obtain ⟨k, h1, h2⟩ := ih
      refine ⟨k + 1, ?_, ?_⟩
      · subst h
        rw [List.replicate_succ, List.cons_append]
        have : trimL (32 :: s) = trimL s := by simp [trimL]
        rw [this, ← h1]
      · have : trimL (b :: s) = trimL s := by simp [trimL, h]
        rw [this]; exact h2
    · have : trimL (b :: s) = b :: s := by simp [trimL, h]
      rw [this]
      exact ⟨0, rfl, by simpa using h⟩
theorem lastOk_trimL {s : Str} (h : lastOk s) : lastOk (trimL s) := by
  obtain ⟨k, h1, h2⟩ := trimL_split s
  have hne : trimL s ≠ [] := by
    intro e
    rw [e, List.append_nil] at h1
    cases k with
    | zero => exact h.1 h1
    | succ k =>
      refine h.2 ?_
      rw [h1, List.replicate_succ', List.getLast?_append]
      rfl
  refine ⟨hne, ?_⟩
  have := h.2
  rw [h1, List.getLast?_append] at this
  cases hl : (trimL s).getLast? with
  | none => simp
  | some x => rw [hl] at this; simpa using this
theorem right_last {s : Str} (h : rightE s = true) : lastOk s := by
  unfold rightE at h
  simp only [Bool.and_eq_true, Bool.not_eq_true', decide_eq_false_iff_not] at h
  exact ⟨h.1.1.1.1, h.1.2⟩
theorem textE_len : ∀ (f col : Nat) (mark : Str) (q : Bool) (k : Nat) (out s : Str), 8 ≤ col → col ≤ 12 → mark.length = 1 → (textE f col mark q k out s).2.length ≤ out.length + 80 * f
  | 0, _, _, _, _, _, _, _, _, _ => by simp [textE]
  | f + 1, col, mark, q, k, out, s, h1, h2, h3 => by
    have hld : (if q = true then [34] else [] : Str).length ≤ 1 := by split <;> simp
    by_cases h : s.length ≤ 73 - col - (if q = true then 1 else 0)
    · rw [textE_short h]
      have hol := outE_len (k + 1) col mark ((if q = true then [34] else []) ++ s)
      simp only [List.length_append] at hol ⊢
      omega
    · by_cases h2' : 0 < spaceE s (73 - col - (if q = true then 1 else 0)) q
      · rw [textE_space h h2']
        have hol := outE_len (k + 1) col mark ((if q = true then [34] else []) ++ s.take (spaceE s (73 - col - (if q = true then 1 else 0)) q))
        have hle := (spaceE_le s (73 - col - (if q = true then 1 else 0)) q).1
        refine Nat.le_trans (textE_len f 12 [32] false _ _ _ (by omega) (by omega) rfl) ?_
        simp only [List.length_append, List.length_take] at hol ⊢
        omega
      · rw [textE_cut h h2']
        have hol := outE_len (k + 1) col mark ((if q = true then [34] else []) ++ s.take (73 - col - (if q = true then 1 else 0)))
        refine Nat.le_trans (textE_len f 12 [45] _ _ _ _ (by omega) (by omega) rfl) ?_
        simp only [List.length_append, List.length_take] at hol ⊢
        omega
end Go.Proofs.YtikpnhdjjabdmaaDoor

/-
  Plain law: where the bytes of the cards that Read answers stand in the source text.
  Conditions: none.
-/
namespace Go.Proofs.YtikpnhdjjabdmaaDoor
open Go.AM
open Go.Proofs
open Go.Col
set_option maxRecDepth 100000

/-- A part of a card: where it begins, its bytes. -/
structure PartC where
  line : Int
  col : Int
  str : Str
def partsText : List PartC → Str
  | [] => []
  | p :: ps => p.str ++ partsText ps
def marksFrom : Nat → List PartC → List MarkC
  | _, [] => []
  | n, p :: ps => ⟨n, p.line, p.col⟩ :: marksFrom (n + p.str.length) ps
def posAt : List PartC → Nat → Int × Int
  | [], _ => (0, 0)
  | [p], i => (p.line, p.col + i)
  | p :: q :: ps, i => if i < p.str.length then (p.line, p.col + i) else posAt (q :: ps) (i - p.str.length)
/-- The byte at a place of the source text, lines padded to 72 columns. -/
def byteAt (L : List Str) (line col : Int) : UInt8 := (padE (L.getD (line.toNat - 1) [])).getD (col.toNat - 1) 0
structure PartOk (L : List Str) (p : PartC) : Prop where
  ne : 0 < p.str.length
  low : 1 ≤ p.line
  high : p.line ≤ L.length
  col : 8 ≤ p.col
  fit : p.col + p.str.length ≤ 73
  byte : ∀ j : Nat, j < p.str.length → p.str.getD j 0 = byteAt L p.line (p.col + j)
def Asc (ps : List PartC) : Prop := ps.Pairwise fun p q => p.line < q.line

theorem getD_l {α : Type} {a b : List α} {d : α} {i : Nat} (h : i < a.length) : (a ++ b).getD i d = a.getD i d := by
  simp only [List.getD, List.getElem?_append_left h]
theorem getD_r {α : Type} {a b : List α} {d : α} {i : Nat} (h : a.length ≤ i) : (a ++ b).getD i d = b.getD (i - a.length) d := by
  simp only [List.getD, List.getElem?_append_right h]
theorem marksFrom_above : ∀ (ps : List PartC) (n : Nat), ∀ m ∈ marksFrom n ps, (n : Int) ≤ m.frm
  | [], n, m, h => by cases h
  | p :: ps, n, m, h => by
    rcases List.mem_cons.1 h with rfl | h
    · exact Int.le_refl _
    · have := marksFrom_above ps _ m h
      omega
theorem atGo_above {i : Int} : ∀ (ms : List MarkC) (p : Int × Int), (∀ m ∈ ms, i < m.frm) → atGo i ms p = p
  | [], p, _ => rfl
  | m :: ms, p, h => by
    rw [atGo, if_neg (by have := h m (by simp); omega)]
    exact atGo_above ms p fun x hx => h x (by simp [hx])
theorem at_parts : ∀ (ps : List PartC) (n i : Nat) (p0 : Int × Int), ps ≠ [] → atGo ((n + i : Nat) : Int) (marksFrom n ps) p0 = posAt ps i
  | [], _, _, _, h => absurd rfl h
  | [p], n, i, p0, _ => by
    show (if ((n : Int)) ≤ ((n + i : Nat) : Int) then (p.line, p.col + ((n + i : Nat) : Int) - (n : Int)) else p0) = (p.line, p.col + (i : Int))
    rw [if_pos (by omega)]
    congr 1
    omega
  | p :: q :: ps, n, i, p0, _ => by
    rw [marksFrom, atGo, if_pos (show ((n : Nat) : Int) ≤ ((n + i : Nat) : Int) by omega), posAt]
    by_cases hi : i < p.str.length
    · rw [if_pos hi, atGo_above _ _ (fun m hm => by have := marksFrom_above _ _ m hm; omega)]
      show (p.line, p.col + ((n + i : Nat) : Int) - (n : Int)) = _
      congr 1
      omega
    · rw [if_neg hi, show n + i = (n + p.str.length) + (i - p.str.length) by omega]
      exact at_parts (q :: ps) (n + p.str.length) (i - p.str.length) _ (by simp)
theorem valid_parts (c : CardC) {L : List Str} : ∀ (ps : List PartC) (n : Nat) (b : Int), b < n → n + (partsText ps).length ≤ c.text.length → (∀ p ∈ ps, PartOk L p) → validC.go c b (marksFrom n ps) = true
  | [], _, _, _, _, _ => rfl
  | p :: ps, n, b, hb, hn, hp => by
    have h := hp p (by simp)
    have h1 := h.ne
    have h2 := h.low
    have h3 := h.col
    have h4 := h.fit
    simp only [partsText, List.length_append] at hn
    rw [marksFrom, validC.go, Bool.and_eq_true]
    refine ⟨decide_eq_true ⟨hb, by simp only; omega, h2, h3, by simp only; omega⟩, ?_⟩
    exact valid_parts c ps _ _ (by simp only; omega) (by omega) fun q hq => hp q (by simp [hq])
/-- A card and its parts. -/
structure CardOk (L : List Str) (c : CardC) (ps : List PartC) : Prop where
  text : c.text = partsText ps
  marks : c.marks = marksFrom 0 ps
  parts : ∀ p ∈ ps, PartOk L p
  asc : Asc ps
theorem CardOk.valid {L : List Str} {c : CardC} {ps : List PartC} (h : CardOk L c ps) (hn : ps ≠ []) : validC c = true := by
  cases ps with
  | nil => exact absurd rfl hn
  | cons p ps =>
    have hm := h.marks
    rw [validC_eq (by rw [hm, marksFrom]; simp)]
    rw [Bool.and_eq_true]
    refine ⟨?_, ?_⟩
    · rw [hm, marksFrom]; rfl
    · rw [hm]; exact valid_parts c (p :: ps) 0 (-1) (by omega) (by rw [h.text]; omega) h.parts
theorem CardOk.at {L : List Str} {c : CardC} {ps : List PartC} (h : CardOk L c ps) (hn : ps ≠ []) {k : Nat} (hk : k ≤ c.text.length) : atE c k = ((posAt ps k).1, (posAt ps k).2, 0) := by
  unfold atE
  rw [if_pos ⟨h.valid hn, by omega, by omega⟩, h.marks]
  have := at_parts ps 0 k (0, 0) hn
  rw [Nat.zero_add] at this
  rw [this]
/-- Cards with their parts, ahead of a line. -/
structure RdOk (L : List Str) (n : Nat) (x : Rd) (ys : List (CardC × List PartC)) : Prop where
  cards : x.cards = ys.map (·.1)
  ok : ∀ y ∈ ys, CardOk L y.1 y.2
  ne : ∀ y ∈ ys, y.2 ≠ []
  asc : Asc (ys.flatMap (·.2))
  low : ∀ y ∈ ys, ∀ p ∈ y.2, p.line < n
theorem RdOk.next {L : List Str} {n : Nat} {x : Rd} {ys : List (CardC × List PartC)} (h : RdOk L n x ys) : RdOk L (n + 1) x ys :=
  ⟨h.cards, h.ok, h.ne, h.asc, fun y hy p hp => by have := h.low y hy p hp; omega⟩
theorem trimL_drop (s : Str) : trimL s = s.drop (s.length - (trimL s).length) := by
  obtain ⟨k, h1, _⟩ := trimL_split s
  have h2 := congrArg List.length h1
  rw [List.length_append, List.length_replicate] at h2
  have : s.length - (trimL s).length = k := by omega
  rw [this]
  conv => rhs; rw [h1]
  rw [List.drop_left' (by simp)]
theorem splitNL_ne : ∀ s : Str, splitNL s ≠ []
  | [] => by simp [splitNL]
  | b :: s => by unfold splitNL; split <;> (try split) <;> simp
theorem splitNL_cat : ∀ (a b : Str), splitNL (a ++ 10 :: b) = splitNL a ++ splitNL b
  | [], b => by show splitNL (10 :: b) = [] :: splitNL b; rw [splitNL, if_pos rfl]
  | x :: a, b => by
    rw [List.cons_append, splitNL, splitNL]
    by_cases h : x = 10
    · rw [if_pos h, if_pos h, splitNL_cat a b, List.cons_append]
    · rw [if_neg h, if_neg h, splitNL_cat a b]
      cases hq : splitNL a with
      | nil => exact absurd hq (splitNL_ne a)
      | cons l ls => rfl
theorem splitNL_trim (s : Str) : splitNL (trimNL s) = splitNL s ∨ splitNL s = splitNL (trimNL s) ++ [[]] := by
  unfold trimNL
  by_cases h : s.getLast? = some 10
  · rw [if_pos h]
    refine .inr ?_
    obtain ⟨t, ht⟩ : ∃ t, s = t ++ [10] := by
      rcases List.eq_nil_or_concat s with e | ⟨t, x, e⟩
      · rw [e] at h; cases h
      · rw [List.concat_eq_append] at e
        rw [e, List.getLast?_append] at h
        cases h
        exact ⟨t, e⟩
    rw [ht, List.dropLast_concat, splitNL_cat]
    rfl
  · rw [if_neg h]; exact .inl rfl
end Go.Proofs.YtikpnhdjjabdmaaDoor

/-
  The statement ColumnsMarks, walked.
  Conditions: none.
-/
namespace Go.Proofs.YtikpnhdjjabdmaaDoor
open Go.AM
open Go.Proofs
open Go.Col
set_option maxRecDepth 100000

theorem strs_at {l : List Str} {i : Nat} (hi : i < l.length) : (l.map AVal.str).getD i .dead = .str (l.getD i []) := by
  simp [List.getD, hi]
theorem rd_sub {w₀ : World} {h h' : AHeap} {l : AM.Loc} {o : Nat} {v : AVal} (hv : rd w₀ h l o = v) (hl : v.live = true) (hs : Sub h h') : rd w₀ h' l o = v := by
  have := cellsAt_mono (w₀ := w₀) (l := l) hs 1 o (by simp only [cellsAt, allLive, hv, hl, Bool.and_self])
  simp only [cellsAt, List.cons.injEq, and_true] at this
  rw [this, hv]
end Go.Proofs.YtikpnhdjjabdmaaDoor

/-
  Plain law: ignored lines, the columns 1 to 6 and those from 73 on change nothing but positions.
  Conditions: none.
-/
namespace Go.Proofs.YtikpnhdjjabdmaaDoor
open Go.AM
open Go.Proofs
open Go.Col
set_option maxRecDepth 100000

def FSim (f g : FaultC) : Prop := (f = okF ∧ g = okF) ∨ (f.e = g.e ∧ f.e ≠ 0)
theorem FSim.ok {f g : FaultC} (h : FSim f g) : f = okF ↔ g = okF := by
  rcases h with ⟨h1, h2⟩ | ⟨h1, h2⟩
  · exact ⟨fun _ => h2, fun _ => h1⟩
  · refine ⟨fun e => absurd (by rw [e]; rfl) h2, fun e => absurd ?_ h2⟩
    rw [h1, e]; rfl
theorem FSim.of {a l c l' c' : Int} (h : a ≠ 0) : FSim ⟨a, l, c⟩ ⟨a, l', c'⟩ := .inr ⟨rfl, h⟩
theorem FSim.refl : FSim okF okF := .inl ⟨rfl, rfl⟩
def Skip (dbg : Bool) (s : Str) : Prop := ∀ n : Int, (lineE s n dbg).2.1 = false ∧ (lineE s n dbg).2.2 = okF

theorem readL_last {dbg : Bool} {t : Str} (ht : Skip dbg t) : ∀ (l : List Str) (n : Int) (x : Rd), readL dbg (l ++ [t]) n x = readL dbg l n x
  | [], n, x => by
    cases hp : lineE t n dbg with
    | mk r q =>
      obtain ⟨cn, f⟩ := q
      obtain ⟨h1, h2⟩ := ht n
      rw [hp] at h1 h2
      simp only at h1 h2
      subst h1 h2
      rw [List.nil_append, readL_skip hp rfl]
      rfl
  | s :: l, n, x => by
    rw [List.cons_append, readL, readL]
    cases lineE s n dbg with
    | mk r q =>
      obtain ⟨cn, f⟩ := q
      simp only [readL_last ht l]
theorem skip_of {dbg : Bool} {s : Str} (h : ¬ 80 < s.length) (hb : badAt s = none) (hk : ((padE s).getD 6 0 = 42 ∨ (padE s).getD 6 0 = 47) ∨ (((padE s).getD 6 0 = 68 ∨ (padE s).getD 6 0 = 100) ∧ dbg = false) ∨ (((padE s).getD 6 0 = 32 ∨ (padE s).getD 6 0 = 45) ∧ trimL (((padE s).drop 7).take 65) = [])) : Skip dbg s := by
  intro n
  rw [lineE_none h hb]
  have ht : (rowE s n).text = trimL (((padE s).drop 7).take 65) := rfl
  rw [ht]
  rcases hk with hk | hk | hk
  · rw [if_pos hk]; exact ⟨rfl, rfl⟩
  · by_cases h1 : (padE s).getD 6 0 = 42 ∨ (padE s).getD 6 0 = 47
    · rw [if_pos h1]; exact ⟨rfl, rfl⟩
    · rw [if_neg h1, if_pos hk.1]
      exact ⟨by rw [hk.2]; rfl, rfl⟩
  · have h1 : ¬ ((padE s).getD 6 0 = 42 ∨ (padE s).getD 6 0 = 47) := by rcases hk.1 with e | e <;> rw [e] <;> decide
    have h2 : ¬ ((padE s).getD 6 0 = 68 ∨ (padE s).getD 6 0 = 100) := by rcases hk.1 with e | e <;> rw [e] <;> decide
    rw [if_neg h1, if_neg h2, if_pos hk.1, hk.2]
    exact ⟨rfl, rfl⟩
/-- The lines that are inserted. -/
def moreL : List Str := [[], [32, 32, 32, 32, 32, 32, 42, 34], [32, 32, 32, 32, 32, 32, 47, 97, 110, 121, 116, 104, 105, 110, 103], [32, 32, 32, 32, 32, 32, 68, 32, 32, 32, 32, 88], [32, 32, 32, 32, 32, 32, 100, 88], sp 80, [49, 50, 51, 52, 53, 54], [32, 32, 32, 32, 32, 32, 45]]
theorem more_skip : ∀ i, i < 8 → Skip false (moreL.getD i [])
  | 0, _ => skip_of (by decide) (by decide) (by decide)
  | 1, _ => skip_of (by decide) (by decide) (by decide)
  | 2, _ => skip_of (by decide) (by decide) (by decide)
  | 3, _ => skip_of (by decide) (by decide) (by decide)
  | 4, _ => skip_of (by decide) (by decide) (by decide)
  | 5, _ => skip_of (by decide) (by decide) (by decide)
  | 6, _ => skip_of (by decide) (by decide) (by decide)
  | 7, _ => skip_of (by decide) (by decide) (by decide)
  | n + 8, h => by omega
theorem nil_skip : Skip false [] := more_skip 0 (by decide)
theorem bad_none (s : Str) : badAt s = none ↔ s.all okB = true := by
  unfold badAt
  rw [List.findIdx?_eq_none_iff, List.all_eq_true]
  simp only [Bool.not_eq_eq_eq_not, Bool.not_false]
theorem sp_all (n : Nat) : (sp n).all okB = true := by
  unfold sp
  rw [List.all_eq_true]
  intro b hb
  rw [(List.mem_replicate.1 hb).2]
  decide
theorem readL_trim (s : Str) (n : Int) (x : Rd) : readL false (splitNL (trimNL s)) n x = readL false (splitNL s) n x := by
  rcases splitNL_trim s with e | e
  · rw [e]
  · rw [e, readL_last nil_skip]
end Go.Proofs.YtikpnhdjjabdmaaDoor

/-
  Plain law: what Write lays out reads back.
  Conditions: none.
-/
namespace Go.Proofs.YtikpnhdjjabdmaaDoor
open Go.AM
open Go.Proofs
open Go.Col
set_option maxRecDepth 100000

/-- An output line without its end. -/
def lineS (n : Nat) (mark : Str) (col : Nat) (text : Str) : Str := List.replicate (6 - (digs (n % 1000000)).length) 48 ++ digs (n % 1000000) ++ mark ++ sp (col - 8) ++ text
theorem outE_line (n : Nat) (mark : Str) (col : Nat) (text : Str) : outE n mark col text = lineS n mark col text ++ [10] := rfl
def textL : Nat → Nat → Str → Bool → Nat → Str → List Str
  | 0, _, _, _, _, _ => []
  | f + 1, col, mark, q, k, s =>
    if s.length ≤ 73 - col - (if q = true then 1 else 0) then [lineS (k + 1) mark col ((if q = true then [34] else []) ++ s)]
    else if 0 < spaceE s (73 - col - (if q = true then 1 else 0)) q then lineS (k + 1) mark col ((if q = true then [34] else []) ++ s.take (spaceE s (73 - col - (if q = true then 1 else 0)) q)) :: textL f 12 [32] false (k + 1) (trimL (s.drop (spaceE s (73 - col - (if q = true then 1 else 0)) q)))
    else lineS (k + 1) mark col ((if q = true then [34] else []) ++ s.take (73 - col - (if q = true then 1 else 0))) :: textL f 12 [45] (q != oddQ (s.take (73 - col - (if q = true then 1 else 0)))) (k + 1) (s.drop (73 - col - (if q = true then 1 else 0)))
def endL : List Str → Str
  | [] => []
  | l :: ls => l ++ 10 :: endL ls
theorem textE_lines : ∀ (f col : Nat) (mark : Str) (q : Bool) (k : Nat) (out s : Str), (textE f col mark q k out s).2 = out ++ endL (textL f col mark q k s)
  | 0, _, _, _, _, out, _ => (List.append_nil out).symm
  | f + 1, col, mark, q, k, out, s => by
    by_cases h : s.length ≤ 73 - col - (if q = true then 1 else 0)
    · rw [textE_short h, textL, if_pos h]
      rfl
    · by_cases h2 : 0 < spaceE s (73 - col - (if q = true then 1 else 0)) q
      · rw [textE_space h h2, textL, if_neg h, if_pos h2, textE_lines f, endL, outE_line]
        simp only [List.append_assoc, List.cons_append, List.nil_append]
      · rw [textE_cut h h2, textL, if_neg h, if_neg h2, textE_lines f, endL, outE_line]
        simp only [List.append_assoc, List.cons_append, List.nil_append]
theorem endL_split : ∀ {ls : List Str}, (∀ l ∈ ls, (10 : UInt8) ∉ l) → splitNL (endL ls) = ls ++ [[]]
  | [], _ => rfl
  | l :: ls, h => by
    rw [endL, splitNL_app _ (h l (by simp)), endL_split fun x hx => h x (by simp [hx])]
    rfl
theorem endL_trim {ls : List Str} (h : ∀ l ∈ ls, (10 : UInt8) ∉ l) : readL false (splitNL (trimNL (endL ls))) 1 .start = readL false ls 1 .start := by
  rw [readL_trim, endL_split h, readL_last nil_skip]

/-! ### A line's row -/
theorem digs_ok : ∀ n : Nat, (Lib.decDigits n).all okB = true := by
  intro n
  induction n using Nat.strongRecOn with
  | _ n ih =>
    have hd : ∀ k, k < 10 → okB (UInt8.ofNat (48 + k)) = true := by
      intro k hk
      match k, hk with
      | 0, _ => decide
      | 1, _ => decide
      | 2, _ => decide
      | 3, _ => decide
      | 4, _ => decide
      | 5, _ => decide
      | 6, _ => decide
      | 7, _ => decide
      | 8, _ => decide
      | 9, _ => decide
    by_cases h : n < 10
    · rw [Lib.decDigits_one h, List.all_cons, hd n h]; rfl
    · rw [Lib.decDigits, dif_neg h, List.all_append, ih _ (by omega), List.all_cons, hd _ (Nat.mod_lt _ (by decide))]
      rfl
theorem lineS_len (n : Nat) (m : UInt8) (col : Nat) (t : Str) : (lineS n [m] col t).length = 7 + (col - 8) + t.length := by
  have := outE_len n col [m] t
  rw [outE_line, List.length_append, List.length_cons, List.length_nil, List.length_cons, List.length_nil] at this
  omega
theorem lineS_ok {n : Nat} {m : UInt8} {col : Nat} {t : Str} (hm : okB m = true) (ht : t.all okB = true) : (lineS n [m] col t).all okB = true := by
  unfold lineS digs
  have h1 : (List.replicate (6 - (Lib.decDigits (n % 1000000)).length) (48 : UInt8)).all okB = true := by
    rw [List.all_eq_true]
    intro b hb
    rw [(List.mem_replicate.1 hb).2]
    decide
  rw [List.all_append, List.all_append, List.all_append, List.all_append, h1, digs_ok, sp_all, ht, List.all_cons, hm]
  rfl
theorem trimL_sp (k : Nat) {t : Str} (h : t.head? ≠ some 32) : trimL (sp k ++ t) = t := by
  induction k with
  | zero =>
    cases t with
    | nil => rfl
    | cons b t =>
      have hb : b ≠ 32 := fun e => h (by rw [e]; rfl)
      show trimL (b :: t) = b :: t
      simp [trimL, hb]
  | succ k ih =>
    have : sp (k + 1) ++ t = 32 :: (sp k ++ t) := by simp [sp, List.replicate_succ]
    rw [this]
    have : trimL (32 :: (sp k ++ t)) = trimL (sp k ++ t) := by simp [trimL]
    rw [this, ih]
theorem row_line {k : Nat} {m : UInt8} {col : Nat} {t : Str} (n : Int) (hm : m = 32 ∨ m = 45) (hc : 8 ≤ col) (ht : t.all okB = true) (h0 : t ≠ []) (h1 : t.head? ≠ some 32) (hl : t.length + col ≤ 73) :
    lineE (lineS k [m] col t) n false = (⟨n, m == 45, t ++ sp (73 - col - t.length), (col : Int)⟩, true, okF) := by
  have hpos := List.length_pos_iff.2 h0
  have hlen := lineS_len k m col t
  have hdl := digs_len k
  have hpad : padE (lineS k [m] col t) = (List.replicate (6 - (digs (k % 1000000)).length) 48 ++ digs (k % 1000000)) ++ m :: (sp (col - 8) ++ (t ++ sp (73 - col - t.length))) := by
    unfold padE
    rw [hlen, show 72 - (7 + (col - 8) + t.length) = 73 - col - t.length by omega]
    unfold lineS
    simp only [List.append_assoc, List.cons_append, List.nil_append]
  have h6 : (List.replicate (6 - (digs (k % 1000000)).length) (48 : UInt8) ++ digs (k % 1000000)).length = 6 := by
    rw [List.length_append, List.length_replicate]; omega
  obtain ⟨P, hP⟩ : ∃ P, P = List.replicate (6 - (digs (k % 1000000)).length) (48 : UInt8) ++ digs (k % 1000000) := ⟨_, rfl⟩
  rw [← hP] at hpad h6
  have g6 : (padE (lineS k [m] col t)).getD 6 0 = m := by
    rw [hpad, getD_r (by omega), h6]; rfl
  have g7 : ((padE (lineS k [m] col t)).drop 7).take 65 = sp (col - 8) ++ (t ++ sp (73 - col - t.length)) := by
    rw [hpad, show 7 = P.length + 1 by omega, ← List.drop_drop, List.drop_left' rfl, List.drop_one, List.tail_cons]
    refine List.take_of_length_le ?_
    simp only [List.length_append, sp, List.length_replicate]
    omega
  have hh : (t ++ sp (73 - col - t.length)).head? ≠ some 32 := by
    cases t with
    | nil => exact absurd rfl h0
    | cons b t => exact h1
  have hrow : rowE (lineS k [m] col t) n = ⟨n, m == 45, t ++ sp (73 - col - t.length), (col : Int)⟩ := by
    unfold rowE
    rw [g6, g7, trimL_sp _ hh]
    congr 1
    simp only [List.length_append, sp, List.length_replicate]
    omega
  have hne : ¬ (t ++ sp (73 - col - t.length)) = [] := by
    intro e
    exact h0 (List.append_eq_nil_iff.1 e).1
  rw [lineE_none (by omega) ((bad_none _).2 (lineS_ok (by rcases hm with rfl | rfl <;> decide) ht)), g6, hrow]
  have n1 : ¬ (m = 42 ∨ m = 47) := by rcases hm with rfl | rfl <;> decide
  have n2 : ¬ (m = 68 ∨ m = 100) := by rcases hm with rfl | rfl <;> decide
  rw [if_neg n1, if_neg n2, if_pos hm]
  simp only [hne, decide_false, Bool.not_false]

/-! ### Squeezing -/
def lastSp (p : Bool) (u : Str) : Bool := match u.getLast? with | none => p | some b => decide (b = 32)
theorem lastSp_cons (p : Bool) (b : UInt8) (u : Str) : lastSp p (b :: u) = lastSp (decide (b = 32)) u := by
  unfold lastSp
  cases u with
  | nil => rfl
  | cons c u => rw [List.getLast?_cons_cons]; cases h : (c :: u).getLast? with
    | none => simp at h
    | some x => rfl
theorem sq_app : ∀ (u v : Str) (q p : Bool), sqGo q p (u ++ v) = sqGo q p u ++ sqGo (q != oddQ u) (lastSp p u) v
  | [], v, q, p => by
    rw [List.nil_append, sqGo]
    have : (q != oddQ []) = q := by cases q <;> rfl
    rw [this]
    rfl
  | b :: u, v, q, p => by
    have e : (q != oddQ (b :: u)) = ((if b = 34 then !q else q) != oddQ u) := by
      rw [oddQ_cons]
      split
      · cases q <;> cases oddQ u <;> rfl
      · rfl
    rw [List.cons_append, sqGo, sqGo, sq_app u v, lastSp_cons, e]
    obtain ⟨q', hq'⟩ : ∃ q', q' = (if b = 34 then !q else q) := ⟨_, rfl⟩
    rw [← hq']
    by_cases hc : b = 32 ∧ q' = false ∧ p = true
    · rw [if_pos hc, if_pos hc]
    · rw [if_neg hc, if_neg hc, List.cons_append]
theorem sq_sp : ∀ (m : Nat) (v : Str), sqGo false true (sp m ++ v) = sqGo false true v
  | 0, v => rfl
  | m + 1, v => by
    have : sp (m + 1) ++ v = 32 :: (sp m ++ v) := by simp [sp, List.replicate_succ]
    rw [this, sqGo, if_pos (by decide)]
    exact sq_sp m v
theorem sq_sp1 (m : Nat) (p : Bool) (v w : Str) (h : sqGo false true v = sqGo false true w) : sqGo false p (32 :: v) = sqGo false p (sp (m + 1) ++ w) := by
  have : sp (m + 1) ++ w = 32 :: (sp m ++ w) := by simp [sp, List.replicate_succ]
  have e : (if (32 : UInt8) = 34 then !false else false) = false := by decide
  have e2 : decide ((32 : UInt8) = 32) = true := by decide
  rw [this, sqGo, sqGo, e, e2, sq_sp, h]
theorem oddQ_sp (m : Nat) : oddQ (sp m) = false := by
  induction m with
  | zero => rfl
  | succ m ih =>
    have : sp (m + 1) = 32 :: sp m := by simp [sp, List.replicate_succ]
    rw [this, oddQ_cons, if_neg (by decide), ih]
theorem trimR_split (s : Str) : ∃ m, s = trimR s ++ sp m := by
  obtain ⟨m, h, _⟩ := trimL_split s.reverse
  refine ⟨m, ?_⟩
  have := congrArg List.reverse h
  rw [List.reverse_reverse, List.reverse_append, List.reverse_replicate] at this
  exact this
theorem trimR_sp (s : Str) (m : Nat) : trimR (s ++ sp m) = trimR s := by
  have e : ∀ (m : Nat) (u : Str), trimL (sp m ++ u) = trimL u := by
    intro m
    induction m with
    | zero => intro u; rfl
    | succ m ih =>
      intro u
      have : sp (m + 1) ++ u = 32 :: (sp m ++ u) := by simp [sp, List.replicate_succ]
      rw [this]
      have : trimL (32 :: (sp m ++ u)) = trimL (sp m ++ u) := by simp [trimL]
      rw [this, ih]
  unfold trimR
  have : (s ++ sp m).reverse = sp m ++ s.reverse := by rw [List.reverse_append]; simp [sp]
  rw [this]
  have := e m s.reverse
  unfold trimL at this
  rw [this]
theorem trimR_id {s : Str} (h : s.getLast? ≠ some 32) : trimR s = s := by
  obtain ⟨m, e⟩ := trimR_split s
  cases m with
  | zero => rw [show sp 0 = [] from rfl, List.append_nil] at e; exact e.symm
  | succ m =>
    refine absurd ?_ h
    rw [e]
    have : sp (m + 1) = sp m ++ [32] := by simp [sp, List.replicate_succ']
    rw [this, ← List.append_assoc, List.getLast?_append]
    rfl

/-! ### Reading back -/
def jT : List CardC → Str
  | [] => []
  | c :: r => c.text ++ r.flatMap fun d => 32 :: d.text
theorem jT_new {l : List CardC} (d : CardC) : jT (l ++ [d]) = jT l ++ (if l ≠ [] then [32] else []) ++ d.text := by
  cases l with
  | nil => simp [jT]
  | cons c r => simp [jT, List.flatMap_append]
theorem jT_more {l : List CardC} {c d : CardC} {t : Str} (h : d.text = c.text ++ t) : jT (l ++ [d]) = jT (l ++ [c]) ++ t := by
  rw [jT_new, jT_new, h]
  simp only [List.append_assoc]
/-- The reader's state ahead of a line with a mark. -/
def Ahead (x : Rd) (mark : Str) (q : Bool) (col : Nat) : Prop :=
  (mark = [32] ∧ q = false ∧ x.odd = false) ∨ (mark = [45] ∧ col = 12 ∧ ∃ l c, x.cards = l ++ [c] ∧ oddQ c.text = q ∧ x.odd = q)
/-- One line is read: the part u joins the cards. -/
theorem read_one {x : Rd} {mark : Str} {q : Bool} {col : Nat} (ha : Ahead x mark q col) {k : Nat} {t : Str} (n : Int) (hc : col = 8 ∨ col = 12) (ht : t.all okB = true) (h0 : t ≠ []) (h1 : q = false → t.head? ≠ some 32) (hl : t.length + (if q = true then 1 else 0) + col ≤ 73)
    (hp : (q != oddQ t) = true → t.length + (if q = true then 1 else 0) + col = 73) :
    ∃ y u, (∀ ls, readL false (lineS k mark col ((if q = true then [34] else []) ++ t) :: ls) n x = readL false ls (n + 1) y) ∧ u = (if (q != oddQ t) = true then t else trimR t) ∧ y.odd = (q != oddQ t) ∧ (∃ l c, y.cards = l ++ [c] ∧ oddQ c.text = (q != oddQ t)) ∧
      jT y.cards = jT x.cards ++ (if mark = [32] ∧ x.cards ≠ [] then [32] else []) ++ u ∧
      y.cards.map (·.left) = x.cards.map (·.left) ++ (if mark = [32] then [decide (col < 12)] else []) := by
  have hc8 : 8 ≤ col := by omega
  -- what is added to a card, with the padding
  have hadd : ∀ (c : CardC) (m : Nat) (line cl : Int), oddQ c.text = q → ((q != oddQ t) = true → m = 0) → (addC c line cl (t ++ sp m)).text = c.text ++ (if (q != oddQ t) = true then t else trimR t) ∧ (addC c line cl (t ++ sp m)).left = c.left := by
    intro c m line cl hcq hm
    have e1 : oddQ (c.text ++ (t ++ sp m)) = (q != oddQ t) := by
      rw [oddQ_append, oddQ_append, oddQ_sp, hcq]
      cases oddQ t <;> rfl
    unfold addC
    rw [e1]
    refine ⟨?_, rfl⟩
    simp only
    by_cases hq : (q != oddQ t) = true
    · rw [if_pos hq, if_pos hq, hm hq]
      rw [show sp 0 = [] from rfl, List.append_nil]
    · rw [if_neg hq, if_neg hq, trimR_sp]
  have hoddu : ∀ c : Str, oddQ c = q → oddQ (c ++ (if (q != oddQ t) = true then t else trimR t)) = (q != oddQ t) := by
    intro c hcq
    rw [oddQ_append, hcq]
    split
    · rfl
    · obtain ⟨m, e⟩ := trimR_split t
      have : oddQ t = oddQ (trimR t) := by
        conv => lhs; rw [e]
        rw [oddQ_append, oddQ_sp]
        cases oddQ (trimR t) <;> rfl
      rw [this]
  rcases ha with ⟨rfl, rfl, ho⟩ | ⟨rfl, rfl, l, c, hx, hcq, ho⟩
  · simp only [Bool.false_eq_true, if_false, List.nil_append, Nat.add_zero] at hl hp ⊢
    have hrow := row_line (k := k) (m := 32) n (.inl rfl) hc8 ht h0 (h1 rfl) hl
    have hmm : (false != oddQ t) = true → 73 - col - t.length = 0 := fun e => by have := hp e; omega
    obtain ⟨a1, a2⟩ := hadd ⟨decide ((col : Int) < 12), [], []⟩ (73 - col - t.length) n (col : Int) rfl hmm
    have htk : takeE x ⟨n, (32 : UInt8) == 45, t ++ sp (73 - col - t.length), (col : Int)⟩ = (addE { x with cards := x.cards ++ [⟨decide ((col : Int) < 12), [], []⟩] } n (col : Int) (t ++ sp (73 - col - t.length)), okF) := by
      unfold takeE
      rw [ho, if_neg (by simp), if_pos (show (!((32 : UInt8) == 45)) = true from rfl)]
    refine ⟨addE { x with cards := x.cards ++ [⟨decide ((col : Int) < 12), [], []⟩] } n (col : Int) (t ++ sp (73 - col - t.length)), _, fun ls => ?_, rfl, ?_, ?_, ?_, ?_⟩
    · rw [readL_take hrow rfl (by rw [htk]), htk]
    · rw [addE_last (x := { x with cards := x.cards ++ [⟨decide ((col : Int) < 12), [], []⟩] }) rfl]
      simp only [List.nil_append]
      rw [oddQ_append, oddQ_sp]
      cases oddQ t <;> rfl
    · rw [addE_last (x := { x with cards := x.cards ++ [⟨decide ((col : Int) < 12), [], []⟩] }) rfl]
      exact ⟨_, _, rfl, by rw [a1]; exact hoddu [] rfl⟩
    · rw [addE_last (x := { x with cards := x.cards ++ [⟨decide ((col : Int) < 12), [], []⟩] }) rfl]
      simp only
      rw [jT_new, a1]
      simp only [List.nil_append, true_and]
    · rw [addE_last (x := { x with cards := x.cards ++ [⟨decide ((col : Int) < 12), [], []⟩] }) rfl]
      simp only [List.map_append, List.map_cons, List.map_nil, a2, if_true]
      congr 2
      rw [decide_eq_decide]
      omega
  · have hl2 : ((if q = true then [34] else [] : Str) ++ t).length + 12 ≤ 73 := by
      rw [List.length_append]
      cases q <;> simp at hl ⊢ <;> omega
    have ht2 : ((if q = true then [34] else [] : Str) ++ t).all okB = true := by
      rw [List.all_append, ht]
      cases q <;> rfl
    have h02 : ((if q = true then [34] else [] : Str) ++ t) ≠ [] := fun e => h0 (List.append_eq_nil_iff.1 e).2
    have h12 : ((if q = true then [34] else [] : Str) ++ t).head? ≠ some 32 := by
      cases q
      · exact h1 rfl
      · simp
    have hrow := row_line (k := k) (m := 45) n (.inr rfl) hc8 ht2 h02 h12 hl2
    obtain ⟨mm, hmm0⟩ : ∃ mm, mm = 73 - 12 - ((if q = true then [34] else [] : Str) ++ t).length := ⟨_, rfl⟩
    rw [← hmm0] at hrow
    have hmm : (q != oddQ t) = true → mm = 0 := fun e => by
      have := hp e
      rw [hmm0, List.length_append]
      cases q <;> simp at this ⊢ <;> omega
    have hne : x.cards ≠ [] := by rw [hx]; simp
    have hneq : ¬ ([45] : Str) = [32] := by decide
    have hz : (if ([45] : Str) = [32] ∧ x.cards ≠ [] then ([32] : Str) else []) = [] := if_neg (fun e => hneq e.1)
    cases q with
    | false =>
      simp only [Bool.false_eq_true, if_false, List.nil_append] at hrow ⊢
      obtain ⟨a1, a2⟩ := hadd c mm n ((12 : Nat) : Int) hcq hmm
      have htk : takeE x ⟨n, (45 : UInt8) == 45, t ++ sp mm, ((12 : Nat) : Int)⟩ = (addE x n ((12 : Nat) : Int) (t ++ sp mm), okF) := by
        unfold takeE
        rw [ho, if_neg (by simp), if_neg (by simp), if_neg hne, if_neg (by simp), if_neg (by simp)]
      refine ⟨addE x n ((12 : Nat) : Int) (t ++ sp mm), _, fun ls => ?_, rfl, ?_, ?_, ?_, ?_⟩
      · rw [readL_take hrow rfl (by rw [htk]), htk]
      · rw [addE_last hx]
        simp only
        rw [oddQ_append, oddQ_append, oddQ_sp, hcq]
        cases oddQ t <;> rfl
      · rw [addE_last hx]
        exact ⟨_, _, rfl, by rw [a1]; exact hoddu _ hcq⟩
      · rw [addE_last hx]
        simp only
        rw [hz, jT_more (c := c) a1, ← hx, List.append_nil]
      · rw [addE_last hx, hx, if_neg hneq, List.append_nil]
        simp only [List.map_append, List.map_cons, List.map_nil, a2]
    | true =>
      simp only [if_true, List.cons_append, List.nil_append] at hrow ⊢
      obtain ⟨a1, a2⟩ := hadd c mm n (((12 : Nat) : Int) + 1) hcq hmm
      have htk : takeE x ⟨n, (45 : UInt8) == 45, 34 :: (t ++ sp mm), ((12 : Nat) : Int)⟩ = (addE x n (((12 : Nat) : Int) + 1) (t ++ sp mm), okF) := by
        unfold takeE
        rw [ho, if_neg (by simp), if_neg (by simp), if_neg hne, if_neg (by simp), if_pos rfl]
        rfl
      refine ⟨addE x n (((12 : Nat) : Int) + 1) (t ++ sp mm), _, fun ls => ?_, rfl, ?_, ?_, ?_, ?_⟩
      · rw [readL_take hrow rfl (by rw [htk]), htk]
      · rw [addE_last hx]
        simp only
        rw [oddQ_append, oddQ_append, oddQ_sp, hcq]
        cases oddQ t <;> rfl
      · rw [addE_last hx]
        exact ⟨_, _, rfl, by rw [a1]; exact hoddu _ hcq⟩
      · rw [addE_last hx]
        simp only
        rw [hz, jT_more (c := c) a1, ← hx, List.append_nil]
      · rw [addE_last hx, hx, if_neg hneq, List.append_nil]
        simp only [List.map_append, List.map_cons, List.map_nil, a2]
end Go.Proofs.YtikpnhdjjabdmaaDoor

/-
  Plain law: what Write lays out reads back, all lines.
  Conditions: none.
-/
namespace Go.Proofs.YtikpnhdjjabdmaaDoor
open Go.AM
open Go.Proofs
open Go.Col
set_option maxRecDepth 100000

theorem all_take {s : Str} (h : s.all okB = true) (k : Nat) : (s.take k).all okB = true := by
  rw [List.all_eq_true] at h ⊢
  exact fun b hb => h b (List.mem_of_mem_take hb)
theorem all_drop {s : Str} (h : s.all okB = true) (k : Nat) : (s.drop k).all okB = true := by
  rw [List.all_eq_true] at h ⊢
  exact fun b hb => h b (List.mem_of_mem_drop hb)
theorem all_trimL {s : Str} (h : s.all okB = true) : (trimL s).all okB = true := by
  rw [trimL_drop]; exact all_drop h _
theorem head_trimL (s : Str) : (trimL s).head? ≠ some 32 := by obtain ⟨_, _, h⟩ := trimL_split s; exact h
theorem head_take {s : Str} {k : Nat} (hk : 0 < k) : (s.take k).head? = s.head? := by
  cases s with
  | nil => simp
  | cons b s => cases k with
    | zero => omega
    | succ k => rfl
theorem take_ne {s : Str} {k : Nat} (hk : 0 < k) (hs : s ≠ []) : s.take k ≠ [] := by
  cases s with
  | nil => exact absurd rfl hs
  | cons b s => cases k with
    | zero => omega
    | succ k => simp
theorem odd_split (s : Str) (k : Nat) : oddQ s = (oddQ (s.take k) != oddQ (s.drop k)) := by
  rw [← oddQ_append, List.take_append_drop]
theorem odd_trimL (s : Str) : oddQ (trimL s) = oddQ s := by
  obtain ⟨m, h, _⟩ := trimL_split s
  conv => rhs; rw [h]
  have : List.replicate m (32 : UInt8) = sp m := rfl
  rw [this, oddQ_append, oddQ_sp]
  cases oddQ (trimL s) <;> rfl
theorem drop_head {s : Str} {k : Nat} (hk : k < s.length) : (s.drop k).head? = some (s.getD k 0) := by
  rw [drop_getD 0 hk]; rfl
theorem take_last {s : Str} {k : Nat} (hk : k < s.length) : (s.take (k + 1)).getLast? = some (s.getD k 0) := by
  have e : s.take (k + 1) = s.take k ++ [s.getD k 0] := by
    rw [List.take_add_one, List.getElem?_eq_getElem hk]
    simp [List.getD, hk]
  rw [e, List.getLast?_append]
  rfl
theorem take_odd {s : Str} {k : Nat} (hk : k < s.length) (h : s.getD k 0 = 32) : oddQ (s.take (k + 1)) = oddQ (s.take k) := by
  have e : s.take (k + 1) = s.take k ++ [s.getD k 0] := by
    rw [List.take_add_one, List.getElem?_eq_getElem hk]
    simp [List.getD, hk]
  rw [e, h, oddQ_append]
  have : oddQ [32] = false := by decide
  rw [this]
  cases oddQ (s.take k) <;> rfl
theorem write_read : ∀ (f col : Nat) (mark : Str) (q : Bool) (k : Nat) (s : Str) (x : Rd) (n : Int), s.length < f → (col = 8 ∨ col = 12) → Ahead x mark q col → s.all okB = true → lastOk s → (q = false → s.head? ≠ some 32) → (q != oddQ s) = false →
    ∃ y J m, readL false (textL f col mark q k s) n x = (y, okF) ∧ y.odd = false ∧ jT y.cards = jT x.cards ++ (if mark = [32] ∧ x.cards ≠ [] then [32] else []) ++ J ∧ (∀ p, sqGo q p J = sqGo q p s) ∧ y.cards.map (·.left) = x.cards.map (·.left) ++ (if mark = [32] then [decide (col < 12)] else []) ++ List.replicate m false
  | 0, _, _, _, _, s, _, _, h, _, _, _, _, _, _ => by omega
  | f + 1, col, mark, q, k, s, x, n, hf, hc, ha, hs, hl, hh, hp => by
    obtain ⟨ld, hld⟩ : ∃ ld : Nat, ld = if q = true then 1 else 0 := ⟨_, rfl⟩
    obtain ⟨nn, hnn⟩ : ∃ nn, nn = 73 - col - ld := ⟨_, rfl⟩
    have hld1 : ld ≤ 1 := by rw [hld]; split <;> omega
    have hnn2 : 60 ≤ nn ∧ nn + ld + col = 73 := by omega
    rw [textL, ← hld, ← hnn]
    by_cases h1 : s.length ≤ nn
    · rw [if_pos h1]
      obtain ⟨y, u, r1, r2, r3, r4, r5, r6⟩ := read_one ha (k := k + 1) (t := s) n hc hs hl.1 hh (by rw [← hld]; omega) (fun e => by rw [hp] at e; cases e)
      rw [hp] at r3
      have hu : u = s := by rw [r2, hp]; simp only [Bool.false_eq_true, if_false]; exact trimR_id hl.2
      refine ⟨y, s, 0, by rw [r1]; rfl, r3, by rw [r5, hu], fun p => rfl, by rw [r6]; simp⟩
    · rw [if_neg h1]
      by_cases h2 : 0 < spaceE s nn q
      · rw [if_pos h2]
        have hcut := spaceE_cut s q nn h2
        have hkn := (spaceE_le s nn q).1
        obtain ⟨kk, hkk⟩ : ∃ kk, kk = spaceE s nn q := ⟨_, rfl⟩
        rw [← hkk] at h2 hcut hkn ⊢
        unfold cutAt at hcut
        simp only [Bool.and_eq_true, decide_eq_true_eq, beq_iff_eq] at hcut
        obtain ⟨⟨c1, c2⟩, c3⟩ := hcut
        have hq1 : (q != oddQ (s.take kk)) = false := by rw [c3]; cases q <;> rfl
        obtain ⟨y, u, r1, r2, r3, ⟨l, c, r4, _⟩, r5, r6⟩ := read_one ha (k := k + 1) (t := s.take kk) n hc (all_take hs kk) (take_ne h2 hl.1) (fun e => by rw [head_take h2]; exact hh e) (by rw [← hld, List.length_take]; omega) (fun e => by rw [hq1] at e; cases e)
        rw [hq1] at r2 r3
        simp only [Bool.false_eq_true, if_false] at r2
        have hos : oddQ (trimL (s.drop kk)) = false := by
          rw [odd_trimL]
          have := odd_split s kk
          rw [c3] at this
          rw [this] at hp
          revert hp
          cases q <;> cases oddQ (s.drop kk) <;> decide
        have htl := trimL_le (s.drop kk)
        rw [List.length_drop] at htl
        obtain ⟨z, J, m, t1, t2, t3, t4, t5⟩ := write_read f 12 [32] false (k + 1) (trimL (s.drop kk)) y (n + 1) (by omega) (.inr rfl) (.inl ⟨rfl, rfl, r3⟩) (all_trimL (all_drop hs kk)) (lastOk_trimL (lastOk_drop hl c1)) (fun _ => head_trimL _) (by rw [hos]; rfl)
        have hyne : y.cards ≠ [] := by rw [r4]; simp
        refine ⟨z, u ++ 32 :: J, m + 1, by rw [r1, t1], t2, ?_, ?_, ?_⟩
        · have hz : (if ([32] : Str) = [32] ∧ y.cards ≠ [] then ([32] : Str) else []) = [32] := if_pos ⟨rfl, hyne⟩
          rw [t3, hz, r5]
          simp only [List.append_assoc, List.cons_append, List.nil_append]
        · intro p
          obtain ⟨a, ea⟩ := trimR_split (s.take kk)
          rw [← r2] at ea
          obtain ⟨b, eb, _⟩ := trimL_split (s.drop kk)
          have hb : 0 < b := by
            cases b with
            | zero =>
              rw [List.replicate_zero, List.nil_append] at eb
              have := drop_head c1
              rw [eb, c2] at this
              exact absurd this (head_trimL _)
            | succ b => omega
          have hsu : s = u ++ (sp ((a + b - 1) + 1) ++ trimL (s.drop kk)) := by
            have e1 : sp ((a + b - 1) + 1) = sp a ++ List.replicate b 32 := by
              rw [show a + b - 1 + 1 = a + b by omega]
              unfold sp
              rw [List.replicate_append_replicate]
            rw [e1, List.append_assoc, ← eb, ← List.append_assoc, ← ea, List.take_append_drop]
          have hou : (q != oddQ u) = false := by
            rw [ea, oddQ_append, oddQ_sp] at hq1
            revert hq1
            cases q <;> cases oddQ u <;> decide
          have e2 := sq_sp1 (a + b - 1) (lastSp p u) J (trimL (s.drop kk)) (t4 true)
          have e3 : sqGo q p s = sqGo q p (u ++ (sp ((a + b - 1) + 1) ++ trimL (s.drop kk))) := congrArg _ hsu
          rw [e3, sq_app, sq_app, hou, e2]
        · rw [t5, r6]
          simp only [if_true, List.append_assoc]
          rw [List.replicate_succ]
          rfl
      · rw [if_neg h2]
        have hnl : nn < s.length := by omega
        have hno := spaceE_none h2
        obtain ⟨q', hq'⟩ : ∃ q', q' = (q != oddQ (s.take nn)) := ⟨_, rfl⟩
        have htl : (s.take nn).length = nn := by rw [List.length_take]; omega
        obtain ⟨y, u, r1, r2, r3, ⟨l, c, r4, r4'⟩, r5, r6⟩ := read_one ha (k := k + 1) (t := s.take nn) n hc (all_take hs nn) (take_ne (by omega) hl.1) (fun e => by rw [head_take (by omega)]; exact hh e) (by rw [← hld, htl]; omega) (fun _ => by rw [← hld, htl]; omega)
        rw [← hq'] at r2 r3 r4' ⊢
        have hu : u = s.take nn := by
          rw [r2]
          cases hqq : q' with
          | true => rfl
          | false =>
            simp only [Bool.false_eq_true, if_false]
            refine trimR_id ?_
            rw [show nn = (nn - 1) + 1 by omega, take_last (by omega)]
            intro e
            have e1 : s.getD (nn - 1) 0 = 32 := Option.some.inj e
            have := hno (nn - 1) (by omega) (by omega)
            unfold cutAt at this
            have ho := take_odd (s := s) (k := nn - 1) (by omega) e1
            rw [show nn - 1 + 1 = nn by omega] at ho
            rw [hqq, ho] at hq'
            rw [decide_eq_true (by omega), decide_eq_true e1] at this
            revert hq' this
            cases q <;> cases oddQ (s.take (nn - 1)) <;> decide
        have hod := odd_split s nn
        have hpar : (q' != oddQ (s.drop nn)) = false := by
          rw [hod] at hp
          rw [hq']
          revert hp
          cases q <;> cases oddQ (s.take nn) <;> cases oddQ (s.drop nn) <;> decide
        obtain ⟨z, J, m, t1, t2, t3, t4, t5⟩ := write_read f 12 [45] q' (k + 1) (s.drop nn) y (n + 1) (by rw [List.length_drop]; omega) (.inr rfl) (.inr ⟨rfl, rfl, l, c, r4, r4', r3⟩) (all_drop hs nn) (lastOk_drop hl hnl) (fun e => by
          rw [drop_head hnl]
          intro e2
          have e1 : s.getD nn 0 = 32 := Option.some.inj e2
          have := hno nn (by omega) (Nat.le_refl _)
          unfold cutAt at this
          rw [decide_eq_true hnl, decide_eq_true e1] at this
          rw [e] at hq'
          revert hq' this
          cases q <;> cases oddQ (s.take nn) <;> decide) hpar
        refine ⟨z, s.take nn ++ J, m, by rw [r1, t1], t2, ?_, ?_, ?_⟩
        · have hz : (if ([45] : Str) = [32] ∧ y.cards ≠ [] then ([32] : Str) else []) = [] := if_neg (fun e => absurd e.1 (by decide))
          rw [t3, hz, r5, hu, List.append_nil]
          simp only [List.append_assoc]
        · intro p
          rw [sq_app, ← hq', t4, hq', ← sq_app, List.take_append_drop]
        · rw [t5, r6, if_neg (show ¬ ([45] : Str) = [32] by decide), List.append_nil]
theorem textL_lines : ∀ (f col : Nat) (m : UInt8) (q : Bool) (k : Nat) (s : Str), (m = 32 ∨ m = 45) → (col = 8 ∨ col = 12) → s.all okB = true → lastOk s → ∀ l ∈ textL f col [m] q k s, 8 ≤ l.length ∧ l.length ≤ 72 ∧ (10 : UInt8) ∉ l
  | 0, _, _, _, _, _, _, _, _, _, l, h => by cases h
  | f + 1, col, m, q, k, s, hm, hc, hs, hl, l, h => by
    obtain ⟨ld, hld⟩ : ∃ ld : Nat, ld = if q = true then 1 else 0 := ⟨_, rfl⟩
    obtain ⟨nn, hnn⟩ : ∃ nn, nn = 73 - col - ld := ⟨_, rfl⟩
    have hld1 : ld ≤ 1 := by rw [hld]; split <;> omega
    have hll : (if q = true then [34] else [] : Str).length = ld := by rw [hld]; split <;> rfl
    have hlo : (if q = true then [34] else [] : Str).all okB = true := by split <;> rfl
    have hpos := List.length_pos_iff.2 hl.1
    have one : ∀ t : Str, t.all okB = true → 0 < t.length → t.length ≤ nn → 8 ≤ (lineS (k + 1) [m] col ((if q = true then [34] else []) ++ t)).length ∧ (lineS (k + 1) [m] col ((if q = true then [34] else []) ++ t)).length ≤ 72 ∧ (10 : UInt8) ∉ lineS (k + 1) [m] col ((if q = true then [34] else []) ++ t) := by
      intro t h1 h2 h3
      rw [lineS_len, List.length_append, hll]
      refine ⟨by omega, by omega, fun e => ?_⟩
      have := List.all_eq_true.1 (lineS_ok (n := k + 1) (m := m) (col := col) (t := (if q = true then [34] else []) ++ t) (by rcases hm with rfl | rfl <;> decide) (by rw [List.all_append, hlo, h1]; rfl)) _ e
      exact absurd this (by decide)
    rw [textL, ← hld, ← hnn] at h
    by_cases h1 : s.length ≤ nn
    · rw [if_pos h1] at h
      rw [List.mem_singleton.1 h]
      exact one s hs hpos h1
    · rw [if_neg h1] at h
      by_cases h2 : 0 < spaceE s nn q
      · rw [if_pos h2] at h
        have hcut := spaceE_cut s q nn h2
        have hkn := (spaceE_le s nn q).1
        unfold cutAt at hcut
        simp only [Bool.and_eq_true, decide_eq_true_eq, beq_iff_eq] at hcut
        rcases List.mem_cons.1 h with rfl | h
        · exact one _ (all_take hs _) (by rw [List.length_take]; omega) (by rw [List.length_take]; omega)
        · exact textL_lines f 12 32 false (k + 1) _ (.inl rfl) (.inr rfl) (all_trimL (all_drop hs _)) (lastOk_trimL (lastOk_drop hl hcut.1.1)) l h
      · rw [if_neg h2] at h
        rcases List.mem_cons.1 h with rfl | h
        · exact one _ (all_take hs _) (by rw [List.length_take]; omega) (by rw [List.length_take]; omega)
        · exact textL_lines f 12 45 _ (k + 1) _ (.inr rfl) (.inr rfl) (all_drop hs _) (lastOk_drop hl (by omega)) l h
/-- What Write answers for one text. -/
structure WrLaw (text : Str) (left : Bool) (S : Str) (ls : List Str) (cs : List CardC) : Prop where
  write : writeE [(left, text)] = (S, 0)
  len : S.length ≤ 100000
  split : splitNL S = ls ++ [[]]
  lines : ∀ l ∈ ls, 8 ≤ l.length ∧ l.length ≤ 72
  read : readE S false = (cs, okF)
  left : ∃ m, cs.map (·.left) = left :: List.replicate m false
  sq : sqE (jT cs) = sqE text
theorem write_law {text : Str} {left : Bool} (hr : rightE text = true) (hl : text.length ≤ 1000) : ∃ S ls cs, WrLaw text left S ls cs := by
  obtain ⟨col, hcol⟩ : ∃ col : Nat, col = if left = true then 8 else 12 := ⟨_, rfl⟩
  have hc : col = 8 ∨ col = 12 := by rw [hcol]; split <;> simp
  have hlast := right_last hr
  have hr2 := hr
  unfold rightE at hr2
  simp only [Bool.and_eq_true, Bool.not_eq_true', decide_eq_false_iff_not] at hr2
  obtain ⟨⟨⟨⟨w1, w2⟩, w3⟩, w4⟩, w5⟩ := hr2
  have hhead : text.head? ≠ some 32 := by
    cases text with
    | nil => simp
    | cons b t => exact fun e => w3 (Option.some.inj e)
  obtain ⟨ls, hls⟩ : ∃ ls, ls = textL (text.length + 1) col [32] false 0 text := ⟨_, rfl⟩
  have hSl := textE_len (text.length + 1) col [32] false 0 [] text (by omega) (by omega) rfl
  have hSe := textE_lines (text.length + 1) col [32] false 0 [] text
  rw [List.nil_append, ← hls] at hSe
  rw [hSe, List.length_nil] at hSl
  have hlines := textL_lines (text.length + 1) col 32 false 0 text (.inl rfl) hc w2 hlast
  rw [← hls] at hlines
  obtain ⟨y, J, m, t1, t2, t3, t4, t5⟩ := write_read (text.length + 1) col [32] false 0 text .start 1 (Nat.lt_succ_self _) hc (.inl ⟨rfl, rfl, rfl⟩) w2 hlast (fun _ => hhead) (by rw [w5]; rfl)
  rw [← hls] at t1
  refine ⟨endL ls, ls, y.cards, ?_, by omega, endL_split fun l h => (hlines l h).2.2, fun l h => ⟨(hlines l h).1, (hlines l h).2.1⟩, ?_, ⟨m, ?_⟩, ?_⟩
  · unfold writeE
    simp only [List.all_cons, List.all_nil, Bool.and_true, hr, if_true, writeGo, ← hcol, hSe]
    rw [if_neg (by omega)]
  · have := endL_trim (ls := ls) fun l h => (hlines l h).2.2
    rw [t1] at this
    exact readE_ok (by omega) this t2
  · rw [t5]
    simp only [if_true, Rd.start, List.map_nil, List.nil_append, List.cons_append, List.cons.injEq, and_true]
    rw [hcol]
    cases left <;> rfl
  · have e : jT y.cards = J := by
      rw [t3]
      simp [Rd.start, jT]
    rw [e]
    exact t4 false
end Go.Proofs.YtikpnhdjjabdmaaDoor

/-
  The statement ColumnsWrite, walked.
  Conditions: none.
-/
namespace Go.Proofs.YtikpnhdjjabdmaaDoor
open Go.AM
open Go.Proofs
open Go.Col
set_option maxRecDepth 100000

theorem jT_len {m : Nat} : ∀ {l : List CardC}, (∀ c ∈ l, c.text.length ≤ m) → (jT l).length ≤ l.length * (m + 1)
  | [], _ => Nat.zero_le _
  | c :: r, h => by
    have h1 := h c (by simp)
    have h2 : ∀ {r : List CardC}, (∀ d ∈ r, d.text.length ≤ m) → (r.flatMap fun d => 32 :: d.text).length ≤ r.length * (m + 1) := by
      intro r
      induction r with
      | nil => intro _; simp
      | cons d r ih =>
        intro h
        have a1 := ih fun e he => h e (by simp [he])
        have a2 := h d (by simp)
        rw [List.flatMap_cons, List.length_append, List.length_cons, List.length_cons, Nat.add_mul, Nat.one_mul]
        omega
    have h3 := h2 (r := r) fun d hd => h d (by simp [hd])
    rw [jT, List.length_append, List.length_cons, Nat.add_mul, Nat.one_mul]
    omega
theorem left_at {cs : List CardC} {left : Bool} {m : Nat} (h : cs.map (·.left) = left :: List.replicate m false) {i : Nat} (hi : i < cs.length) : (cs.getD i ⟨false, [], []⟩).left = if i = 0 then left else false := by
  have e : (cs.map (·.left))[i]? = some (cs.getD i ⟨false, [], []⟩).left := by simp [List.getD, hi]
  rw [h] at e
  cases i with
  | zero => simpa using e.symm
  | succ i =>
    rw [List.getElem?_cons_succ, List.getElem?_replicate] at e
    split at e
    · simpa using e.symm
    · cases e
theorem take_step {α : Type} (d : α) {l : List α} {i : Nat} (hi : i < l.length) : l.take (i + 1) = l.take i ++ [l.getD i d] := by
  rw [List.take_add_one, List.getElem?_eq_getElem hi]
  simp [List.getD, hi]
set_option maxHeartbeats 4000000 in
theorem l_ColumnsWrite (w₀ : World) (hm : MaxL w₀) (ht10 : Tab10 w₀) (h : AHeap) (text : Str) (hl : text.length ≤ 9223372036854775807) (left : Bool) :
    ACall Tryd.prog w₀ 3 [.str text, .bool left] h (fun x _ => x = .bool true) := by
  refine ACall.mono (R := fun x h' => x = .bool true ∧ h' = h) ?_ fun x h' hx => hx.1
  refine acall_intro (n := 125) (rs := [.tmp 4]) Tryd.func3 rfl rfl rfl rfl (Nat.le_of_ble_eq_true rfl) ?_
  simp only [initSlots]
  -- region 0  law.go:75
  refine awp_rseq [0, 1] (by rfl) fun K hK => ?_
  simp (decide := true) only [aOps_nil, ev, absV, absS, putD, Slots.put, Slots.keep, if_true, if_false, true_and, ↓ap_assign, pop_assign, Nat.zero_add]
  repeat (with_reducible refine And.intro ?_ ?_; · first | trivial | omega | (intro hg; simp only [Bool.and_eq_true, Bool.or_eq_true, Bool.not_eq_true', Bool.and_eq_false_iff, Bool.or_eq_false_iff, Bool.not_eq_false', decide_eq_true_eq, decide_eq_false_iff_not, eqNil] at hg; omega) | (simp only [List.length_append, List.length_map, List.length_range, List.length_replicate, List.length_take, List.length_drop, List.length_cons, List.length_nil, List.length_set, List.length_reverse]; omega))
  apply hK; clear hK K
  refine awp_seq ?_
  -- region 1  law.go:76
  refine awp_rseq [0, 1, 15] (by rfl) fun K hK => ?_
  simp (decide := true) only [aOps_nil, ev, absV, absS, putD, Slots.put, Slots.get, Slots.keep, if_true, if_false, true_and, ↓ap_move, pop_move, ↓ap_len, pop_len, pLen_str Tryd.underlying9, ↓ap_binOp, pop_binOp, isNilC_int, cond_false, pBinX_int, pI_gtr]
  repeat (with_reducible refine And.intro ?_ ?_; · first | trivial | omega | (intro hg; simp only [Bool.and_eq_true, Bool.or_eq_true, Bool.not_eq_true', Bool.and_eq_false_iff, Bool.or_eq_false_iff, Bool.not_eq_false', decide_eq_true_eq, decide_eq_false_iff_not, eqNil] at hg; omega) | (simp only [List.length_append, List.length_map, List.length_range, List.length_replicate, List.length_take, List.length_drop, List.length_cons, List.length_nil, List.length_set, List.length_reverse]; omega))
  apply hK; clear hK K
  refine awp_cond (b := _) rfl (fun hb1 => ?_) (fun hb1 => ?_)
  · try simp only [decide_eq_true_eq] at hb1
    -- region 2  law.go:77
    refine awp_rseq [4] (by rfl) fun K hK => ?_
    refine aOps_callV (V := .bool true) (by rfl) (by rfl) (c_lives02 w₀ hm ht10 _) ?_
    simp (decide := true) only [aOps_nil, ev, putD, Slots.put, Slots.get, Slots.keep, if_true, if_false, true_and, ↓ap_assign, pop_assign]
    repeat (with_reducible refine And.intro ?_ ?_; · first | trivial | omega | (intro hg; simp only [Bool.and_eq_true, Bool.or_eq_true, Bool.not_eq_true', Bool.and_eq_false_iff, Bool.or_eq_false_iff, Bool.not_eq_false', decide_eq_true_eq, decide_eq_false_iff_not, eqNil] at hg; omega) | (simp only [List.length_append, List.length_map, List.length_range, List.length_replicate, List.length_take, List.length_drop, List.length_cons, List.length_nil, List.length_set, List.length_reverse]; omega))
    apply hK; clear hK K
    refine awp_ret ?_
    try simp only [thenA_ret]
    refine retA_ret h (by repeat (first | exact Sub.refl _ | assumption | refine Sub.trans_set ?_ (by assumption))) (resPre_tmp (resPre_nil)) ?_
    simp (decide := true) only [Slots.get, if_true, and_true, resOf_one]
    all_goals first | rfl | exact ⟨rfl, rfl⟩ | (simp (decide := true) only [if_true, if_false, *]; done) | (trace_state; fail)
  · try simp only [decide_eq_false_iff_not] at hb1
    have hl2 : text.length ≤ 1000 := by omega
    obtain ⟨⟨wS, wE⟩, hwe⟩ : ∃ p, p = writeE [(left, text)] := ⟨_, rfl⟩
    refine awp_skip ?_
    change Awp _ _ _ _ _ _ _
    -- region 3  law.go:79
    refine awp_rseq [0, 1, 5, 6] (by rfl) fun K hK => ?_
    simp (decide := true) only [ev, absV, absS, putD, Slots.put, Slots.get, if_true, if_false, true_and, ↓ap_move, pop_move, ↓ap_build, ↓pop_buildL, bld27_0_1, evP, List.map_cons, List.map_nil]
    repeat (with_reducible refine And.intro ?_ ?_; · first | trivial | omega | (intro hg; simp only [Bool.and_eq_true, Bool.or_eq_true, Bool.not_eq_true', Bool.and_eq_false_iff, Bool.or_eq_false_iff, Bool.not_eq_false', decide_eq_true_eq, decide_eq_false_iff_not, eqNil] at hg; omega) | (simp only [List.length_append, List.length_map, List.length_range, List.length_replicate, List.length_take, List.length_drop, List.length_cons, List.length_nil, List.length_set, List.length_reverse]; omega))
    refine aOps_buildSlice (cs := [.bool left, .str text]) (by kernel_rfl) fun k3q3 hk3q3 => ?_
    try have hf_3q3 : h k3q3 = none := by first | assumption | (simp only [AHeap.set_none] at hk3q3; simp only [hk3q3])
    refine aOps_call (by rfl) (by rfl) (c_Write w₀ ht10 _ [(left, text)] (.own k3q3) 0 (.exact 1) (isLines (ls := [(left, text)]) (AHeap.set_same _ _ _) _ rfl) (by simp) (by intro x hx; simp at hx; subst hx; simp only; omega)) fun x3q4 h3q4 hx3q4 => ?_
    rw [← hwe] at hx3q4
    obtain ⟨rfl, hs3⟩ := hx3q4
    have hs_h3q4 : Sub h h3q4 := Sub.trans (by repeat (first | exact Sub.refl _ | assumption | refine Sub.trans_set ?_ (by assumption))) hs3
    have hr_h3q4 := hs_h3q4
    have eb_3q3 := hs3 k3q3 _ (by repeat (first | exact AHeap.set_same _ _ _ | assumption | refine (AHeap.set_ne _ _ (by first | assumption | exact Ne.symm (by assumption))).trans ?_))
    simp (decide := true) only [aOps_nil, ev, putD, Slots.put, Slots.get, Slots.keep, if_true, if_false, true_and, ↓ap_move, pop_move, ↓ap_extract, pop_extract, pExt_tuple, List.length_cons, List.length_nil, List.getD_cons_zero, List.getD_cons_succ, ↓ap_assign, pop_assign, List.getD_cons_zero, List.getD_cons_succ, Nat.zero_add, Nat.reduceAdd]
    repeat (with_reducible refine And.intro ?_ ?_; · first | trivial | omega | (intro hg; simp only [Bool.and_eq_true, Bool.or_eq_true, Bool.not_eq_true', Bool.and_eq_false_iff, Bool.or_eq_false_iff, Bool.not_eq_false', decide_eq_true_eq, decide_eq_false_iff_not, eqNil] at hg; omega) | (simp only [List.length_append, List.length_map, List.length_range, List.length_replicate, List.length_take, List.length_drop, List.length_cons, List.length_nil, List.length_set, List.length_reverse]; omega))
    apply hK; clear hK K
    refine awp_seq ?_
    -- region 4  law.go:80
    refine awp_rseq [0, 1, 5, 6, 27] (by rfl) fun K hK => ?_
    simp (decide := true) only [ev, putD, Slots.put, Slots.get, if_true, if_false, true_and, ↓ap_move, pop_move]
    repeat (with_reducible refine And.intro ?_ ?_; · first | trivial | omega | (intro hg; simp only [Bool.and_eq_true, Bool.or_eq_true, Bool.not_eq_true', Bool.and_eq_false_iff, Bool.or_eq_false_iff, Bool.not_eq_false', decide_eq_true_eq, decide_eq_false_iff_not, eqNil] at hg; omega) | (simp only [List.length_append, List.length_map, List.length_range, List.length_replicate, List.length_take, List.length_drop, List.length_cons, List.length_nil, List.length_set, List.length_reverse]; omega))
    refine aOps_callV (V := .bool (rightE text)) (by rfl) (by rfl) (c_right w₀ _ text hl) ?_
    simp (decide := true) only [aOps_nil, ev, putD, Slots.put, Slots.get, Slots.keep, if_true, if_false, true_and, ↓ap_unOp, pop_unOp, pU_not]
    try simp (disch := omega) only [wrap_i64, wrap_u8]
    repeat (with_reducible refine And.intro ?_ ?_; · first | trivial | omega | (intro hg; simp only [Bool.and_eq_true, Bool.or_eq_true, Bool.not_eq_true', Bool.and_eq_false_iff, Bool.or_eq_false_iff, Bool.not_eq_false', decide_eq_true_eq, decide_eq_false_iff_not, eqNil] at hg; omega) | (simp only [List.length_append, List.length_map, List.length_range, List.length_replicate, List.length_take, List.length_drop, List.length_cons, List.length_nil, List.length_set, List.length_reverse]; omega))
    apply hK; clear hK K
    refine awp_cond (b := _) rfl (fun hb2 => ?_) (fun hb2 => ?_)
    · try simp only [Bool.not_eq_true'] at hb2
      have hw : (wS, wE) = (([] : Str), (1 : Int)) := by
        rw [hwe]
        unfold writeE
        simp only [List.all_cons, List.all_nil, Bool.and_true, hb2]
        rfl
      obtain ⟨rfl, rfl⟩ := Prod.mk.inj hw
      -- region 5  law.go:81
      refine awp_rseq [4] (by rfl) fun K hK => ?_
      simp (decide := true) only [ev, absV, absS, putD, Slots.put, Slots.get, if_true, if_false, true_and, ↓ap_move, pop_move, ↓ap_binOp, pop_binOp, isNilC_int, cond_false, pBinX_int, pI_eql, ↓ag_move, agP, agQ_some, nthDst, gKnown_bool, guardB_bool_true, implies_true, decide_true, condV_true, Bool.and_true, ↓ag_binOp, isNilC_str, pBinX_str, pS_eql, ↓ap_pick, pop_pick, pPick_bool, pickV_and, Bool.and_true]
      repeat (with_reducible refine And.intro ?_ ?_; · first | trivial | omega | (intro hg; simp only [Bool.and_eq_true, Bool.or_eq_true, Bool.not_eq_true', Bool.and_eq_false_iff, Bool.or_eq_false_iff, Bool.not_eq_false', decide_eq_true_eq, decide_eq_false_iff_not, eqNil] at hg; omega) | (simp only [List.length_append, List.length_map, List.length_range, List.length_replicate, List.length_take, List.length_drop, List.length_cons, List.length_nil, List.length_set, List.length_reverse]; omega))
      first
      | (refine aOps_yes (by rfl) ?_; refine aOps_callV (V := .bool true) (by rfl) (by rfl) (c_lives02 w₀ hm ht10 _) ?_)
      | (refine aOps_gcall (V := .bool true) (f := _) (cap := _) (xs := _) rfl (fun hg => ⟨rfl, ?_⟩) (fun hg => c_lives02 w₀ hm ht10 _) ?_; · (simp (decide := true) only [gv, nthDst, Slots.get, if_true, if_false, guardB_bool_true, guardB_bool_false, guardB_cond, Bool.not_not] at hg; simp (decide := true) only [evs, ev, Slots.get, if_true, if_false, hg, condV_true, List.append_nil, List.map_cons, List.map_nil, absV, absS] <;> try rfl))
      simp (decide := true) only [aOps_nil, ev, absV, absS, putD, Slots.put, Slots.get, Slots.keep, if_true, if_false, true_and, ↓ap_pick, pop_pick, pPick_bool, pickV_and, ↓ap_assign, pop_assign, Bool.and_true]
      repeat (with_reducible refine And.intro ?_ ?_; · first | trivial | omega | (intro hg; simp only [Bool.and_eq_true, Bool.or_eq_true, Bool.not_eq_true', Bool.and_eq_false_iff, Bool.or_eq_false_iff, Bool.not_eq_false', decide_eq_true_eq, decide_eq_false_iff_not, eqNil] at hg; omega) | (simp only [List.length_append, List.length_map, List.length_range, List.length_replicate, List.length_take, List.length_drop, List.length_cons, List.length_nil, List.length_set, List.length_reverse]; omega))
      apply hK; clear hK K
      refine awp_ret ?_
      try simp only [thenA_ret]
      refine retA_ret h (by repeat (first | exact Sub.refl _ | assumption | refine Sub.trans_set ?_ (by assumption))) (resPre_tmp (resPre_nil)) ?_
      simp (decide := true) only [Slots.get, if_true, and_true, resOf_one]
      all_goals first | rfl | exact ⟨rfl, rfl⟩ | (simp (decide := true) only [if_true, if_false, *]; done) | (trace_state; fail)
    · try simp only [Bool.not_eq_false'] at hb2
      obtain ⟨S', ls, cs, L⟩ := write_law (left := left) (by simpa using hb2) hl2
      obtain ⟨rfl, rfl⟩ := Prod.mk.inj (hwe.trans L.write)
      obtain ⟨m, hleft⟩ := L.left
      have hlen := L.len
      have hcpos : 0 < cs.length := by have := congrArg List.length hleft; simp at this; omega
      obtain ⟨z1, z2⟩ := readE_small wS false
      rw [L.read] at z1 z2
      simp only at z1 z2
      refine awp_skip ?_
      change Awp _ _ _ _ _ _ _
      -- region 6  law.go:83
      refine awp_rseq [0, 1, 5, 6, 7, 8] (by rfl) fun K hK => ?_
      simp (decide := true) only [ev, putD, Slots.put, Slots.get, if_true, if_false, true_and, ↓ap_move, pop_move]
      repeat (with_reducible refine And.intro ?_ ?_; · first | trivial | omega | (intro hg; simp only [Bool.and_eq_true, Bool.or_eq_true, Bool.not_eq_true', Bool.and_eq_false_iff, Bool.or_eq_false_iff, Bool.not_eq_false', decide_eq_true_eq, decide_eq_false_iff_not, eqNil] at hg; omega) | (simp only [List.length_append, List.length_map, List.length_range, List.length_replicate, List.length_take, List.length_drop, List.length_cons, List.length_nil, List.length_set, List.length_reverse]; omega))
      refine aOps_call (by rfl) (by rfl) (c_Read w₀ hm _ wS false (by omega)) fun x6q1 h6q1 hx6q1 => ?_
      obtain ⟨cv, rfl, hc, hs6⟩ := hx6q1
      rw [L.read] at hc ⊢
      simp only at hc
      obtain ⟨l, o, cp, rfl⟩ := hc.open hcpos
      have rdc : ∀ i, i < cs.length → ∀ h', Sub h6q1 h' → rd w₀ h' l (o + i * 3) = .bool (cs.getD i ⟨false, [], []⟩).left ∧ rd w₀ h' l (o + i * 3 + 1) = .str (cs.getD i ⟨false, [], []⟩).text := fun i hi h' hs => by
        obtain ⟨mv, e3, e0, e1, e2⟩ := IsCards_nth hc hi
        exact ⟨rd_sub e0 rfl hs, rd_sub e1 rfl hs⟩
      have hct : ∀ i, i < cs.length → (cs.getD i ⟨false, [], []⟩).text.length ≤ 8000080 := fun i hi => by
        have := (z2 (cs.getD i ⟨false, [], []⟩) (by rw [List.getD, List.getElem?_eq_getElem hi]; exact List.getElem_mem hi)).1
        omega
      have hjl : ∀ i, (jT (cs.take i)).length ≤ 1000000000000 := fun i => by
        refine Nat.le_trans (jT_len (m := 8000080) fun c hc' => ?_) ?_
        · have := (z2 c (List.mem_of_mem_take hc')).1
          omega
        · exact Nat.le_trans (Nat.mul_le_mul_right _ (by rw [List.length_take]; omega : (cs.take i).length ≤ 100001)) (by decide)
      have hs_h6q1 : Sub h h6q1 := Sub.trans (by repeat (first | exact Sub.refl _ | assumption | refine Sub.trans_set ?_ (by assumption))) hs6
      have hr_h6q1 : Sub h3q4 h6q1 := Sub.trans (by repeat (first | exact Sub.refl _ | assumption | refine Sub.trans_set ?_ (by assumption))) hs6
      have eb_3q3 := hs6 k3q3 _ (by repeat (first | exact AHeap.set_same _ _ _ | assumption | refine (AHeap.set_ne _ _ (by first | assumption | exact Ne.symm (by assumption))).trans ?_))
      simp (decide := true) only [ev, putD, Slots.put, Slots.get, if_true, if_false, true_and, ↓ap_move, pop_move, ↓ap_extract, pop_extract, pExt_tuple, List.length_cons, List.length_nil, List.getD_cons_zero, List.getD_cons_succ, List.getD_cons_zero, List.getD_cons_succ, Nat.zero_add, Nat.reduceAdd, faultA]
      repeat (with_reducible refine And.intro ?_ ?_; · first | trivial | omega | (intro hg; simp only [Bool.and_eq_true, Bool.or_eq_true, Bool.not_eq_true', Bool.and_eq_false_iff, Bool.or_eq_false_iff, Bool.not_eq_false', decide_eq_true_eq, decide_eq_false_iff_not, eqNil] at hg; omega) | (simp only [List.length_append, List.length_map, List.length_range, List.length_replicate, List.length_take, List.length_drop, List.length_cons, List.length_nil, List.length_set, List.length_reverse]; omega))
      refine aOps_alloc ze34 (cs := [.int .i64 0, .int .i64 0, .int .i64 0]) (by rfl) fun k6q5 hk6q5 => ?_
      have hn_6q5 : h6q1 k6q5 = none := by first | assumption | (simp only [AHeap.set_none] at hk6q5; simp only [hk6q5])
      have hf_6q5 : h k6q5 = none := Sub.none hs_h6q1 hn_6q5
      have ne_6q5_3q3 : k6q5 ≠ k3q3 := AHeap.ne_some hn_6q5 eb_3q3
      simp (decide := true) only [ev, putD, Slots.put, Slots.get, if_true, if_false, true_and, ↓ap_assign, pop_assign]
      repeat (with_reducible refine And.intro ?_ ?_; · first | trivial | omega | (intro hg; simp only [Bool.and_eq_true, Bool.or_eq_true, Bool.not_eq_true', Bool.and_eq_false_iff, Bool.or_eq_false_iff, Bool.not_eq_false', decide_eq_true_eq, decide_eq_false_iff_not, eqNil] at hg; omega) | (simp only [List.length_append, List.length_map, List.length_range, List.length_replicate, List.length_take, List.length_drop, List.length_cons, List.length_nil, List.length_set, List.length_reverse]; omega))
      refine aOps_store (by rfl) (by rfl) (by repeat (first | exact AHeap.set_same _ _ _ | assumption | refine (AHeap.set_ne _ _ (by first | assumption | exact Ne.symm (by assumption))).trans ?_)) sz34 (by rfl) (by rfl) (by first | exact Nat.le_refl _ | decide | (simp; done) | (simp; omega)) (Nat.zero_le _) (by rfl) ?_
      simp only [AHeap.set_set, AVal.cells]
      simp (decide := true) only [aOps_nil, ev, putD, Slots.get, Slots.keep, if_true, if_false, setAt, List.set_cons_zero, List.set_cons_succ, Nat.zero_add, Nat.reduceAdd]
      repeat (with_reducible refine And.intro ?_ ?_; · first | trivial | omega | (intro hg; simp only [Bool.and_eq_true, Bool.or_eq_true, Bool.not_eq_true', Bool.and_eq_false_iff, Bool.or_eq_false_iff, Bool.not_eq_false', decide_eq_true_eq, decide_eq_false_iff_not, eqNil] at hg; omega) | (simp only [List.length_append, List.length_map, List.length_range, List.length_replicate, List.length_take, List.length_drop, List.length_cons, List.length_nil, List.length_set, List.length_reverse]; omega))
      apply hK; clear hK K
      refine awp_seq ?_
      have a0 : rd w₀ (h6q1.set k6q5 ⟨[.int .i64 okF.e, .int .i64 okF.line, .int .i64 okF.col], 0⟩) l (o + Int.toNat 0 * 3 + 0) = .bool left := by
        have := (rdc 0 hcpos (h6q1.set k6q5 ⟨[.int .i64 okF.e, .int .i64 okF.line, .int .i64 okF.col], 0⟩) (Sub.set hn_6q5)).1
        rw [left_at hleft hcpos, if_pos rfl] at this
        exact this
      have a1 : rd w₀ (h6q1.set k6q5 ⟨[.int .i64 okF.e, .int .i64 okF.line, .int .i64 okF.col], 0⟩) l (o + Int.toNat 0 * 3 + 1) = .str (cs.getD 0 ⟨false, [], []⟩).text := (rdc 0 hcpos (h6q1.set k6q5 ⟨[.int .i64 okF.e, .int .i64 okF.line, .int .i64 okF.col], 0⟩) (Sub.set hn_6q5)).2
      have hj1 : jT (cs.take 1) = (cs.getD 0 ⟨false, [], []⟩).text := by
        have := take_step (⟨false, [], []⟩ : CardC) hcpos
        rw [Nat.zero_add, List.take_zero, List.nil_append] at this
        rw [this]
        simp [jT]
      -- region 7  law.go:84
      refine awp_rseq [0, 5, 7, 61] (by rfl) fun K hK => ?_
      simp (decide := true) only [aOps_nil, ev, absV, absS, putD, Slots.put, Slots.get, Slots.keep, if_true, if_false, true_and, ↓ap_move, pop_move, ↓ap_binOp, pop_binOp, isNilC_int, cond_false, pBinX_int, pI_neq, ↓ag_loadL, agQL_some, agL_mk, agL_ld2, agP, agQ_some, nthDst, gKnown_bool, guardB_bool_false, implies_true, decide_true, Bool.not_false, Bool.not_true, condV_true, Bool.and_true, Bool.false_or, pLoad_agg ag34 sz34, ↓ag_build, ↓pop_buildL, bld34_, evP, List.map_nil, ↓ag_binOp, isNilC_tmp, cv_binl, cv_binr, cp_binl, cp_binr, pBinX_agg, ne34, ↓ap_pick, pop_pick, pPick_bool, pickV_cond_r, pickV_and, pickV_or, ↓ag_move, ↓ag_len, pop_len, pLen_slice Tryd.underlying30, pI_eql, ↓ag_indexAddrL, agL_il2, pIndexAddr_slice Tryd.underlying30 sz39, ↓ag_fieldAddr, pop_fieldAddr, fa39_0, cv_fieldAddr, cp_fieldAddr, pLoad_one ag4, pBinX_bne, Tryd.underlying4, rd_any, cellsAt, List.getD_cons_zero, List.getD_cons_succ, Nat.zero_add, Nat.reduceAdd, lv_bool, lv_int, allLive, Bool.and_true, a0]
      repeat (with_reducible refine And.intro ?_ ?_; · first | trivial | omega | (intro hg; simp only [Bool.and_eq_true, Bool.or_eq_true, Bool.not_eq_true', Bool.and_eq_false_iff, Bool.or_eq_false_iff, Bool.not_eq_false', decide_eq_true_eq, decide_eq_false_iff_not, eqNil] at hg; omega) | (simp only [List.length_append, List.length_map, List.length_range, List.length_replicate, List.length_take, List.length_drop, List.length_cons, List.length_nil, List.length_set, List.length_reverse]; omega))
      apply hK; clear hK K
      refine awp_cond (b := _) rfl (fun hb3 => ?_) (fun hb3 => ?_)
      · try simp only [decide_eq_true_eq, Bool.not_eq_true', Bool.or_eq_true] at hb3
        exfalso
        simp at hb3
        first
        | omega
        | (rw [hb3] at hcpos; simp at hcpos)
      · try simp only [decide_eq_false_iff_not, Bool.not_eq_false', Bool.or_eq_false_iff] at hb3
        refine awp_skip ?_
        change Awp _ _ _ _ _ _ _
        -- region 9  law.go:87
        refine awp_rseq [0, 5, 7, 9] (by rfl) fun K hK => ?_
        simp (decide := true) only [aOps_nil, ev, absV, absS, putD, Slots.put, Slots.get, Slots.keep, if_true, if_false, true_and, ↓ap_move, pop_move, ↓ap_indexAddrL, apL_mk, pIndexAddr_slice Tryd.underlying30 sz39, ↓ap_fieldAddr, pop_fieldAddr, fa39_1, ↓ap_loadL, pLoad_one ag9, ↓ap_assign, pop_assign, lv_str, a1]
        repeat (with_reducible refine And.intro ?_ ?_; · first | trivial | omega | (intro hg; simp only [Bool.and_eq_true, Bool.or_eq_true, Bool.not_eq_true', Bool.and_eq_false_iff, Bool.or_eq_false_iff, Bool.not_eq_false', decide_eq_true_eq, decide_eq_false_iff_not, eqNil] at hg; omega) | (simp only [List.length_append, List.length_map, List.length_range, List.length_replicate, List.length_take, List.length_drop, List.length_cons, List.length_nil, List.length_set, List.length_reverse]; omega))
        apply hK; clear hK K
        refine awp_seq ?_
        -- region 10  law.go:88
        refine awp_rseq [0, 5, 7, 9, 10] (by rfl) fun K hK => ?_
        simp (decide := true) only [aOps_nil, ev, absV, absS, putD, Slots.put, Slots.keep, if_true, if_false, true_and, ↓ap_assign, pop_assign]
        repeat (with_reducible refine And.intro ?_ ?_; · first | trivial | omega | (intro hg; simp only [Bool.and_eq_true, Bool.or_eq_true, Bool.not_eq_true', Bool.and_eq_false_iff, Bool.or_eq_false_iff, Bool.not_eq_false', decide_eq_true_eq, decide_eq_false_iff_not, eqNil] at hg; omega) | (simp only [List.length_append, List.length_map, List.length_range, List.length_replicate, List.length_take, List.length_drop, List.length_cons, List.length_nil, List.length_set, List.length_reverse]; omega))
        apply hK; clear hK K
        refine awp_block ?_
        refine awp_loopG [0, 5, 7, 9, 10] (fun i : Nat => [(0, .str text), (5, .str wS), (7, .slice l o cs.length cp), (9, .str (jT (cs.take i))), (10, .int .i64 i)]) (fun i : Nat => h6q1.set k6q5 ⟨[.int .i64 okF.e, .int .i64 okF.line, .int .i64 okF.col], 0⟩) (fun i : Nat => 1 ≤ i ∧ i ≤ cs.length) (fun i : Nat => cs.length - i) 1 (by rw [hj1]; rfl) (Sub.refl _) ⟨Nat.le_refl _, hcpos⟩ ?_
        rintro i ⟨hi1, hi⟩
        have hji := hjl i
        refine awp_seq ?_
        -- region 11  law.go:88
        refine awp_rseq [0, 5, 7, 9, 10, 69] (by rfl) fun K hK => ?_
        simp (decide := true) only [aOps_nil, ev, putD, Slots.put, Slots.get, Slots.keep, if_true, if_false, true_and, ↓ap_move, pop_move, ↓ap_len, pop_len, pLen_slice Tryd.underlying30, ↓ap_binOp, pop_binOp, isNilC_tmp, cond_false, pBinX_int, pI_lss]
        repeat (with_reducible refine And.intro ?_ ?_; · first | trivial | omega | (intro hg; simp only [Bool.and_eq_true, Bool.or_eq_true, Bool.not_eq_true', Bool.and_eq_false_iff, Bool.or_eq_false_iff, Bool.not_eq_false', decide_eq_true_eq, decide_eq_false_iff_not, eqNil] at hg; omega) | (simp only [List.length_append, List.length_map, List.length_range, List.length_replicate, List.length_take, List.length_drop, List.length_cons, List.length_nil, List.length_set, List.length_reverse]; omega))
        apply hK; clear hK K
        refine awp_cond (b := _) rfl (fun hb4 => ?_) (fun hb4 => ?_)
        · try simp only [decide_eq_true_eq] at hb4
          have hi' : i < cs.length := by omega
          obtain ⟨b0, b1⟩ := rdc i hi' (h6q1.set k6q5 ⟨[.int .i64 okF.e, .int .i64 okF.line, .int .i64 okF.col], 0⟩) (Sub.set hn_6q5)
          rw [left_at hleft hi', if_neg (by omega)] at b0
          have hci := hct i hi'
          refine awp_skip ?_
          change Awp _ _ _ _ _ _ _
          refine awp_seq ?_
          refine awp_block ?_
          refine awp_seq ?_
          -- region 13  law.go:89
          refine awp_rseq [0, 5, 7, 9, 10, 76] (by rfl) fun K hK => ?_
          simp (decide := true) only [aOps_nil, ev, putD, Slots.put, Slots.get, Slots.keep, if_true, if_false, true_and, ↓ap_move, pop_move, ↓ap_indexAddrL, apL_mk, pIndexAddr_slice Tryd.underlying30 sz39, ↓ap_fieldAddr, pop_fieldAddr, fa39_0, ↓ap_loadL, pLoad_one ag4, lv_bool, Nat.add_zero, b0, Int.toNat_natCast]
          repeat (with_reducible refine And.intro ?_ ?_; · first | trivial | omega | (intro hg; simp only [Bool.and_eq_true, Bool.or_eq_true, Bool.not_eq_true', Bool.and_eq_false_iff, Bool.or_eq_false_iff, Bool.not_eq_false', decide_eq_true_eq, decide_eq_false_iff_not, eqNil] at hg; omega) | (simp only [List.length_append, List.length_map, List.length_range, List.length_replicate, List.length_take, List.length_drop, List.length_cons, List.length_nil, List.length_set, List.length_reverse]; omega))
          apply hK; clear hK K
          refine awp_cond (b := _) rfl (fun hb5 => ?_) (fun hb5 => ?_)
          · exact absurd hb5 (by decide)
          · try simp only at hb5
            refine awp_skip ?_
            change Awp _ _ _ _ _ _ _
            -- region 15  law.go:92
            refine awp_r [0, 5, 7, 9, 10] (by rfl) ?_
            simp (decide := true) only [aOps_nil, ev, absV, absS, putD, Slots.put, Slots.get, Slots.keep, if_true, if_false, true_and, ↓ap_move, pop_move, ↓ap_binOp, pop_binOp, isNilC_str, cond_false, pBinX_str, pS_add, ↓ap_indexAddrL, apL_mk, pIndexAddr_slice Tryd.underlying30 sz39, ↓ap_fieldAddr, pop_fieldAddr, fa39_1, ↓ap_loadL, pLoad_one ag9, isNilC_tmp, ↓ap_assign, pop_assign, lv_str, b1, Int.toNat_natCast]
            repeat (with_reducible refine And.intro ?_ ?_; · first | trivial | omega | (intro hg; simp only [Bool.and_eq_true, Bool.or_eq_true, Bool.not_eq_true', Bool.and_eq_false_iff, Bool.or_eq_false_iff, Bool.not_eq_false', decide_eq_true_eq, decide_eq_false_iff_not, eqNil] at hg; omega) | (simp only [List.length_append, List.length_cons, List.length_nil]; omega))
            change Awp _ _ _ _ _ _ _
            -- region 12  law.go:88
            refine awp_r [0, 5, 7, 9, 10] (by rfl) ?_
            simp (decide := true) only [aOps_nil, ev, absV, absS, putD, Slots.put, Slots.get, Slots.keep, if_true, if_false, true_and, ↓ap_move, pop_move, ↓ap_binOp, pop_binOp, isNilC_int, cond_false, pBinX_int, pI_add, ↓ap_assign, pop_assign]
            try simp (disch := omega) only [wrap_i64]
            repeat (with_reducible refine And.intro ?_ ?_; · first | trivial | omega | (intro hg; simp only [Bool.and_eq_true, Bool.or_eq_true, Bool.not_eq_true', Bool.and_eq_false_iff, Bool.or_eq_false_iff, Bool.not_eq_false', decide_eq_true_eq, decide_eq_false_iff_not, eqNil] at hg; omega) | (simp only [List.length_append, List.length_map, List.length_range, List.length_replicate, List.length_take, List.length_drop, List.length_cons, List.length_nil, List.length_set, List.length_reverse]; omega))
            try simp only [thenA_normal]
            refine ⟨i + 1, ?_, Sub.refl _, ⟨by omega, hi'⟩, by omega⟩
            have hne : cs.take i ≠ [] := fun e => by have := congrArg List.length e; rw [List.length_take, List.length_nil] at this; omega
            rw [take_step (⟨false, [], []⟩ : CardC) hi', jT_new, if_pos hne]
            rfl
        · try simp only [decide_eq_false_iff_not] at hb4
          have hie : cs.take i = cs := by rw [show i = cs.length by omega, List.take_length]
          rw [hie]
          rw [hie] at hji
          refine awp_exit ?_
          change Awp _ _ _ _ _ _ _
          -- region 16  law.go:94
          refine awp_rseq [0, 9, 11] (by rfl) fun K hK => ?_
          simp (decide := true) only [ev, putD, Slots.put, Slots.get, if_true, if_false, true_and, ↓ap_move, pop_move]
          repeat (with_reducible refine And.intro ?_ ?_; · first | trivial | omega | (intro hg; simp only [Bool.and_eq_true, Bool.or_eq_true, Bool.not_eq_true', Bool.and_eq_false_iff, Bool.or_eq_false_iff, Bool.not_eq_false', decide_eq_true_eq, decide_eq_false_iff_not, eqNil] at hg; omega) | (simp only [List.length_append, List.length_map, List.length_range, List.length_replicate, List.length_take, List.length_drop, List.length_cons, List.length_nil, List.length_set, List.length_reverse]; omega))
          refine aOps_call (by rfl) (by rfl) (c_split w₀ hm _ wS (by omega)) fun x16q1 h16q1 hx16q1 => ?_
          rw [L.split, List.length_append, List.length_cons, List.length_nil, Nat.zero_add] at hx16q1
          obtain ⟨ks, hks, rfl, hh16⟩ := hx16q1
          have hs16 : Sub (h6q1.set k6q5 ⟨[.int .i64 okF.e, .int .i64 okF.line, .int .i64 okF.col], 0⟩) h16q1 := by rw [hh16]; exact Sub.set hks
          have ebs : h16q1 ks = some ⟨(ls ++ [[]]).map AVal.str, 0⟩ := by rw [hh16]; exact AHeap.set_same _ _ _
          have rls := fun o => rd_own w₀ ebs o
          have hlast : ((ls ++ [[]]).map AVal.str).getD (((ls.length + 1 : Nat) : Int) - 1).toNat .dead = .str [] := by
            rw [show (((ls.length + 1 : Nat) : Int) - 1).toNat = ls.length by omega, strs_at (by simp)]
            rw [getD_r (Nat.le_refl _), Nat.sub_self]
            rfl
          have hlsl : ls.length ≤ 100001 := by
            have := splitNL_len wS
            rw [L.split] at this
            simp at this
            omega
          have hs_h16q1 : Sub h h16q1 := Sub.trans (by repeat (first | exact Sub.refl _ | assumption | refine Sub.trans_set ?_ (by assumption))) hs16
          have hr_h16q1 : Sub h6q1 h16q1 := Sub.trans (by repeat (first | exact Sub.refl _ | assumption | refine Sub.trans_set ?_ (by assumption))) hs16
          have eb_6q5 := hs16 k6q5 _ (by repeat (first | exact AHeap.set_same _ _ _ | assumption | refine (AHeap.set_ne _ _ (by first | assumption | exact Ne.symm (by assumption))).trans ?_))
          have eb_3q3 := hs16 k3q3 _ (by repeat (first | exact AHeap.set_same _ _ _ | assumption | refine (AHeap.set_ne _ _ (by first | assumption | exact Ne.symm (by assumption))).trans ?_))
          simp (decide := true) only [aOps_nil, ev, putD, Slots.put, Slots.get, Slots.keep, if_true, if_false, true_and, ↓ap_assign, pop_assign]
          repeat (with_reducible refine And.intro ?_ ?_; · first | trivial | omega | (intro hg; simp only [Bool.and_eq_true, Bool.or_eq_true, Bool.not_eq_true', Bool.and_eq_false_iff, Bool.or_eq_false_iff, Bool.not_eq_false', decide_eq_true_eq, decide_eq_false_iff_not, eqNil] at hg; omega) | (simp only [List.length_append, List.length_map, List.length_range, List.length_replicate, List.length_take, List.length_drop, List.length_cons, List.length_nil, List.length_set, List.length_reverse]; omega))
          apply hK; clear hK K
          refine awp_seq ?_
          -- region 17  law.go:95
          refine awp_rseq [0, 9, 11, 12] (by rfl) fun K hK => ?_
          simp (decide := true) only [aOps_nil, ev, absV, absS, putD, Slots.put, Slots.keep, if_true, if_false, true_and, ↓ap_assign, pop_assign]
          repeat (with_reducible refine And.intro ?_ ?_; · first | trivial | omega | (intro hg; simp only [Bool.and_eq_true, Bool.or_eq_true, Bool.not_eq_true', Bool.and_eq_false_iff, Bool.or_eq_false_iff, Bool.not_eq_false', decide_eq_true_eq, decide_eq_false_iff_not, eqNil] at hg; omega) | (simp only [List.length_append, List.length_map, List.length_range, List.length_replicate, List.length_take, List.length_drop, List.length_cons, List.length_nil, List.length_set, List.length_reverse]; omega))
          apply hK; clear hK K
          refine awp_block ?_
          refine awp_loopG [0, 9, 11, 12] (fun j : Nat => [(0, .str text), (9, .str (jT cs)), (11, .slice (.own ks) 0 (ls.length + 1) (.exact (ls.length + 1))), (12, .int .i64 j)]) (fun j : Nat => h16q1) (fun j : Nat => j ≤ ls.length) (fun j : Nat => ls.length - j) 0 (by rfl) (Sub.refl _) (Nat.zero_le _) ?_
          intro j hj
          refine awp_seq ?_
          -- region 18  law.go:95
          refine awp_rseq [0, 9, 11, 12, 91] (by rfl) fun K hK => ?_
          simp (decide := true) only [aOps_nil, ev, absV, absS, putD, Slots.put, Slots.get, Slots.keep, if_true, if_false, true_and, ↓ap_move, pop_move, ↓ap_len, pop_len, pLen_slice Tryd.underlying40, ↓ap_binOp, pop_binOp, isNilC_int, cond_false, pBinX_int, pI_sub, isNilC_tmp, pI_lss]
          try simp (disch := omega) only [wrap_i64]
          repeat (with_reducible refine And.intro ?_ ?_; · first | trivial | omega | (intro hg; simp only [Bool.and_eq_true, Bool.or_eq_true, Bool.not_eq_true', Bool.and_eq_false_iff, Bool.or_eq_false_iff, Bool.not_eq_false', decide_eq_true_eq, decide_eq_false_iff_not, eqNil] at hg; omega) | (simp only [List.length_append, List.length_map, List.length_range, List.length_replicate, List.length_take, List.length_drop, List.length_cons, List.length_nil, List.length_set, List.length_reverse]; omega))
          apply hK; clear hK K
          refine awp_cond (b := _) rfl (fun hb6 => ?_) (fun hb6 => ?_)
          · try simp only [decide_eq_true_eq] at hb6
            have hj' : j < ls.length := by omega
            have hst : ((ls ++ [[]]).map AVal.str).getD j .dead = .str (ls.getD j []) := by rw [strs_at (by simp; omega), getD_l hj']
            obtain ⟨n1, n2⟩ := L.lines (ls.getD j []) (by rw [List.getD, List.getElem?_eq_getElem hj']; exact List.getElem_mem hj')
            refine awp_skip ?_
            change Awp _ _ _ _ _ _ _
            refine awp_seq ?_
            refine awp_block ?_
            -- region 20  law.go:96
            refine awp_rseq [0, 9, 11, 12, 107] (by rfl) fun K hK => ?_
            simp (decide := true) only [aOps_nil, ev, absV, absS, putD, Slots.put, Slots.get, Slots.keep, if_true, if_false, true_and, ↓ap_move, pop_move, ↓ap_indexAddrL, apL_mk, pIndexAddr_slice Tryd.underlying40 sz9, ↓ap_loadL, pLoad_one ag9, ↓ap_len, pop_len, pLen_str Tryd.underlying9, ↓ap_binOp, pop_binOp, isNilC_int, cond_false, pBinX_int, pI_gtr, ↓ag_move, agP, agQ_some, nthDst, gKnown_bool, guardB_bool_false, implies_true, ↓ag_indexAddrL, agQL_some, agL_mk, agL_il2, agL_ir2, ↓ag_loadL, agL_ld2, ↓ag_len, cv_len, cp_len, ↓ag_binOp, cv_binl, cp_binl, pI_lss, ↓ap_pick, pop_pick, pPick_bool, pickV_cond_r, pickV_or, Nat.zero_add, lv_str, Nat.zero_add, Nat.mul_one, Int.toNat_natCast, rls, hst]
            repeat (with_reducible refine And.intro ?_ ?_; · first | trivial | omega | (intro hg; simp only [Bool.and_eq_true, Bool.or_eq_true, Bool.not_eq_true', Bool.and_eq_false_iff, Bool.or_eq_false_iff, Bool.not_eq_false', decide_eq_true_eq, decide_eq_false_iff_not, eqNil] at hg; omega) | (simp only [List.length_append, List.length_map, List.length_range, List.length_replicate, List.length_take, List.length_drop, List.length_cons, List.length_nil, List.length_set, List.length_reverse]; omega))
            apply hK; clear hK K
            refine awp_cond (b := _) rfl (fun hb7 => ?_) (fun hb7 => ?_)
            · try simp only [decide_eq_true_eq, Bool.or_eq_true] at hb7
              exfalso
              omega
            · try simp only [decide_eq_false_iff_not, Bool.or_eq_false_iff] at hb7
              refine awp_skip ?_
              change Awp _ _ _ _ _ _ _
              -- region 19  law.go:95
              refine awp_r [0, 9, 11, 12] (by rfl) ?_
              simp (decide := true) only [aOps_nil, ev, absV, absS, putD, Slots.put, Slots.get, Slots.keep, if_true, if_false, true_and, ↓ap_move, pop_move, ↓ap_binOp, pop_binOp, isNilC_int, cond_false, pBinX_int, pI_add, ↓ap_assign, pop_assign]
              try simp (disch := omega) only [wrap_i64]
              repeat (with_reducible refine And.intro ?_ ?_; · first | trivial | omega | (intro hg; simp only [Bool.and_eq_true, Bool.or_eq_true, Bool.not_eq_true', Bool.and_eq_false_iff, Bool.or_eq_false_iff, Bool.not_eq_false', decide_eq_true_eq, decide_eq_false_iff_not, eqNil] at hg; omega) | (simp only [List.length_append, List.length_map, List.length_range, List.length_replicate, List.length_take, List.length_drop, List.length_cons, List.length_nil, List.length_set, List.length_reverse]; omega))
              try simp only [thenA_normal]
              exact ⟨j + 1, rfl, Sub.refl _, hj', by omega⟩
          · try simp only [decide_eq_false_iff_not] at hb6
            refine awp_exit ?_
            change Awp _ _ _ _ _ _ _
            -- region 22  law.go:100
            refine awp_rseq [4] (by rfl) fun K hK => ?_
            simp (decide := true) only [ev, absV, absS, putD, Slots.put, Slots.get, if_true, if_false, true_and, ↓ap_move, pop_move, ↓ap_len, pop_len, pLen_slice Tryd.underlying40, ↓ap_binOp, pop_binOp, isNilC_int, cond_false, pBinX_int, pI_sub]
            try simp (disch := omega) only [wrap_i64]
            try simp (decide := true) only [ev, absV, absS, putD, Slots.put, Slots.get, if_true, if_false, true_and, ↓ap_indexAddrL, apL_mk, pIndexAddr_slice Tryd.underlying40 sz9, ↓ap_loadL, pLoad_one ag9, ↓ap_binOp, pop_binOp, isNilC_str, cond_false, pBinX_str, pS_eql, ↓ap_move, pop_move, ↓ag_move, agP, agQ_some, nthDst, gKnown_bool, guardB_bool_true, implies_true, decide_true, condV_true, Nat.zero_add, lv_str, Nat.zero_add, Nat.mul_one, rls, hlast]
            repeat (with_reducible refine And.intro ?_ ?_; · first | trivial | omega | (intro hg; simp only [Bool.and_eq_true, Bool.or_eq_true, Bool.not_eq_true', Bool.and_eq_false_iff, Bool.or_eq_false_iff, Bool.not_eq_false', decide_eq_true_eq, decide_eq_false_iff_not, eqNil] at hg; omega) | (simp only [List.length_append, List.length_map, List.length_range, List.length_replicate, List.length_take, List.length_drop, List.length_cons, List.length_nil, List.length_set, List.length_reverse]; omega))
            first
            | (refine aOps_yes (by rfl) ?_; refine aOps_callV (V := .str (sqE text)) (by rfl) (by rfl) ((by have q := c_Squeeze w₀ h16q1 (jT cs) (by omega); rw [L.sq] at q; exact q)) ?_)
            | (refine aOps_gcall (V := .str (sqE text)) (f := _) (cap := _) (xs := _) rfl (fun hg => ⟨rfl, ?_⟩) (fun hg => (by have q := c_Squeeze w₀ h16q1 (jT cs) (by omega); rw [L.sq] at q; exact q)) ?_; · (simp (decide := true) only [gv, nthDst, Slots.get, if_true, if_false, guardB_bool_true, guardB_bool_false, guardB_cond, Bool.not_not] at hg; simp (decide := true) only [evs, ev, Slots.get, if_true, if_false, hg, condV_true, List.append_nil, List.map_cons, List.map_nil, absV, absS] <;> try rfl))
            simp (decide := true) only [ev, putD, Slots.put, Slots.get, if_true, if_false, true_and, nthDst, guardB_bool_true, ↓ag_move, pop_move, agP, agQ_some, gKnown_bool, implies_true, condV_true]
            repeat (with_reducible refine And.intro ?_ ?_; · first | trivial | omega | (intro hg; simp only [Bool.and_eq_true, Bool.or_eq_true, Bool.not_eq_true', Bool.and_eq_false_iff, Bool.or_eq_false_iff, Bool.not_eq_false', decide_eq_true_eq, decide_eq_false_iff_not, eqNil] at hg; omega) | (simp only [List.length_append, List.length_map, List.length_range, List.length_replicate, List.length_take, List.length_drop, List.length_cons, List.length_nil, List.length_set, List.length_reverse]; omega))
            first
            | (refine aOps_yes (by rfl) ?_; refine aOps_callV (V := .str (sqE text)) (by rfl) (by rfl) (c_Squeeze w₀ _ text (by omega)) ?_)
            | (refine aOps_gcall (V := .str (sqE text)) (f := _) (cap := _) (xs := _) rfl (fun hg => ⟨rfl, ?_⟩) (fun hg => c_Squeeze w₀ _ text (by omega)) ?_; · (simp (decide := true) only [gv, nthDst, Slots.get, if_true, if_false, guardB_bool_true, guardB_bool_false, guardB_cond, Bool.not_not] at hg; simp (decide := true) only [evs, ev, Slots.get, if_true, if_false, hg, condV_true, List.append_nil, List.map_cons, List.map_nil, absV, absS] <;> try rfl))
            simp (decide := true) only [ev, absV, absS, putD, Slots.put, Slots.get, if_true, if_false, true_and, nthDst, guardB_bool_true, ↓ag_binOp, pop_binOp, agP, agQ_some, gKnown_bool, implies_true, decide_true, condV_true, Bool.and_true, isNilC_tmp, cond_false, pBinX_str, pS_eql, ↓ap_pick, pop_pick, pPick_bool, pickV_and, ↓ap_move, pop_move, Bool.and_true]
            repeat (with_reducible refine And.intro ?_ ?_; · first | trivial | omega | (intro hg; simp only [Bool.and_eq_true, Bool.or_eq_true, Bool.not_eq_true', Bool.and_eq_false_iff, Bool.or_eq_false_iff, Bool.not_eq_false', decide_eq_true_eq, decide_eq_false_iff_not, eqNil] at hg; omega) | (simp only [List.length_append, List.length_map, List.length_range, List.length_replicate, List.length_take, List.length_drop, List.length_cons, List.length_nil, List.length_set, List.length_reverse]; omega))
            first
            | (refine aOps_yes (by rfl) ?_; refine aOps_callV (V := .bool true) (by rfl) (by rfl) (c_lives02 w₀ hm ht10 _) ?_)
            | (refine aOps_gcall (V := .bool true) (f := _) (cap := _) (xs := _) rfl (fun hg => ⟨rfl, ?_⟩) (fun hg => c_lives02 w₀ hm ht10 _) ?_; · (simp (decide := true) only [gv, nthDst, Slots.get, if_true, if_false, guardB_bool_true, guardB_bool_false, guardB_cond, Bool.not_not] at hg; simp (decide := true) only [evs, ev, Slots.get, if_true, if_false, hg, condV_true, List.append_nil, List.map_cons, List.map_nil, absV, absS] <;> try rfl))
            simp (decide := true) only [aOps_nil, ev, absV, absS, putD, Slots.put, Slots.get, Slots.keep, if_true, if_false, true_and, ↓ap_pick, pop_pick, pPick_bool, pickV_and, ↓ap_assign, pop_assign, Bool.and_true]
            repeat (with_reducible refine And.intro ?_ ?_; · first | trivial | omega | (intro hg; simp only [Bool.and_eq_true, Bool.or_eq_true, Bool.not_eq_true', Bool.and_eq_false_iff, Bool.or_eq_false_iff, Bool.not_eq_false', decide_eq_true_eq, decide_eq_false_iff_not, eqNil] at hg; omega) | (simp only [List.length_append, List.length_map, List.length_range, List.length_replicate, List.length_take, List.length_drop, List.length_cons, List.length_nil, List.length_set, List.length_reverse]; omega))
            apply hK; clear hK K
            refine awp_ret ?_
            try simp only [thenA_ret, inBlockA_ret]
            refine retA_ret h (by repeat (first | exact Sub.refl _ | assumption | refine Sub.trans_set ?_ (by assumption))) (resPre_tmp (resPre_nil)) ?_
            simp (decide := true) only [Slots.get, if_true, and_true, resOf_one]
            all_goals first | rfl | exact ⟨rfl, rfl⟩ | (simp (decide := true) only [if_true, if_false, *]; done) | (trace_state; fail)
end Go.Proofs.YtikpnhdjjabdmaaDoor

/-
  The arguments of the statements, opened: booleans, texts, integers, pairs of bytes; the wrap that hands on the world's shape.
  Conditions: none.
-/
namespace Go.Proofs.YtikpnhdjjabdmaaDoor
open Go.AM
open Go.ChangeShapes Go.WideShapes Go.ChangeAt Go.RowKit
set_option maxRecDepth 100000

section
variable {H : Type} {enc : TypeId × Value → H} {W : World} {base : Nat} {v : Value} {x : DataW H × List MemPlace}
theorem arg_bool {t : TypeId} (ht : Tryd.prog.underlying t = some .bool) (hv : Value.okWide Tryd.prog W .any base t v) : ∃ b : Bool, VR (fun _ => none) (.bool b) v := by
  obtain ⟨b, rfl⟩ := okWide_bool ht hv
  exact ⟨b, by simp only [VR]⟩
theorem arg_str {t : TypeId} (ht : Tryd.prog.underlying t = some .string) (h : ∃ fuel, DataW.trod enc Tryd.prog W 0 (fun _ => true) true fuel t v.cells.toList = some x) (hv : Value.okWide Tryd.prog W .any base t v) :
    ∃ s : List UInt8, VR (fun _ => none) (.str s) v ∧ s.length ≤ 9223372036854775807 := by
  obtain ⟨fuel, hf⟩ := h
  obtain ⟨s, rfl⟩ := okWide_string ht hv
  obtain ⟨s', h, hx, hs⟩ := DataW.trod_string ht hf
  simp [Value.cells] at h
  subst h
  exact ⟨s.data.toList, VR_strArg _ s, str_le hs⟩
end

/-- The plain wrap of a row with listed variables, the world's shape handed on. -/
theorem returns_and_shaped {H : Type} {enc : TypeId × Value → H} {a : Assume} {C : Checked} {os : Os} {f : FuncId} {fn : Func} {s : ChangeSpec} {conds : List PathCond} {apart fresh handsOn again : Bool} {X : World → Array Value → Prop}
    (hX : ∀ (w w' : World) (args : Array Value), w.heap = w'.heap → X w args → X w' args)
    (own : ownKnob C.prog.godebug = none) (started : os.Started) (noInit : C.prog.inits.idxOf? f = none) (hfn : C.prog.funcs[f]? = some fn)
    (witness : ∃ (w : World) (tape : Tape) (i : Input), w.os = os ∧ (w.forCall tape i).Shaped C.prog ∧ i.vars = [] ∧ Input.okWide C.prog (w.forCall tape i) .any w.heap.size f i ∧
      ((s.pre enc C.prog fn conds apart (w.forCall tape i).memory i.args ∧ X (w.forCall tape i).memory i.args) ∧ sizedMet enc C.prog fn (OpenSpec.ofChange s) apart (w.forCall tape i).memory i.args) ∧ a.holds C.prog (lone (Frame.enter C.prog f i.args .normal) [] (w.forCall tape i)))
    (contract : ∀ (W : World) (base : Nat) (args : Array Value) (ds gs : List (DataW H)) (before : List MemPlace), W.ShapedOpen C.prog →
      (∀ (j : Nat) t v, fn.params[j]? = some t → args[j]? = some v → Value.okWide C.prog W .any base t v) →
      DataW.Whole enc C.prog fn.params.toList s.vars apart W args.toList ds gs before →
      conds.all (PathCond.test C.prog ⟨fn.params.toList, ds, s.plain.varTypes C.prog, gs⟩) = true →
      (DataW.weightsEach C.prog (fn.params.toList ++ s.plain.varTypes C.prog) (ds ++ gs)).all (· ≤ reachBytes) = true → X W args →
      a.holds C.prog (lone (Frame.enter C.prog f args .normal) [] W) →
      Calls C.prog f args W fun e W' => ∃ v, e = .returned v ∧ s.post enc C.prog fn apart fresh handsOn again W args v W') :
    ReturnsInHanded a C os f .any (fun w args => (s.pre enc C.prog fn conds apart w args ∧ X w args) ∧ sizedMet enc C.prog fn (OpenSpec.ofChange s) apart w args) (s.post enc C.prog fn apart fresh handsOn again) := by
  refine returnsInHanded_of_calls own started noInit witness ?_
  intro w tape i _ hsh _ hok hpre hholds
  obtain ⟨_, _, _, fn', hfn', _, _, _, _, hval⟩ := hok
  have e : fn' = fn := Option.some.inj (hfn'.symm.trans hfn)
  subst e
  obtain ⟨⟨⟨ds, gs, before, hw, hc⟩, hx⟩, hz⟩ := hpre
  have hw' := DataW.Whole.of_heap (w' := w.forCall tape i) (by rfl) hw
  refine (contract (w.forCall tape i) w.heap.size i.args ds gs before hsh hval hw' hc (hz.weights hw) (hX _ _ _ (by rfl) hx) hholds).mono fun e W' ⟨v, he, hp⟩ => ?_
  subst he
  exact ChangeSpec.post_blind hp
end Go.Proofs.YtikpnhdjjabdmaaDoor

/-
  What the world of a statement about columns gives: the listed table, the cell of the longest text.
  Conditions: none.
-/
namespace Go.Proofs.YtikpnhdjjabdmaaDoor
open Go.AM
open Go.ChangeShapes Go.WideShapes Go.ChangeAt Go.RowKit
set_option maxRecDepth 100000
/-- The listed table of powers of ten. -/
theorem tab_of {W : World} {rest : List (String × DataW Unit)} (h : laidMet Tryd.prog (("internal/strconv.uint64pow10", Rows.laid_internal_strconv_uint64pow10) :: rest) W) : Tab10 W :=
  Lib.tabIs_of_head (g := 3) (by kernel_rfl) (by kernel_rfl) (show Tryd.prog.underlying 138 = _ from Tryd.underlying138) Tryd.underlying116 (by kernel_rfl) (by kernel_rfl) h
theorem maxl_of {W : World} (h : W.ShapedOpen Tryd.prog) : MaxL W :=
  cell_of_shapedOpen_int (t := 3) (zero := #[.int .i64 0]) h (of_decide_eq_true (by kernel_rfl)) (by kernel_rfl) rfl (by kernel_rfl) (by kernel_rfl) Tryd.underlying3
end Go.Proofs.YtikpnhdjjabdmaaDoor

