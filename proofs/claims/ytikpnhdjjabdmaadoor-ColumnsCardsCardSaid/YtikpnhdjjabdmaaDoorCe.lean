/-
  Texts of this proof, joined: CoL, CoM, CoN, CoO, CoP, CoQ, CoR, CoS, CoT.
  Conditions: none.
-/
import Derived.Test.YtikpnhdjjabdmaaDoorCd
import Derived.Test.YtikpnhdjjabdmaaDoorCc
set_option linter.unusedSimpArgs false
set_option linter.unnecessarySimpa false
set_option linter.unusedVariables false
/-
  Contracts: the writer of the package columns.
  Conditions: none.
-/
namespace Go.Proofs.YtikpnhdjjabdmaaDoor
open Go.AM
open Go.Proofs
open Go.Col
set_option maxRecDepth 100000

theorem bldT_writer : BldT 65 3 := ⟨by kernel_rfl, by kernel_rfl, by omega⟩
theorem bldH_rest {h : AHeap} {k : Nat} {rest rest' : List AVal} {e : TypeId} {b : Bld} (hb : b.ok e h k) : (bldH h k rest b).set k ⟨b.head k :: b.slice :: rest', 0⟩ = bldH h k rest' b := by
  cases hbuf : b.buf with
  | none =>
    rw [bldH_nil hbuf, Bld.slice_nil hbuf, AHeap.set_set, bldH_nil hbuf]
  | some q =>
    obtain ⟨h1, h2, h3, h4⟩ := (Bld.ok_some hbuf).1 hb
    rw [bldH_some hbuf, Bld.slice_some hbuf, bldH_some hbuf, AHeap.set_comm _ _ _ h1.symm, AHeap.set_set]
theorem nDigits_le : ∀ (k u : Nat), 1 ≤ k → u < 10 ^ k → Lib.nDigits u ≤ k
  | 0, _, h, _ => by omega
  | 1, u, _, h => by rw [Lib.nDigits_small (by omega)]; exact Nat.le_refl _
  | k + 2, u, _, h => by
    by_cases h10 : u < 10
    · rw [Lib.nDigits_small h10]; omega
    · rw [Lib.nDigits_big h10]
      have := nDigits_le (k + 1) (u / 10) (by omega) (by rw [Nat.pow_succ] at h; omega)
      omega
theorem digs_len (n : Nat) : (digs (n % 1000000)).length ≤ 6 := by
  unfold digs
  rw [Lib.decDigits_length]
  exact nDigits_le 6 _ (by omega) (by omega)
theorem outE_len (n col : Nat) (mark text : Str) : (outE n mark col text).length = 7 + mark.length + (col - 8) + text.length := by
  have := digs_len n
  unfold outE sp
  simp only [List.length_append, List.length_replicate, List.length_cons, List.length_nil]
  omega
theorem c_line (w₀ : World) (ht10 : Tab10 w₀) (h : AHeap) (k : Nat) (n : Nat) (st : Bld) (ht : tyOf k = some 65) (hk : h k = none) (hst : st.ok 5 h k) (mark : Str) (col : Nat) (text : Str) (hn : n ≤ 1099511627776) (hm : mark.length ≤ 10) (hc : 8 ≤ col) (hc2 : col ≤ 100) (htx : text.length ≤ 1099511627776) (hb : st.bytes.length ≤ 1099511627776) :
    ACall Tryd.prog w₀ 47 [.ptr (.own k) 0, .str mark, .int .i64 col, .str text] (bldH h k [.int .i64 n] st)
      (fun v h' => v = .tuple [] ∧ ∃ st' : Bld, st'.ok 5 h k ∧ st'.bytes = st.bytes ++ outE (n + 1) mark col text ∧ h' = bldH h k [.int .i64 (n + 1 : Nat)] st') := by
  have hhead := bldH_head (rest := [.int .i64 n]) hst
  have hhead1 := bldH_head (rest := [.int .i64 (n + 1 : Nat)]) hst
  have r0 := fun o => rd_own w₀ hhead o
  have r1 := fun o => rd_own w₀ hhead1 o
  have hdl := digs_len (n + 1)
  have hsl : (sp (col - 8)).length = col - 8 := by simp [sp]
  refine acall_intro (n := 41) (rs := []) Tryd.func47 rfl rfl rfl rfl (Nat.le_of_ble_eq_true rfl) ?_
  simp only [initSlots]
  -- region 0  columns.go:187
  refine awp_rseq [0, 1, 2, 3] (by rfl) fun K hK => ?_
  simp (decide := true) only [ev, absV, absS, putD, Slots.put, Slots.get, if_true, if_false, true_and, ↓ap_move, pop_move, ↓ap_nilCheck, pop_nilCheck, pNil_ptr, ↓ap_fieldAddr, pop_fieldAddr, fa65_1, ↓ap_loadL, apL_mk, pLoad_one ag3, ↓ap_binOp, pop_binOp, isNilC_int, cond_false, pBinX_int, pI_add, List.getD_cons_zero, List.getD_cons_succ, Nat.zero_add, Nat.reduceAdd, lv_int, r0]
  try simp (disch := omega) only [wrap_i64]
  repeat (with_reducible refine And.intro ?_ ?_; · first | trivial | omega | (intro hg; simp only [Bool.and_eq_true, Bool.or_eq_true, Bool.not_eq_true', Bool.and_eq_false_iff, Bool.or_eq_false_iff, Bool.not_eq_false', decide_eq_true_eq, decide_eq_false_iff_not, eqNil] at hg; omega) | (simp only [List.length_append, List.length_map, List.length_range, List.length_replicate, List.length_take, List.length_drop, List.length_cons, List.length_nil, List.length_set, List.length_reverse]; omega))
  refine aOps_store (v := .int .i64 (n + 1 : Nat)) (by rfl) (by rfl) hhead sz3 (by rfl) (by rfl) (by simp []) (Nat.zero_le _) (by rfl) ?_
  simp only [setAt, AVal.cells, List.set_cons_zero, List.set_cons_succ]
  rw [bldH_rest hst]
  simp (decide := true) only [aOps_nil, putD, Slots.keep, if_true, if_false]
  repeat (with_reducible refine And.intro ?_ ?_; · first | trivial | omega | (intro hg; simp only [Bool.and_eq_true, Bool.or_eq_true, Bool.not_eq_true', Bool.and_eq_false_iff, Bool.or_eq_false_iff, Bool.not_eq_false', decide_eq_true_eq, decide_eq_false_iff_not, eqNil] at hg; omega) | (simp only [List.length_append, List.length_map, List.length_range, List.length_replicate, List.length_take, List.length_drop, List.length_cons, List.length_nil, List.length_set, List.length_reverse]; omega))
  apply hK; clear hK K
  -- region 1  columns.go:188
  refine awp_rseq [0, 1, 2, 3, 8] (by rfl) fun K hK => ?_
  simp (decide := true) only [ev, absV, absS, putD, Slots.put, Slots.get, if_true, if_false, true_and, ↓ap_move, pop_move, ↓ap_nilCheck, pop_nilCheck, pNil_ptr, ↓ap_fieldAddr, pop_fieldAddr, fa65_1, ↓ap_loadL, apL_mk, pLoad_one ag3, ↓ap_binOp, pop_binOp, isNilC_int, cond_false, pBinX_int, pI_rem, List.getD_cons_zero, List.getD_cons_succ, Nat.zero_add, lv_int, r1]
  repeat (with_reducible refine And.intro ?_ ?_; · first | trivial | omega | (intro hg; simp only [Bool.and_eq_true, Bool.or_eq_true, Bool.not_eq_true', Bool.and_eq_false_iff, Bool.or_eq_false_iff, Bool.not_eq_false', decide_eq_true_eq, decide_eq_false_iff_not, eqNil] at hg; omega) | (simp only [List.length_append, List.length_map, List.length_range, List.length_replicate, List.length_take, List.length_drop, List.length_cons, List.length_nil, List.length_set, List.length_reverse]; omega))
  rw [show ((n + 1 : Nat) : Int).tmod 1000000 = (((n + 1) % 1000000 : Nat) : Int) by rw [Int.tmod_eq_emod_of_nonneg (by omega)]; omega]
  refine aOps_callV (V := .str (digs ((n + 1) % 1000000))) (by rfl) (by rfl) ((c_itoa w₀ ht10 _ _ (by omega) (by omega)).val (by rw [Lib.itoa_nonneg]; rfl)) ?_
  simp (decide := true) only [aOps_nil, ev, putD, Slots.put, Slots.get, Slots.keep, if_true, if_false, true_and, ↓ap_assign, pop_assign]
  repeat (with_reducible refine And.intro ?_ ?_; · first | trivial | omega | (intro hg; simp only [Bool.and_eq_true, Bool.or_eq_true, Bool.not_eq_true', Bool.and_eq_false_iff, Bool.or_eq_false_iff, Bool.not_eq_false', decide_eq_true_eq, decide_eq_false_iff_not, eqNil] at hg; omega) | (simp only [List.length_append, List.length_map, List.length_range, List.length_replicate, List.length_take, List.length_drop, List.length_cons, List.length_nil, List.length_set, List.length_reverse]; omega))
  apply hK; clear hK K
  -- region 2  columns.go:189
  refine awp_draw_anyT 18 mixed (by kernel_rfl) (by rfl) ?_
  simp only [List.take_succ_cons, List.take_zero, List.drop_succ_cons, List.drop_zero]
  simp (decide := true) only [ev, absV, absS, putD, Slots.put, Slots.get, if_true, if_false, true_and, ↓vp_move, pop_move, ↓vp_nilCheck, pop_nilCheck, pNil_ptr, ↓vp_fieldAddr, pop_fieldAddr, fa65_0, ↓vp_len, pop_len, pLen_str Tryd.underlying9, ↓vp_binOp, pop_binOp, isNilC_tmp, cond_false, pBinX_int, pI_sub, Nat.zero_add]
  try simp (disch := omega) only [wrap_i64]
  repeat (with_reducible refine And.intro ?_ ?_; · first | trivial | omega | (intro hg; simp only [Bool.and_eq_true, Bool.or_eq_true, Bool.not_eq_true', Bool.and_eq_false_iff, Bool.or_eq_false_iff, Bool.not_eq_false', decide_eq_true_eq, decide_eq_false_iff_not, eqNil] at hg; omega) | (simp only [List.length_append, List.length_map, List.length_range, List.length_replicate, List.length_take, List.length_drop, List.length_cons, List.length_nil, List.length_set, List.length_reverse]; omega))
  rw [show (6 : Int) - ((digs ((n + 1) % 1000000)).length : Int) = ((6 - (digs ((n + 1) % 1000000)).length : Nat) : Int) by omega]
  refine vOps_callV (V := .str (List.replicate (6 - (digs ((n + 1) % 1000000)).length) 48)) (by rfl) (by rfl) (c_repeat w₀ _ 48 _ (by omega)) ?_
  simp (decide := true) only [ev, absV, absS, putD, Slots.put, Slots.get, if_true, if_false, true_and, ↓vp_move, pop_move, ↓vp_binOp, pop_binOp, isNilC_tmp, cond_false, pBinX_str, pS_add, isNilC_int, pBinX_int, pI_sub]
  try simp (disch := omega) only [wrap_i64]
  repeat (with_reducible refine And.intro ?_ ?_; · first | trivial | omega | (intro hg; simp only [Bool.and_eq_true, Bool.or_eq_true, Bool.not_eq_true', Bool.and_eq_false_iff, Bool.or_eq_false_iff, Bool.not_eq_false', decide_eq_true_eq, decide_eq_false_iff_not, eqNil] at hg; omega) | (simp only [List.length_append, List.length_replicate]; omega))
  rw [show (col : Int) - 8 = ((col - 8 : Nat) : Int) by omega]
  refine vOps_callV (V := .str (sp (col - 8))) (by rfl) (by rfl) (c_repeat w₀ _ 32 _ (by omega)) ?_
  simp (decide := true) only [vOps_nil, ev, absV, absS, putD, Slots.put, Slots.get, if_true, if_false, true_and, ↓vp_binOp, pop_binOp, isNilC_tmp, cond_false, pBinX_str, pS_add, ↓vp_move, pop_move, isNilC_str]
  repeat (with_reducible refine And.intro ?_ ?_; · first | trivial | omega | (intro hg; simp only [Bool.and_eq_true, Bool.or_eq_true, Bool.not_eq_true', Bool.and_eq_false_iff, Bool.or_eq_false_iff, Bool.not_eq_false', decide_eq_true_eq, decide_eq_false_iff_not, eqNil] at hg; omega) | (simp only [List.length_append, List.length_replicate, List.length_cons, List.length_nil]; omega))
  try simp only [vOps_nil, fOps_nil]
  refine aOps_call (by rfl) (by rfl) (c_WriteString w₀ h k [.int .i64 (n + 1 : Nat)] st 65 bldT_writer ht hk hst _ (by have := outE_len (n + 1) col mark text; unfold outE at this; omega)) fun x2q18 h2q18 hx2q18 => ?_
  obtain ⟨rfl, st', s1, s2, rfl⟩ := hx2q18
  simp (decide := true) only [aOps_nil, putD, Slots.put, if_false]
  repeat (with_reducible refine And.intro ?_ ?_; · first | trivial | omega | (intro hg; simp only [Bool.and_eq_true, Bool.or_eq_true, Bool.not_eq_true', Bool.and_eq_false_iff, Bool.or_eq_false_iff, Bool.not_eq_false', decide_eq_true_eq, decide_eq_false_iff_not, eqNil] at hg; omega) | (simp only [List.length_append, List.length_map, List.length_range, List.length_replicate, List.length_take, List.length_drop, List.length_cons, List.length_nil, List.length_set, List.length_reverse]; omega))
  try simp only [thenA_ret, inBlockA_ret]
  refine retA_end _ (Sub.refl _) (resPre_nil) ?_
  simp (decide := true) only [true_and, resOf_nil]
  exact ⟨st', s1, s2, rfl⟩

theorem textE_short {fuel col k : Nat} {mark out s : Str} {q : Bool} (h : s.length ≤ 73 - col - (if q = true then 1 else 0)) : textE (fuel + 1) col mark q k out s = (k + 1, out ++ outE (k + 1) mark col ((if q = true then [34] else []) ++ s)) := by
  rw [textE]
  rw [if_pos h]
theorem textE_space {fuel col k : Nat} {mark out s : Str} {q : Bool} (h : ¬ s.length ≤ 73 - col - (if q = true then 1 else 0)) (h2 : 0 < spaceE s (73 - col - (if q = true then 1 else 0)) q) :
    textE (fuel + 1) col mark q k out s = textE fuel 12 [32] false (k + 1) (out ++ outE (k + 1) mark col ((if q = true then [34] else []) ++ s.take (spaceE s (73 - col - (if q = true then 1 else 0)) q))) (trimL (s.drop (spaceE s (73 - col - (if q = true then 1 else 0)) q))) := by
  rw [textE]
  rw [if_neg h, if_pos h2]
theorem textE_cut {fuel col k : Nat} {mark out s : Str} {q : Bool} (h : ¬ s.length ≤ 73 - col - (if q = true then 1 else 0)) (h2 : ¬ 0 < spaceE s (73 - col - (if q = true then 1 else 0)) q) :
    textE (fuel + 1) col mark q k out s = textE fuel 12 [45] (q != oddQ (s.take (73 - col - (if q = true then 1 else 0)))) (k + 1) (out ++ outE (k + 1) mark col ((if q = true then [34] else []) ++ s.take (73 - col - (if q = true then 1 else 0)))) (s.drop (73 - col - (if q = true then 1 else 0))) := by
  rw [textE]
  rw [if_neg h, if_neg h2]
theorem spaceGo_le : ∀ (s : Str) (i n : Nat) (q : Bool) (f : Nat), f ≤ n → f < i + s.length ∨ f = 0 → spaceGo s i n q f ≤ n ∧ (spaceGo s i n q f < i + s.length ∨ spaceGo s i n q f = 0)
  | [], i, n, q, f, h1, h2 => ⟨h1, h2⟩
  | b :: s, i, n, q, f, h1, h2 => by
    have hf : ∀ (c : Prop) [Decidable c], f ≤ n → i ≤ n → (if c then i else f) ≤ n := fun c _ a b => by by_cases hc : c; rw [if_pos hc]; exact b; rw [if_neg hc]; exact a
    unfold spaceGo
    split
    · exact ⟨h1, h2⟩
    · have := spaceGo_le s (i + 1) n (if b = 34 then !q else q) (if b = 32 ∧ (if b = 34 then !q else q) = false ∧ 0 < i then i else f) (hf _ h1 (by omega)) (by
        simp only [List.length_cons] at h2
        by_cases hc : b = 32 ∧ (if b = 34 then !q else q) = false ∧ 0 < i
        · rw [if_pos hc]; omega
        · rw [if_neg hc]; omega)
      simp only [List.length_cons]
      omega
theorem spaceE_le (s : Str) (n : Nat) (q : Bool) : spaceE s n q ≤ n ∧ spaceE s n q ≤ s.length := by
  have := spaceGo_le s 0 n q 0 (by omega) (.inr rfl)
  unfold spaceE
  omega
structure TxG where
  fuel : Nat
  col : Nat
  mark : Str
  q : Bool
  n : Nat
  st : Bld
  s : Str
structure TxOk (h : AHeap) (k : Nat) (R : Nat × Str) (M : Nat) (g : TxG) : Prop where
  fuel : g.s.length < g.fuel
  col : 8 ≤ g.col ∧ g.col ≤ 12
  mark : g.mark.length = 1
  ok : g.st.ok 5 h k
  eq : textE g.fuel g.col g.mark g.q g.n g.st.bytes g.s = R
  n : g.n + g.s.length ≤ M
  bytes : g.st.bytes.length + 100 * (g.s.length + 1) ≤ 1099511627776
theorem c_text (w₀ : World) (ht10 : Tab10 w₀) (h : AHeap) (k : Nat) (n : Nat) (st : Bld) (ht : tyOf k = some 65) (hk : h k = none) (hst : st.ok 5 h k) (col : Nat) (s : Str) (hc : 8 ≤ col) (hc2 : col ≤ 12) (hn : n + s.length ≤ 1099511627776) (hb : st.bytes.length + 100 * (s.length + 1) ≤ 1099511627776) :
    ACall Tryd.prog w₀ 26 [.ptr (.own k) 0, .int .i64 col, .str s] (bldH h k [.int .i64 n] st)
      (fun v h' => v = .tuple [] ∧ ∃ st' : Bld, st'.ok 5 h k ∧ st'.bytes = (textE (s.length + 1) col [32] false n st.bytes s).2 ∧ h' = bldH h k [.int .i64 (textE (s.length + 1) col [32] false n st.bytes s).1] st') := by
  obtain ⟨R, hR⟩ : ∃ R, R = textE (s.length + 1) col [32] false n st.bytes s := ⟨_, rfl⟩
  rw [← hR]
  refine acall_intro (n := 65) (rs := []) Tryd.func26 rfl rfl rfl rfl (Nat.le_of_ble_eq_true rfl) ?_
  simp only [initSlots]
  -- region 0  columns.go:211
  refine awp_rseq [0, 1, 2, 6, 7] (by rfl) fun K hK => ?_
  simp (decide := true) only [aOps_nil, ev, absV, absS, putD, Slots.put, Slots.keep, if_true, if_false, true_and, ↓ap_assign, pop_assign, Nat.zero_add, Nat.reduceAdd]
  repeat (with_reducible refine And.intro ?_ ?_; · first | trivial | omega | (intro hg; simp only [Bool.and_eq_true, Bool.or_eq_true, Bool.not_eq_true', Bool.and_eq_false_iff, Bool.or_eq_false_iff, Bool.not_eq_false', decide_eq_true_eq, decide_eq_false_iff_not, eqNil] at hg; omega) | (simp only [List.length_append, List.length_map, List.length_range, List.length_replicate, List.length_take, List.length_drop, List.length_cons, List.length_nil, List.length_set, List.length_reverse]; omega))
  apply hK; clear hK K
  refine awp_block ?_
  refine awp_loopG [0, 1, 2, 6, 7] (fun g : TxG => [(0, .ptr (.own k) 0), (1, .int .i64 g.col), (2, .str g.s), (6, .str g.mark), (7, .bool g.q)]) (fun g : TxG => bldH h k [.int .i64 g.n] g.st) (fun g : TxG => TxOk h k R 1099511627776 g) (fun g : TxG => g.s.length) ⟨s.length + 1, col, [32], false, n, st, s⟩ (by rfl) (Sub.refl _) ⟨by simp, ⟨hc, hc2⟩, rfl, hst, hR.symm, hn, hb⟩ ?_
  rintro ⟨fuel, cl, mk, q, m, sb, t⟩ ⟨g1, g2, g3, g4, g5, g6, g7⟩
  simp only at g1 g2 g3 g4 g5 g6 g7 ⊢
  obtain ⟨f, rfl⟩ : ∃ f, fuel = f + 1 := ⟨fuel - 1, by omega⟩
  obtain ⟨nn, hnn⟩ : ∃ nn, nn = 73 - cl - (if q = true then 1 else 0) := ⟨_, rfl⟩
  obtain ⟨ld, hld⟩ : ∃ ld : Str, ld = if q = true then [34] else [] := ⟨_, rfl⟩
  have hnn2 : 60 ≤ nn ∧ nn ≤ 65 := by rw [hnn]; split <;> omega
  have hld2 : ld.length ≤ 1 := by rw [hld]; split <;> simp
  refine awp_block ?_
  -- region 1  columns.go:213
  refine awp_rseq [0, 1, 2, 6, 7, 8] (by rfl) fun K hK => ?_
  simp (decide := true) only [aOps_nil, ev, absV, absS, putD, Slots.put, Slots.get, Slots.keep, if_true, if_false, true_and, ↓ap_move, pop_move, ↓ap_binOp, pop_binOp, isNilC_tmp, cond_false, pBinX_int, pI_sub, isNilC_int, pI_add, ↓ap_assign, pop_assign]
  try simp (disch := omega) only [wrap_i64]
  repeat (with_reducible refine And.intro ?_ ?_; · first | trivial | omega | (intro hg; simp only [Bool.and_eq_true, Bool.or_eq_true, Bool.not_eq_true', Bool.and_eq_false_iff, Bool.or_eq_false_iff, Bool.not_eq_false', decide_eq_true_eq, decide_eq_false_iff_not, eqNil] at hg; omega) | (simp only [List.length_append, List.length_map, List.length_range, List.length_replicate, List.length_take, List.length_drop, List.length_cons, List.length_nil, List.length_set, List.length_reverse]; omega))
  apply hK; clear hK K
  -- region 2  columns.go:214
  refine awp_rseq [0, 1, 2, 6, 7, 8, 9] (by rfl) fun K hK => ?_
  simp (decide := true) only [aOps_nil, ev, absV, absS, putD, Slots.put, Slots.keep, if_true, if_false, true_and, ↓ap_assign, pop_assign]
  repeat (with_reducible refine And.intro ?_ ?_; · first | trivial | omega | (intro hg; simp only [Bool.and_eq_true, Bool.or_eq_true, Bool.not_eq_true', Bool.and_eq_false_iff, Bool.or_eq_false_iff, Bool.not_eq_false', decide_eq_true_eq, decide_eq_false_iff_not, eqNil] at hg; omega) | (simp only [List.length_append, List.length_map, List.length_range, List.length_replicate, List.length_take, List.length_drop, List.length_cons, List.length_nil, List.length_set, List.length_reverse]; omega))
  apply hK; clear hK K
  refine awp_seq ?_
  -- region 3  columns.go:215
  refine awp_rseq [0, 1, 2, 6, 7, 8, 9, 14] (by rfl) fun K hK => ?_
  simp (decide := true) only [aOps_nil, ev, putD, Slots.put, Slots.get, Slots.keep, if_true, if_false, true_and, ↓ap_move, pop_move]
  repeat (with_reducible refine And.intro ?_ ?_; · first | trivial | omega | (intro hg; simp only [Bool.and_eq_true, Bool.or_eq_true, Bool.not_eq_true', Bool.and_eq_false_iff, Bool.or_eq_false_iff, Bool.not_eq_false', decide_eq_true_eq, decide_eq_false_iff_not, eqNil] at hg; omega) | (simp only [List.length_append, List.length_map, List.length_range, List.length_replicate, List.length_take, List.length_drop, List.length_cons, List.length_nil, List.length_set, List.length_reverse]; omega))
  apply hK; clear hK K
  refine awp_joinT [0, 1, 2, 6, 7, 8, 9] (fun z : Unit => [(0, .ptr (.own k) 0), (1, .int .i64 cl), (2, .str t), (6, .str mk), (7, .bool q), (8, .int .i64 nn), (9, .str ld)]) (fun z : Unit => bldH h k [.int .i64 m] sb) (fun z : Unit => mk.length = 1) ?_ ?_
  · refine awp_cond (b := _) rfl (fun hb1 => ?_) (fun hb1 => ?_)
    · try simp only [decide_eq_true_eq, decide_eq_false_iff_not, Bool.not_eq_true', Bool.not_eq_false', Bool.and_eq_true, Bool.and_eq_false_iff, Bool.or_eq_true, Bool.or_eq_false_iff, Bool.true_eq, Bool.false_eq, reduceCtorEq] at hb1
      -- region 4  columns.go:216
      refine awp_rseq [0, 1, 2, 6, 7, 8, 9] (by rfl) fun K hK => ?_
      simp (decide := true) only [aOps_nil, ev, absV, absS, putD, Slots.put, Slots.keep, if_true, if_false, true_and, ↓ap_assign, pop_assign]
      repeat (with_reducible refine And.intro ?_ ?_; · first | trivial | omega | (intro hg; simp only [Bool.and_eq_true, Bool.or_eq_true, Bool.not_eq_true', Bool.and_eq_false_iff, Bool.or_eq_false_iff, Bool.not_eq_false', decide_eq_true_eq, decide_eq_false_iff_not, eqNil] at hg; omega) | (simp only [List.length_append, List.length_map, List.length_range, List.length_replicate, List.length_take, List.length_drop, List.length_cons, List.length_nil, List.length_set, List.length_reverse]; omega))
      apply hK; clear hK K
      -- region 5  columns.go:217
      refine awp_r [0, 1, 2, 6, 7, 8, 9] (by rfl) ?_
      simp (decide := true) only [aOps_nil, ev, absV, absS, putD, Slots.put, Slots.get, Slots.keep, if_true, if_false, true_and, ↓ap_move, pop_move, ↓ap_binOp, pop_binOp, isNilC_int, cond_false, pBinX_int, pI_sub, ↓ap_assign, pop_assign]
      try simp (disch := omega) only [wrap_i64]
      repeat (with_reducible refine And.intro ?_ ?_; · first | trivial | omega | (intro hg; simp only [Bool.and_eq_true, Bool.or_eq_true, Bool.not_eq_true', Bool.and_eq_false_iff, Bool.or_eq_false_iff, Bool.not_eq_false', decide_eq_true_eq, decide_eq_false_iff_not, eqNil] at hg; omega) | (simp only [List.length_append, List.length_map, List.length_range, List.length_replicate, List.length_take, List.length_drop, List.length_cons, List.length_nil, List.length_set, List.length_reverse]; omega))
      try simp only [thenA_normal]
      refine ⟨(), ?_, Sub.refl _, g3⟩
      rw [hb1] at hnn hld
      rw [hnn, hld]
      first
      | (rw [show (72 : Int) - (cl : Int) + 1 - 1 = ((73 - cl - 1 : Nat) : Int) by omega]; rfl)
      | (rw [show (72 : Int) - (cl : Int) + 1 = ((73 - cl - 0 : Nat) : Int) by omega]; rfl)
    · try simp only [decide_eq_true_eq, decide_eq_false_iff_not, Bool.not_eq_true', Bool.not_eq_false', Bool.and_eq_true, Bool.and_eq_false_iff, Bool.or_eq_true, Bool.or_eq_false_iff, Bool.true_eq, Bool.false_eq, reduceCtorEq] at hb1
      refine awp_skip ?_
      try simp only [thenA_normal]
      refine ⟨(), ?_, Sub.refl _, g3⟩
      rw [hb1] at hnn hld
      rw [hnn, hld]
      first
      | (rw [show (72 : Int) - (cl : Int) + 1 - 1 = ((73 - cl - 1 : Nat) : Int) by omega]; rfl)
      | (rw [show (72 : Int) - (cl : Int) + 1 = ((73 - cl - 0 : Nat) : Int) by omega]; rfl)
  · intro _ _
    refine awp_seq ?_
    -- region 6  columns.go:219
    refine awp_rseq [0, 1, 2, 6, 7, 8, 9, 20] (by rfl) fun K hK => ?_
    simp (decide := true) only [aOps_nil, ev, putD, Slots.put, Slots.get, Slots.keep, if_true, if_false, true_and, ↓ap_move, pop_move, ↓ap_len, pop_len, pLen_str Tryd.underlying9, ↓ap_binOp, pop_binOp, isNilC_tmp, cond_false, pBinX_int, pI_leq]
    repeat (with_reducible refine And.intro ?_ ?_; · first | trivial | omega | (intro hg; simp only [Bool.and_eq_true, Bool.or_eq_true, Bool.not_eq_true', Bool.and_eq_false_iff, Bool.or_eq_false_iff, Bool.not_eq_false', decide_eq_true_eq, decide_eq_false_iff_not, eqNil] at hg; omega) | (simp only [List.length_append, List.length_map, List.length_range, List.length_replicate, List.length_take, List.length_drop, List.length_cons, List.length_nil, List.length_set, List.length_reverse]; omega))
    apply hK; clear hK K
    refine awp_cond (b := _) rfl (fun hb2 => ?_) (fun hb2 => ?_)
    · try simp only [decide_eq_true_eq] at hb2
      have hsh : t.length ≤ nn := by omega
      -- region 7  columns.go:220
      refine awp_rseq [] (by rfl) fun K hK => ?_
      simp (decide := true) only [ev, putD, Slots.put, Slots.get, if_true, if_false, true_and, ↓ap_move, pop_move, ↓ap_binOp, pop_binOp, isNilC_tmp, cond_false, pBinX_str, pS_add]
      repeat (with_reducible refine And.intro ?_ ?_; · first | trivial | omega | (intro hg; simp only [Bool.and_eq_true, Bool.or_eq_true, Bool.not_eq_true', Bool.and_eq_false_iff, Bool.or_eq_false_iff, Bool.not_eq_false', decide_eq_true_eq, decide_eq_false_iff_not, eqNil] at hg; omega) | (simp only [List.length_append, List.length_map, List.length_range, List.length_replicate, List.length_take, List.length_drop, List.length_cons, List.length_nil, List.length_set, List.length_reverse]; omega))
      refine aOps_call (by rfl) (by rfl) (c_line w₀ ht10 h k m sb ht hk g4 mk cl (ld ++ t) (by omega) (by omega) g2.1 (by omega) (by simp; omega) (by omega)) fun x7q6 h7q6 hx7q6 => ?_
      obtain ⟨rfl, st', s1, s2, rfl⟩ := hx7q6
      rw [textE_short (by rw [← hnn]; exact hsh), ← hld] at g5
      simp (decide := true) only [aOps_nil, putD, Slots.put, Slots.keep, if_false]
      repeat (with_reducible refine And.intro ?_ ?_; · first | trivial | omega | (intro hg; simp only [Bool.and_eq_true, Bool.or_eq_true, Bool.not_eq_true', Bool.and_eq_false_iff, Bool.or_eq_false_iff, Bool.not_eq_false', decide_eq_true_eq, decide_eq_false_iff_not, eqNil] at hg; omega) | (simp only [List.length_append, List.length_map, List.length_range, List.length_replicate, List.length_take, List.length_drop, List.length_cons, List.length_nil, List.length_set, List.length_reverse]; omega))
      apply hK; clear hK K
      refine awp_ret ?_
      try simp only [thenA_ret, inBlockA_ret]
      refine retA_ret _ (Sub.refl _) (resPre_nil) ?_
      simp (decide := true) only [true_and, resOf_nil]
      exact ⟨st', s1, by rw [s2, ← g5], by rw [← g5]⟩
    · try simp only [decide_eq_false_iff_not] at hb2
      have hsh : ¬ t.length ≤ nn := by omega
      obtain ⟨sl1, sl2⟩ := spaceE_le t nn q
      refine awp_skip ?_
      change Awp _ _ _ _ _ _ _
      refine awp_seq ?_
      -- region 8  columns.go:223
      refine awp_rseq [0, 1, 2, 6, 7, 8, 9, 10] (by rfl) fun K hK => ?_
      simp (decide := true) only [ev, putD, Slots.put, Slots.get, if_true, if_false, true_and, ↓ap_move, pop_move]
      repeat (with_reducible refine And.intro ?_ ?_; · first | trivial | omega | (intro hg; simp only [Bool.and_eq_true, Bool.or_eq_true, Bool.not_eq_true', Bool.and_eq_false_iff, Bool.or_eq_false_iff, Bool.not_eq_false', decide_eq_true_eq, decide_eq_false_iff_not, eqNil] at hg; omega) | (simp only [List.length_append, List.length_map, List.length_range, List.length_replicate, List.length_take, List.length_drop, List.length_cons, List.length_nil, List.length_set, List.length_reverse]; omega))
      refine aOps_callV (V := .int .i64 (spaceE t nn q)) (by rfl) (by rfl) (c_space w₀ _ t nn q (by omega) (by omega)) ?_
      simp (decide := true) only [aOps_nil, ev, putD, Slots.put, Slots.get, Slots.keep, if_true, if_false, true_and, ↓ap_assign, pop_assign]
      repeat (with_reducible refine And.intro ?_ ?_; · first | trivial | omega | (intro hg; simp only [Bool.and_eq_true, Bool.or_eq_true, Bool.not_eq_true', Bool.and_eq_false_iff, Bool.or_eq_false_iff, Bool.not_eq_false', decide_eq_true_eq, decide_eq_false_iff_not, eqNil] at hg; omega) | (simp only [List.length_append, List.length_map, List.length_range, List.length_replicate, List.length_take, List.length_drop, List.length_cons, List.length_nil, List.length_set, List.length_reverse]; omega))
      apply hK; clear hK K
      -- region 9  columns.go:223
      refine awp_rseq [0, 1, 2, 6, 7, 8, 9, 10, 33] (by rfl) fun K hK => ?_
      simp (decide := true) only [aOps_nil, ev, absV, absS, putD, Slots.put, Slots.get, Slots.keep, if_true, if_false, true_and, ↓ap_move, pop_move, ↓ap_binOp, pop_binOp, isNilC_int, cond_false, pBinX_int, pI_gtr]
      repeat (with_reducible refine And.intro ?_ ?_; · first | trivial | omega | (intro hg; simp only [Bool.and_eq_true, Bool.or_eq_true, Bool.not_eq_true', Bool.and_eq_false_iff, Bool.or_eq_false_iff, Bool.not_eq_false', decide_eq_true_eq, decide_eq_false_iff_not, eqNil] at hg; omega) | (simp only [List.length_append, List.length_map, List.length_range, List.length_replicate, List.length_take, List.length_drop, List.length_cons, List.length_nil, List.length_set, List.length_reverse]; omega))
      apply hK; clear hK K
      refine awp_cond (b := _) rfl (fun hb3 => ?_) (fun hb3 => ?_)
      · try simp only [decide_eq_true_eq] at hb3
        have hsp : 0 < spaceE t nn q := by omega
        have hdr : (t.drop ((spaceE t nn q : Nat) : Int).toNat).take ((t.length : Int).toNat - ((spaceE t nn q : Nat) : Int).toNat) = t.drop (spaceE t nn q) := by
          rw [Int.toNat_natCast, Int.toNat_natCast, List.take_of_length_le (by simp)]
        have htl := trimL_le (t.drop (spaceE t nn q))
        have htl2 : (t.drop (spaceE t nn q)).length = t.length - spaceE t nn q := by simp
        rw [hnn] at hsp
        rw [textE_space (by rw [← hnn]; exact hsh) hsp, ← hnn, ← hld] at g5
        rw [← hnn] at hsp
        -- region 10  columns.go:224
        refine awp_rseq [0, 2, 10] (by rfl) fun K hK => ?_
        simp (decide := true) only [ev, putD, Slots.put, Slots.get, if_true, if_false, true_and, ↓ap_move, pop_move, ↓ap_slice, pop_slice, evO, pSliceS_0i Tryd.underlying9, pSliceS, bndA_none, bndA_int, ↓ap_binOp, pop_binOp, isNilC_tmp, cond_false, pBinX_str, pS_add]
        repeat (with_reducible refine And.intro ?_ ?_; · first | trivial | omega | (intro hg; simp only [Bool.and_eq_true, Bool.or_eq_true, Bool.not_eq_true', Bool.and_eq_false_iff, Bool.or_eq_false_iff, Bool.not_eq_false', decide_eq_true_eq, decide_eq_false_iff_not, eqNil] at hg; omega) | (simp only [List.length_take, List.length_drop]; omega))
        refine aOps_call (by rfl) (by rfl) (c_line w₀ ht10 h k m sb ht hk g4 mk cl (ld ++ t.take (spaceE t nn q)) (by omega) (by omega) g2.1 (by omega) (by simp; omega) (by omega)) fun x10q8 h10q8 hx10q8 => ?_
        obtain ⟨-, st', s1, s2, rfl⟩ := hx10q8
        have hol := outE_len (m + 1) cl mk (ld ++ t.take (spaceE t nn q))
        have hlt : (trimL (t.drop (spaceE t nn q))).length < t.length := by omega
        have hg : TxOk h k R 1099511627776 ⟨f, 12, [32], false, m + 1, st', trimL (t.drop (spaceE t nn q))⟩ := by
          refine ⟨by simp only; omega, ⟨by simp only; omega, by simp only; omega⟩, rfl, s1, by rw [s2]; exact g5, by simp only; omega, ?_⟩
          simp only [s2, List.length_append, List.length_take] at hol ⊢
          omega
        simp (decide := true) only [aOps_nil, putD, Slots.put, Slots.keep, if_true, if_false]
        repeat (with_reducible refine And.intro ?_ ?_; · first | trivial | omega | (intro hg; simp only [Bool.and_eq_true, Bool.or_eq_true, Bool.not_eq_true', Bool.and_eq_false_iff, Bool.or_eq_false_iff, Bool.not_eq_false', decide_eq_true_eq, decide_eq_false_iff_not, eqNil] at hg; omega) | (simp only [List.length_append, List.length_map, List.length_range, List.length_replicate, List.length_take, List.length_drop, List.length_cons, List.length_nil, List.length_set, List.length_reverse]; omega))
        apply hK; clear hK K
        -- region 11  columns.go:225
        refine awp_r [0, 2, 6, 7] (by rfl) ?_
        simp (decide := true) only [ev, putD, Slots.put, Slots.get, if_true, if_false, true_and, ↓ap_move, pop_move, ↓ap_slice, pop_slice, evO, pSliceS_i0 Tryd.underlying9, pSliceS, bndA_none, bndA_int, hdr]
        repeat (with_reducible refine And.intro ?_ ?_; · first | trivial | omega | (intro hg; simp only [Bool.and_eq_true, Bool.or_eq_true, Bool.not_eq_true', Bool.and_eq_false_iff, Bool.or_eq_false_iff, Bool.not_eq_false', decide_eq_true_eq, decide_eq_false_iff_not, eqNil] at hg; omega) | (simp only [List.length_append, List.length_map, List.length_range, List.length_replicate, List.length_take, List.length_drop, List.length_cons, List.length_nil, List.length_set, List.length_reverse]; omega))
        refine aOps_callV (V := .str (trimL (t.drop (spaceE t nn q)))) (by rfl) (by rfl) (c_trimL w₀ _ _) ?_
        simp (decide := true) only [aOps_nil, ev, absV, absS, putD, Slots.put, Slots.get, Slots.keep, if_true, if_false, true_and, ↓ap_assign, pop_assign]
        repeat (with_reducible refine And.intro ?_ ?_; · first | trivial | omega | (intro hg; simp only [Bool.and_eq_true, Bool.or_eq_true, Bool.not_eq_true', Bool.and_eq_false_iff, Bool.or_eq_false_iff, Bool.not_eq_false', decide_eq_true_eq, decide_eq_false_iff_not, eqNil] at hg; omega) | (simp only [List.length_append, List.length_map, List.length_range, List.length_replicate, List.length_take, List.length_drop, List.length_cons, List.length_nil, List.length_set, List.length_reverse]; omega))
        change Awp _ _ _ _ _ _ _
        -- region 15  columns.go:231
        refine awp_r [0, 1, 2, 6, 7] (by rfl) ?_
        simp (decide := true) only [aOps_nil, ev, absV, absS, putD, Slots.put, Slots.keep, if_true, if_false, true_and, ↓ap_assign, pop_assign]
        repeat (with_reducible refine And.intro ?_ ?_; · first | trivial | omega | (intro hg; simp only [Bool.and_eq_true, Bool.or_eq_true, Bool.not_eq_true', Bool.and_eq_false_iff, Bool.or_eq_false_iff, Bool.not_eq_false', decide_eq_true_eq, decide_eq_false_iff_not, eqNil] at hg; omega) | (simp only [List.length_append, List.length_map, List.length_range, List.length_replicate, List.length_take, List.length_drop, List.length_cons, List.length_nil, List.length_set, List.length_reverse]; omega))
        try simp only [thenA_normal, inBlockA_normal]
        first
        | exact ⟨⟨f, 12, [32], false, m + 1, st', trimL (t.drop (spaceE t nn q))⟩, rfl, Sub.refl _, hg, hlt⟩
        | exact ⟨⟨f, 12, [45], q != oddQ (t.take nn), m + 1, st', t.drop nn⟩, rfl, Sub.refl _, hg, hlt⟩
      · try simp only [decide_eq_false_iff_not] at hb3
        have hsp : ¬ 0 < spaceE t nn q := by omega
        have hdr : (t.drop (nn : Int).toNat).take ((t.length : Int).toNat - (nn : Int).toNat) = t.drop nn := by
          rw [Int.toNat_natCast, Int.toNat_natCast, List.take_of_length_le (by simp)]
        rw [hnn] at hsp
        rw [textE_cut (by rw [← hnn]; exact hsh) hsp, ← hnn, ← hld] at g5
        -- region 12  columns.go:227
        refine awp_rseq [0, 2, 7, 8] (by rfl) fun K hK => ?_
        simp (decide := true) only [ev, putD, Slots.put, Slots.get, if_true, if_false, true_and, ↓ap_move, pop_move, ↓ap_slice, pop_slice, evO, pSliceS_0i Tryd.underlying9, pSliceS, bndA_none, bndA_int, ↓ap_binOp, pop_binOp, isNilC_tmp, cond_false, pBinX_str, pS_add]
        repeat (with_reducible refine And.intro ?_ ?_; · first | trivial | omega | (intro hg; simp only [Bool.and_eq_true, Bool.or_eq_true, Bool.not_eq_true', Bool.and_eq_false_iff, Bool.or_eq_false_iff, Bool.not_eq_false', decide_eq_true_eq, decide_eq_false_iff_not, eqNil] at hg; omega) | (simp only [List.length_take, List.length_drop]; omega))
        refine aOps_call (by rfl) (by rfl) (c_line w₀ ht10 h k m sb ht hk g4 mk cl (ld ++ t.take nn) (by omega) (by omega) g2.1 (by omega) (by simp; omega) (by omega)) fun x12q8 h12q8 hx12q8 => ?_
        obtain ⟨-, st', s1, s2, rfl⟩ := hx12q8
        have hol := outE_len (m + 1) cl mk (ld ++ t.take nn)
        have hlt : (t.drop nn).length < t.length := by simp; omega
        have hg : TxOk h k R 1099511627776 ⟨f, 12, [45], q != oddQ (t.take nn), m + 1, st', t.drop nn⟩ := by
          refine ⟨by simp only [List.length_drop]; omega, ⟨by simp only; omega, by simp only; omega⟩, rfl, s1, by rw [s2]; exact g5, by simp only [List.length_drop]; omega, ?_⟩
          simp only [s2, List.length_append, List.length_take, List.length_drop] at hol ⊢
          omega
        simp (decide := true) only [aOps_nil, putD, Slots.put, Slots.keep, if_true, if_false]
        repeat (with_reducible refine And.intro ?_ ?_; · first | trivial | omega | (intro hg; simp only [Bool.and_eq_true, Bool.or_eq_true, Bool.not_eq_true', Bool.and_eq_false_iff, Bool.or_eq_false_iff, Bool.not_eq_false', decide_eq_true_eq, decide_eq_false_iff_not, eqNil] at hg; omega) | (simp only [List.length_append, List.length_map, List.length_range, List.length_replicate, List.length_take, List.length_drop, List.length_cons, List.length_nil, List.length_set, List.length_reverse]; omega))
        apply hK; clear hK K
        -- region 13  columns.go:228
        refine awp_rseq [0, 2, 6, 7, 8] (by rfl) fun K hK => ?_
        simp (decide := true) only [ev, putD, Slots.put, Slots.get, if_true, if_false, true_and, ↓ap_move, pop_move, ↓ap_slice, pop_slice, evO, pSliceS_0i Tryd.underlying9, pSliceS, bndA_none, bndA_int]
        repeat (with_reducible refine And.intro ?_ ?_; · first | trivial | omega | (intro hg; simp only [Bool.and_eq_true, Bool.or_eq_true, Bool.not_eq_true', Bool.and_eq_false_iff, Bool.or_eq_false_iff, Bool.not_eq_false', decide_eq_true_eq, decide_eq_false_iff_not, eqNil] at hg; omega) | (simp only [List.length_append, List.length_map, List.length_range, List.length_replicate, List.length_take, List.length_drop, List.length_cons, List.length_nil, List.length_set, List.length_reverse]; omega))
        refine aOps_callV (V := .bool (oddQ (t.take nn))) (by rfl) (by rfl) (c_open w₀ _ _ (by simp; omega)) ?_
        simp (decide := true) only [aOps_nil, ev, absV, absS, putD, Slots.put, Slots.get, Slots.keep, if_true, if_false, true_and, ↓ap_binOp, pop_binOp, isNilC_tmp, cond_false, pBinX_bne, Tryd.underlying4, ↓ap_assign, pop_assign]
        repeat (with_reducible refine And.intro ?_ ?_; · first | trivial | omega | (intro hg; simp only [Bool.and_eq_true, Bool.or_eq_true, Bool.not_eq_true', Bool.and_eq_false_iff, Bool.or_eq_false_iff, Bool.not_eq_false', decide_eq_true_eq, decide_eq_false_iff_not, eqNil] at hg; omega) | (simp only [List.length_append, List.length_map, List.length_range, List.length_replicate, List.length_take, List.length_drop, List.length_cons, List.length_nil, List.length_set, List.length_reverse]; omega))
        apply hK; clear hK K
        -- region 14  columns.go:229
        refine awp_r [0, 2, 6, 7] (by rfl) ?_
        simp (decide := true) only [aOps_nil, ev, putD, Slots.put, Slots.get, Slots.keep, if_true, if_false, true_and, ↓ap_move, pop_move, ↓ap_slice, pop_slice, evO, pSliceS_i0 Tryd.underlying9, pSliceS, bndA_none, bndA_int, ↓ap_assign, pop_assign, hdr]
        repeat (with_reducible refine And.intro ?_ ?_; · first | trivial | omega | (intro hg; simp only [Bool.and_eq_true, Bool.or_eq_true, Bool.not_eq_true', Bool.and_eq_false_iff, Bool.or_eq_false_iff, Bool.not_eq_false', decide_eq_true_eq, decide_eq_false_iff_not, eqNil] at hg; omega) | (simp only [List.length_append, List.length_map, List.length_range, List.length_replicate, List.length_take, List.length_drop, List.length_cons, List.length_nil, List.length_set, List.length_reverse]; omega))
        change Awp _ _ _ _ _ _ _
        -- region 15  columns.go:231
        refine awp_r [0, 1, 2, 6, 7] (by rfl) ?_
        simp (decide := true) only [aOps_nil, ev, absV, absS, putD, Slots.put, Slots.keep, if_true, if_false, true_and, ↓ap_assign, pop_assign]
        repeat (with_reducible refine And.intro ?_ ?_; · first | trivial | omega | (intro hg; simp only [Bool.and_eq_true, Bool.or_eq_true, Bool.not_eq_true', Bool.and_eq_false_iff, Bool.or_eq_false_iff, Bool.not_eq_false', decide_eq_true_eq, decide_eq_false_iff_not, eqNil] at hg; omega) | (simp only [List.length_append, List.length_map, List.length_range, List.length_replicate, List.length_take, List.length_drop, List.length_cons, List.length_nil, List.length_set, List.length_reverse]; omega))
        try simp only [thenA_normal, inBlockA_normal]
        first
        | exact ⟨⟨f, 12, [32], false, m + 1, st', trimL (t.drop (spaceE t nn q))⟩, rfl, Sub.refl _, hg, hlt⟩
        | exact ⟨⟨f, 12, [45], q != oddQ (t.take nn), m + 1, st', t.drop nn⟩, rfl, Sub.refl _, hg, hlt⟩
end Go.Proofs.YtikpnhdjjabdmaaDoor

/-
  Contracts: Len of strings.Builder; Write of the package columns.
  Conditions: none.
-/
namespace Go.Proofs.YtikpnhdjjabdmaaDoor
open Go.AM
open Go.Proofs
open Go.Col
set_option maxRecDepth 100000

theorem Bld.slice_len {st : Bld} : st.slice = .nilSlice ∧ st.bytes = [] ∨ ∃ l o c, st.slice = .slice l o st.bytes.length c := by
  cases hb : st.buf with
  | none => exact .inl ⟨Bld.slice_nil hb, Bld.bytes_nil hb⟩
  | some q => exact .inr ⟨.own q.1, 0, .grow 1, by rw [Bld.slice_some (kb := q.1) (l := q.2) hb, Bld.bytes_some (kb := q.1) (l := q.2) hb]⟩
theorem c_bLen (w₀ : World) (h : AHeap) (k : Nat) (rest : List AVal) (st : Bld) (hst : st.ok 5 h k) :
    ACall Tryd.prog w₀ 27 [.ptr (.own k) 0] (bldH h k rest st) (fun v h' => v = .int .i64 st.bytes.length ∧ h' = bldH h k rest st) := by
  have hhead := bldH_head (rest := rest) hst
  have r1 : rd w₀ (bldH h k rest st) (.own k) 1 = st.slice := rd_own w₀ hhead 1
  have hl : pLen Tryd.prog 61 st.slice = ⟨True, .int .i64 st.bytes.length⟩ := by
    rcases Bld.slice_len (st := st) with ⟨e1, e2⟩ | ⟨l, o, c, e⟩
    · rw [e1, e2]; exact pLen_nil Tryd.underlying61
    · rw [e]; exact pLen_slice Tryd.underlying61 _ _ _ _
  refine acall_intro (n := 8) (rs := [.tmp 2]) Tryd.func27 rfl rfl rfl rfl (Nat.le_of_ble_eq_true rfl) ?_
  simp only [initSlots]
  -- region 0  builder.go:51
  refine awp_rseq [0] (by rfl) fun K hK => ?_
  simp (decide := true) only [aOps_nil, ev, absV, absS, putD, Slots.put, Slots.keep, if_true, if_false, true_and, ↓ap_assign, pop_assign]
  repeat (with_reducible refine And.intro ?_ ?_; · first | trivial | omega | (intro hg; simp only [Bool.and_eq_true, Bool.or_eq_true, Bool.not_eq_true', Bool.and_eq_false_iff, Bool.or_eq_false_iff, Bool.not_eq_false', decide_eq_true_eq, decide_eq_false_iff_not, eqNil] at hg; omega) )
  apply hK; clear hK K
  -- region 1  builder.go:51
  refine awp_rseq [2] (by rfl) fun K hK => ?_
  simp (decide := true) only [aOps_nil, ev, putD, Slots.put, Slots.get, Slots.keep, if_true, if_false, true_and, ↓ap_move, pop_move, ↓ap_nilCheck, pop_nilCheck, pNil_ptr, ↓ap_fieldAddr, pop_fieldAddr, fa63_1, ↓ap_loadL, apL_mk, pLoad_one ag61, ↓ap_len, pop_len, ↓ap_assign, pop_assign, r1, Bld.slice_live, hl]
  repeat (with_reducible refine And.intro ?_ ?_; · first | trivial | omega | (intro hg; simp only [Bool.and_eq_true, Bool.or_eq_true, Bool.not_eq_true', Bool.and_eq_false_iff, Bool.or_eq_false_iff, Bool.not_eq_false', decide_eq_true_eq, decide_eq_false_iff_not, eqNil] at hg; omega) )
  apply hK; clear hK K
  refine awp_ret ?_
  try simp only [thenA_ret, inBlockA_ret]
  refine retA_ret _ (Sub.refl _) (resPre_tmp (resPre_nil)) ?_
  simp (decide := true) only [Slots.get, if_true, and_true, resOf_one]
  all_goals first | rfl | exact ⟨rfl, rfl⟩ | (simp (decide := true) only [if_true, if_false, *]; done) | (trace_state; fail)
def lineC (l : Bool × Str) : List AVal := [.bool l.1, .str l.2]
theorem Sub.bldH_both {h h' : AHeap} {k : Nat} {rest : List AVal} {b : Bld} (hs : Sub h h') : Sub (bldH h k rest b) (bldH h' k rest b) := by
  cases hbuf : b.buf with
  | none => rw [bldH_nil hbuf, bldH_nil hbuf]; exact Sub.set_both hs _ _
  | some q => rw [bldH_some (kb := q.1) (l := q.2) hbuf, bldH_some (kb := q.1) (l := q.2) hbuf]; exact Sub.set_both (Sub.set_both hs _ _) _ _
theorem Bld.ok_lay {h : AHeap} {k : Nat} {rest : List AVal} {e : TypeId} {b : Bld} (hb : b.ok e h k) {j : Nat} (hj : bldH h k rest b j = none) (c : Blk) : b.ok e (h.set j c) k := by
  cases hbuf : b.buf with
  | none => exact Bld.ok_nil hbuf
  | some q =>
    obtain ⟨h1, h2, h3, h4⟩ := (Bld.ok_some hbuf).1 hb
    refine (Bld.ok_some hbuf).2 ⟨h1, ?_, h3, h4⟩
    rw [AHeap.set_ne _ _ (fun e => by rw [← e, bldH_buf hbuf] at hj; cases hj)]
    exact h2
theorem lineC_at {w₀ : World} {h : AHeap} {ls : List (Bool × Str)} {l : AM.Loc} {o : Nat} {cp : Cap} (hm : IsL w₀ h 2 (.slice l o ls.length cp) (ls.map lineC)) {i : Nat} (hi : i < ls.length) :
    rd w₀ h l (o + i * 2) = .bool (ls.getD i (false, [])).1 ∧ rd w₀ h l (o + i * 2 + 1) = .str (ls.getD i (false, [])).2 := by
  have he := hm.elem (i := i) (by rw [List.length_map]; exact hi)
  rw [getD_map (false, []) hi] at he
  simp only [cellsAt, lineC, List.cons.injEq, and_true] at he
  exact he
theorem textE_n : ∀ (f col : Nat) (mark : Str) (q : Bool) (k : Nat) (out s : Str), (textE f col mark q k out s).1 ≤ k + f
  | 0, _, _, _, _, _, _ => Nat.le_refl _
  | f + 1, col, mark, q, k, out, s => by
    by_cases h : s.length ≤ 73 - col - (if q = true then 1 else 0)
    · rw [textE_short h]; show k + 1 ≤ k + (f + 1); omega
    · by_cases h2 : 0 < spaceE s (73 - col - (if q = true then 1 else 0)) q
      · rw [textE_space h h2]
        have := textE_n f 12 [32] false (k + 1) (out ++ outE (k + 1) mark col ((if q = true then [34] else []) ++ s.take (spaceE s (73 - col - (if q = true then 1 else 0)) q))) (trimL (s.drop (spaceE s (73 - col - (if q = true then 1 else 0)) q)))
        omega
      · rw [textE_cut h h2]
        have := textE_n f 12 [45] (q != oddQ (s.take (73 - col - (if q = true then 1 else 0)))) (k + 1) (out ++ outE (k + 1) mark col ((if q = true then [34] else []) ++ s.take (73 - col - (if q = true then 1 else 0)))) (s.drop (73 - col - (if q = true then 1 else 0)))
        omega
theorem right_parts (s : Str) : rightE s = (!decide (s = []) && s.all okB && !decide (s.getD 0 0 = 32) && !decide (s.getD (s.length - 1) 0 = 32) && !oddQ s) := by
  unfold rightE
  by_cases hs : s = []
  · subst hs; rfl
  · have : s.getLast? = some (s.getD (s.length - 1) 0) := by
      rw [List.getLast?_eq_getElem?, List.getD_eq_getElem?_getD]
      have : s.length - 1 < s.length := by have := List.length_pos_iff.2 hs; omega
      rw [List.getElem?_eq_getElem this]
      rfl
    rw [this]
    simp only [Option.some.injEq]
/-- What Write answers behind the test: the lines' number so far, the output so far. -/
def writeGo : List (Bool × Str) → Nat → Str → Str × Int
  | [], _, out => (out, 0)
  | l :: r, n, out => if 1048576 < (textE (l.2.length + 1) (if l.1 = true then 8 else 12) [32] false n out l.2).2.length then ([], 3) else writeGo r (textE (l.2.length + 1) (if l.1 = true then 8 else 12) [32] false n out l.2).1 (textE (l.2.length + 1) (if l.1 = true then 8 else 12) [32] false n out l.2).2
def writeE (ls : List (Bool × Str)) : Str × Int := if (ls.all fun l => rightE l.2) = true then writeGo ls 0 [] else ([], 1)
theorem drop_getD {α : Type} (d : α) {l : List α} {i : Nat} (hi : i < l.length) : l.drop i = l.getD i d :: l.drop (i + 1) := by
  rw [List.drop_eq_getElem_cons hi]
  simp [List.getD, hi]
structure WrG where
  i : Nat
  n : Nat
  st : Bld
structure WrOk (ls : List (Bool × Str)) (h : AHeap) (k : Nat) (g : WrG) : Prop where
  i : g.i ≤ ls.length
  n : g.n ≤ g.i * 1000002
  ok : g.st.ok 5 h k
  bytes : g.st.bytes.length ≤ 1048576
  eq : writeGo (ls.drop g.i) g.n g.st.bytes = writeGo ls 0 []
theorem c_Write (w₀ : World) (ht10 : Tab10 w₀) (h : AHeap) (ls : List (Bool × Str)) (l : AM.Loc) (o : Nat) (cp : Cap) (hm : IsL w₀ h 2 (.slice l o ls.length cp) (ls.map lineC)) (hl : ls.length ≤ 1000) (ht : ∀ x ∈ ls, x.2.length ≤ 1000000) :
    ACall Tryd.prog w₀ 9 [.slice l o ls.length cp] h (fun v h' => v = .tuple [.str (writeE ls).1, .int .i64 (writeE ls).2] ∧ Sub h h') := by
  refine acall_intro (n := 65) (rs := [.tmp 2, .tmp 3]) Tryd.func9 rfl rfl rfl rfl (Nat.le_of_ble_eq_true rfl) ?_
  simp only [initSlots]
  -- region 0  columns.go:236
  refine awp_rseq [0] (by rfl) fun K hK => ?_
  simp (decide := true) only [aOps_nil, ev, absV, absS, putD, Slots.put, Slots.keep, if_true, if_false, true_and, ↓ap_assign, pop_assign]
  repeat (with_reducible refine And.intro ?_ ?_; · first | trivial | omega | (intro hg; simp only [Bool.and_eq_true, Bool.or_eq_true, Bool.not_eq_true', Bool.and_eq_false_iff, Bool.or_eq_false_iff, Bool.not_eq_false', decide_eq_true_eq, decide_eq_false_iff_not, eqNil] at hg; omega) )
  apply hK; clear hK K
  refine awp_seq ?_
  -- region 1  columns.go:237
  refine awp_rseq [0, 10, 11, 12] (by rfl) fun K hK => ?_
  simp (decide := true) only [aOps_nil, ev, absV, absS, putD, Slots.put, Slots.get, Slots.keep, if_true, if_false, true_and, ↓ap_move, pop_move, ↓ap_len, pop_len, pLen_slice Tryd.underlying28]
  repeat (with_reducible refine And.intro ?_ ?_; · first | trivial | omega | (intro hg; simp only [Bool.and_eq_true, Bool.or_eq_true, Bool.not_eq_true', Bool.and_eq_false_iff, Bool.or_eq_false_iff, Bool.not_eq_false', decide_eq_true_eq, decide_eq_false_iff_not, eqNil] at hg; omega) )
  apply hK; clear hK K
  refine awp_block ?_
  refine awp_loopG [0, 10, 11, 12] (fun i : Nat => [(0, .slice l o ls.length cp), (10, .slice l o ls.length cp), (11, .int .i64 ls.length), (12, .int .i64 i)]) (fun i : Nat => h) (fun i : Nat => i ≤ ls.length ∧ (ls.all fun x => rightE x.2) = ((ls.drop i).all fun x => rightE x.2)) (fun i : Nat => ls.length - i) 0 (by rfl) (Sub.refl _) ⟨Nat.zero_le _, rfl⟩ ?_
  rintro i ⟨hi, hg⟩
  -- region 2  columns.go:237
  refine awp_rseq [0, 10, 11, 12, 13] (by rfl) fun K hK => ?_
  simp (decide := true) only [aOps_nil, ev, putD, Slots.put, Slots.get, Slots.keep, if_true, if_false, true_and, ↓ap_binOp, pop_binOp, isNilC_tmp, cond_false, pBinX_int, pI_lss]
  repeat (with_reducible refine And.intro ?_ ?_; · first | trivial | omega | (intro hg; simp only [Bool.and_eq_true, Bool.or_eq_true, Bool.not_eq_true', Bool.and_eq_false_iff, Bool.or_eq_false_iff, Bool.not_eq_false', decide_eq_true_eq, decide_eq_false_iff_not, eqNil] at hg; omega) )
  apply hK; clear hK K
  refine awp_seq (awp_cond (b := _) rfl (fun hb1 => ?_) (fun hb1 => ?_))
  · try simp only [decide_eq_true_eq] at hb1
    have hi' : i < ls.length := by omega
    obtain ⟨e0, e1⟩ := lineC_at hm hi'
    obtain ⟨x, hx⟩ : ∃ x, x = ls.getD i (false, []) := ⟨_, rfl⟩
    have hxl : x.2.length ≤ 1000000 := by rw [hx, List.getD, List.getElem?_eq_getElem hi']; exact ht _ (List.getElem_mem hi')
    rw [← hx] at e0 e1
    rw [drop_getD (false, []) hi', ← hx, List.all_cons] at hg
    have hn0 : ¬ x.2 = [] → 0 < x.2.length := fun q => List.length_pos_iff.2 q
    refine awp_skip ?_
    change Awp _ _ _ _ _ _ _
    refine awp_seq ?_
    refine awp_block ?_
    -- region 3  columns.go:237
    refine awp_rseq [0, 5, 10, 11, 12] (by rfl) fun K hK => ?_
    simp (decide := true) only [ev, putD, Slots.put, Slots.get, if_true, if_false, true_and, ↓ap_indexAddrL, apL_mk, pIndexAddr_slice Tryd.underlying28 sz27, ↓ap_loadL, pLoad_agg ag27 sz27, cellsAt, lv_bool, lv_str, allLive, cellsAt, e0, e1, Int.toNat_natCast, lv_bool, lv_str, allLive, Bool.and_self]
    repeat (with_reducible refine And.intro ?_ ?_; · first | trivial | omega | (intro hg; simp only [Bool.and_eq_true, Bool.or_eq_true, Bool.not_eq_true', Bool.and_eq_false_iff, Bool.or_eq_false_iff, Bool.not_eq_false', decide_eq_true_eq, decide_eq_false_iff_not, eqNil] at hg; omega) )
    refine aOps_alloc ze27 (cs := [.bool false, .str []]) (by rfl) fun k3q2 hk3q2 => ?_
    try have hf_3q2 : h k3q2 = none := by first | assumption | (simp only [AHeap.set_none] at hk3q2; simp only [hk3q2])
    refine aOps_store (by rfl) (by rfl) (by repeat (first | exact AHeap.set_same _ _ _ | assumption | refine (AHeap.set_ne _ _ (by first | assumption | exact Ne.symm (by assumption))).trans ?_)) sz27 (by rfl) (by rfl) (by first | exact Nat.le_refl _ | decide | (simp; done) | (simp; omega)) (Nat.zero_le _) (by rfl) ?_
    simp only [AHeap.set_set, AVal.cells]
    simp (decide := true) only [aOps_nil, ev, putD, Slots.put, Slots.get, Slots.keep, if_true, if_false, setAt, List.set_cons_zero, List.set_cons_succ, Nat.zero_add]
    repeat (with_reducible refine And.intro ?_ ?_; · first | trivial | omega | (intro hg; simp only [Bool.and_eq_true, Bool.or_eq_true, Bool.not_eq_true', Bool.and_eq_false_iff, Bool.or_eq_false_iff, Bool.not_eq_false', decide_eq_true_eq, decide_eq_false_iff_not, eqNil] at hg; omega) )
    apply hK; clear hK K
    -- region 4  columns.go:238
    refine awp_rseq [0, 10, 11, 12, 45] (by rfl) fun K hK => ?_
    simp (decide := true) only [ev, absV, absS, putD, Slots.put, Slots.get, if_true, if_false, true_and, ↓ap_fieldAddr, pop_fieldAddr, fa27_1, ↓ap_loadL, apL_mk, pLoad_one ag9, ↓ap_binOp, pop_binOp, isNilC_str, cond_false, pBinX_str, pS_eql, ↓ap_move, pop_move, ↓ag_fieldAddr, agP, agQ_some, nthDst, gKnown_bool, guardB_bool_false, implies_true, ↓ag_loadL, agQL_some, agL_mk, agL_ld2, rd_any, List.getD_cons_zero, List.getD_cons_succ, Nat.zero_add, lv_str]
    repeat (with_reducible refine And.intro ?_ ?_; · first | trivial | omega | (intro hg; simp only [Bool.and_eq_true, Bool.or_eq_true, Bool.not_eq_true', Bool.and_eq_false_iff, Bool.or_eq_false_iff, Bool.not_eq_false', decide_eq_true_eq, decide_eq_false_iff_not, eqNil] at hg; omega) )
    first
    | (refine aOps_yes (by rfl) ?_; refine aOps_callV (V := .bool (x.2.all okB)) (by rfl) (by rfl) (c_printable w₀ _ x.2 (by omega)) ?_)
    | (refine aOps_gcall (V := .bool (x.2.all okB)) (f := _) (cap := _) (xs := _) rfl (fun hg => ⟨rfl, ?_⟩) (fun hg => c_printable w₀ _ x.2 (by omega)) ?_; · (simp (decide := true) only [gv, nthDst, Slots.get, if_true, if_false, guardB_bool_false] at hg; simp (decide := true) only [evs, ev, Slots.get, if_true, if_false, hg, condV_true, List.append_nil, List.map_cons, List.map_nil] <;> try rfl))
    simp (decide := true) only [ev, absV, absS, putD, Slots.put, Slots.get, if_true, if_false, true_and, gv, nthDst, guardB_bool_false, ↓ag_unOp, pop_unOp, agP, agQ_some, gKnown_bool, implies_true, pU_not, cv_un, cp_un, ↓ap_pick, pop_pick, pPick_bool, pickV_cond_r, pickV_or, ↓ap_move, pop_move, ↓ag_fieldAddr, pop_fieldAddr, fa27_1, ↓ag_loadL, agQL_some, agL_mk, agL_ld2, pLoad_one ag9, ↓ag_index, pop_index, pIndex_str Tryd.underlying9, cv_indexl, cv_indexr, cp_indexl, cp_indexr, ↓ag_binOp, pop_binOp, isNilC_int, cond_false, cv_binl, cp_binl, pBinX_int, pI_eql, ↓ag_len, pop_len, pLen_str Tryd.underlying9, cv_len, cp_len, pI_sub, rd_any, List.getD_cons_zero, List.getD_cons_succ, Nat.zero_add, lv_str]
    try simp (disch := omega) only [wrap_i64]
    repeat (with_reducible refine And.intro ?_ ?_; · first | trivial | omega | (intro hg; simp only [Bool.not_eq_true', Bool.or_eq_false_iff, Bool.not_eq_false', decide_eq_false_iff_not, eqNil] at hg; omega) )
    first
    | (refine aOps_yes (by rfl) ?_; refine aOps_callV (V := .bool (oddQ x.2)) (by rfl) (by rfl) (c_open w₀ _ x.2 (by omega)) ?_)
    | (refine aOps_gcall (V := .bool (oddQ x.2)) (f := _) (cap := _) (xs := _) rfl (fun hg => ⟨rfl, ?_⟩) (fun hg => c_open w₀ _ x.2 (by omega)) ?_; · (simp (decide := true) only [gv, nthDst, Slots.get, if_true, if_false, guardB_bool_false] at hg; simp (decide := true) only [evs, ev, Slots.get, if_true, if_false, hg, condV_true, List.append_nil, List.map_cons, List.map_nil] <;> try rfl))
    simp (decide := true) only [aOps_nil, ev, absV, absS, putD, Slots.put, Slots.get, Slots.keep, if_true, if_false, true_and, gv, nthDst, guardB_bool_false, ↓ap_pick, pop_pick, pPick_bool, pickV_cond_r, pickV_or]
    repeat (with_reducible refine And.intro ?_ ?_; · first | trivial | omega | (intro hg; simp only [Bool.and_eq_true, Bool.or_eq_true, Bool.not_eq_true', Bool.and_eq_false_iff, Bool.or_eq_false_iff, Bool.not_eq_false', decide_eq_true_eq, decide_eq_false_iff_not, eqNil] at hg; omega) )
    apply hK; clear hK K
    refine awp_cond (b := _) rfl (fun hb2 => ?_) (fun hb2 => ?_)
    · try simp only [decide_eq_true_eq, Bool.not_eq_true', Bool.or_eq_true] at hb2
      skip
      -- region 5  columns.go:239
      refine awp_rseq [2, 3] (by rfl) fun K hK => ?_
      simp (decide := true) only [aOps_nil, ev, absV, absS, putD, Slots.put, Slots.keep, if_true, if_false, true_and, ↓ap_assign, pop_assign]
      repeat (with_reducible refine And.intro ?_ ?_; · first | trivial | omega | (intro hg; simp only [Bool.and_eq_true, Bool.or_eq_true, Bool.not_eq_true', Bool.and_eq_false_iff, Bool.or_eq_false_iff, Bool.not_eq_false', decide_eq_true_eq, decide_eq_false_iff_not, eqNil] at hg; omega) )
      apply hK; clear hK K
      refine awp_ret ?_
      try simp only [thenA_ret, inBlockA_ret]
      refine retA_ret h (by repeat (first | exact Sub.refl _ | assumption | refine Sub.trans_set ?_ (by assumption))) (resPre_tmp (resPre_tmp (resPre_nil))) ?_
      simp (decide := true) only [Slots.get, if_true, if_false, resOf_two]
      have hr : rightE x.2 = false := by
        rw [right_parts]
        cases hq : (!decide (x.2 = []) && x.2.all okB && !decide (x.2.getD 0 0 = 32) && !decide (x.2.getD (x.2.length - 1) 0 = 32) && !oddQ x.2) with
        | false => rfl
        | true =>
          exfalso
          simp only [Bool.and_eq_true, Bool.not_eq_true', decide_eq_false_iff_not] at hq
          obtain ⟨⟨⟨⟨q1, q2⟩, q3⟩, q4⟩, q5⟩ := hq
          rw [show ((x.2.length : Int) - 1).toNat = x.2.length - 1 by omega, Int.toNat_zero] at hb2
          rw [q2, q5] at hb2
          rcases hb2 with (((q | q) | q) | q) | q
          · exact q1 q
          · cases q
          · exact q3 (UInt8.toNat.inj (by have : ((32 : UInt8).toNat) = 32 := rfl; omega))
          · exact q4 (UInt8.toNat.inj (by have : ((32 : UInt8).toNat) = 32 := rfl; omega))
          · cases q
      have hw : writeE ls = ([], 1) := by unfold writeE; rw [hg, hr, Bool.false_and]; rfl
      rw [hw]
      exact ⟨rfl, Sub.refl _⟩
    · try simp only [decide_eq_false_iff_not, Bool.not_eq_false', Bool.or_eq_false_iff] at hb2
      refine awp_skip ?_
      change Awp _ _ _ _ _ _ _
      -- region 6  columns.go:237
      refine awp_r [0, 10, 11, 12] (by rfl) ?_
      simp (decide := true) only [aOps_nil, ev, absV, absS, putD, Slots.put, Slots.get, Slots.keep, if_true, if_false, true_and, ↓ap_binOp, pop_binOp, isNilC_int, cond_false, pBinX_int, pI_add, ↓ap_move, pop_move]
      try simp (disch := omega) only [wrap_i64]
      repeat (with_reducible refine And.intro ?_ ?_; · first | trivial | omega | (intro hg; simp only [Bool.and_eq_true, Bool.or_eq_true, Bool.not_eq_true', Bool.and_eq_false_iff, Bool.or_eq_false_iff, Bool.not_eq_false', decide_eq_true_eq, decide_eq_false_iff_not, eqNil] at hg; omega) )
      try simp only [thenA_normal]
      refine ⟨i + 1, rfl, (by repeat (first | exact Sub.refl _ | assumption | refine Sub.set_both ?_ _ _ | refine Sub.trans_set ?_ (by repeat (first | assumption | refine (AHeap.set_ne _ _ (by first | assumption | exact Ne.symm (by assumption))).trans ?_)))), ⟨hi', ?_⟩, by omega⟩
      rw [hg]
      have hr : rightE x.2 = true := by
        rw [right_parts]
        rw [show ((x.2.length : Int) - 1).toNat = x.2.length - 1 by omega, Int.toNat_zero] at hb2
        obtain ⟨⟨⟨⟨q1, q2⟩, q3⟩, q4⟩, q5⟩ := hb2
        rw [q2, q5, decide_eq_false q1, decide_eq_false (fun q => q3 (by rw [q]; rfl)), decide_eq_false (fun q => q4 (by rw [q]; rfl))]
        rfl
      rw [hr, Bool.true_and]
  · try simp only [decide_eq_false_iff_not] at hb1
    have hw : writeE ls = writeGo ls 0 [] := by
      unfold writeE
      rw [hg, List.drop_of_length_le (by omega)]
      rfl
    rw [hw]
    refine awp_exit ?_
    change Awp _ _ _ _ _ _ _
    -- region 7  columns.go:242
    refine awp_aseqT [0, 6] (by decide) (by decide) ze65 (cs := [.nilPtr, .nilSlice, .int .i64 0]) (by rfl) fun k7q0 hk7q0 ht7q0 => ?_
    simp (decide := true) only [Slots.put, Slots.keep, if_true, if_false]
    try have hf_7q0 : h k7q0 = none := by first | assumption | (simp only [AHeap.set_none] at hk7q0; simp only [hk7q0])
    refine awp_seq ?_
    -- region 8  columns.go:243
    refine awp_rseq [6, 47, 48, 49] (by rfl) fun K hK => ?_
    simp (decide := true) only [aOps_nil, ev, absV, absS, putD, Slots.put, Slots.get, Slots.keep, if_true, if_false, true_and, ↓ap_move, pop_move, ↓ap_len, pop_len, pLen_slice Tryd.underlying28]
    repeat (with_reducible refine And.intro ?_ ?_; · first | trivial | omega | (intro hg; simp only [Bool.and_eq_true, Bool.or_eq_true, Bool.not_eq_true', Bool.and_eq_false_iff, Bool.or_eq_false_iff, Bool.not_eq_false', decide_eq_true_eq, decide_eq_false_iff_not, eqNil] at hg; omega) )
    apply hK; clear hK K
    refine awp_block ?_
    refine awp_loopG [6, 47, 48, 49] (fun g : WrG => [(6, .ptr (.own k7q0) 0), (47, .slice l o ls.length cp), (48, .int .i64 ls.length), (49, .int .i64 g.i)]) (fun g : WrG => bldH h k7q0 [.int .i64 g.n] g.st) (fun g : WrG => WrOk ls h k7q0 g) (fun g : WrG => ls.length - g.i) ⟨0, 0, .none⟩ (by rfl) (Sub.refl _) ⟨Nat.zero_le _, Nat.zero_le _, Bld.none_ok, by simp [Bld.none, Bld.bytes], rfl⟩ ?_
    rintro ⟨i, n, st⟩ ⟨g1, g2, g3, g4, g5⟩
    simp only at g1 g2 g3 g4 g5 ⊢
    -- region 9  columns.go:243
    refine awp_rseq [6, 47, 48, 49, 50] (by rfl) fun K hK => ?_
    simp (decide := true) only [aOps_nil, ev, putD, Slots.put, Slots.get, Slots.keep, if_true, if_false, true_and, ↓ap_binOp, pop_binOp, isNilC_tmp, cond_false, pBinX_int, pI_lss]
    repeat (with_reducible refine And.intro ?_ ?_; · first | trivial | omega | (intro hg; simp only [Bool.and_eq_true, Bool.or_eq_true, Bool.not_eq_true', Bool.and_eq_false_iff, Bool.or_eq_false_iff, Bool.not_eq_false', decide_eq_true_eq, decide_eq_false_iff_not, eqNil] at hg; omega) )
    apply hK; clear hK K
    refine awp_seq (awp_cond (b := _) rfl (fun hb3 => ?_) (fun hb3 => ?_))
    · try simp only [decide_eq_true_eq] at hb3
      have hi' : i < ls.length := by omega
      obtain ⟨e0, e1⟩ := lineC_at (hm.mono (Sub.bldH (rest := [.int .i64 n]) hk7q0 g3)) hi'
      obtain ⟨x, hx⟩ : ∃ x, x = ls.getD i (false, []) := ⟨_, rfl⟩
      have hxl : x.2.length ≤ 1000000 := by rw [hx, List.getD, List.getElem?_eq_getElem hi']; exact ht _ (List.getElem_mem hi')
      rw [← hx] at e0 e1
      rw [drop_getD (false, []) hi', ← hx, writeGo] at g5
      obtain ⟨cl, hcl⟩ : ∃ cl : Nat, cl = if x.1 = true then 8 else 12 := ⟨_, rfl⟩
      have hcl2 : 8 ≤ cl ∧ cl ≤ 12 := by rw [hcl]; split <;> omega
      rw [← hcl] at g5
      have hn1 := textE_n (x.2.length + 1) cl [32] false n st.bytes x.2
      refine awp_skip ?_
      change Awp _ _ _ _ _ _ _
      refine awp_seq ?_
      refine awp_block ?_
      -- region 10  columns.go:243
      refine awp_rseq [6, 8, 47, 48, 49] (by rfl) fun K hK => ?_
      simp (decide := true) only [ev, putD, Slots.put, Slots.get, if_true, if_false, true_and, ↓ap_indexAddrL, apL_mk, pIndexAddr_slice Tryd.underlying28 sz27, ↓ap_loadL, pLoad_agg ag27 sz27, cellsAt, lv_bool, lv_str, allLive, cellsAt, e0, e1, Int.toNat_natCast, lv_bool, lv_str, allLive, Bool.and_self]
      repeat (with_reducible refine And.intro ?_ ?_; · first | trivial | omega | (intro hg; simp only [Bool.and_eq_true, Bool.or_eq_true, Bool.not_eq_true', Bool.and_eq_false_iff, Bool.or_eq_false_iff, Bool.not_eq_false', decide_eq_true_eq, decide_eq_false_iff_not, eqNil] at hg; omega) )
      refine aOps_alloc ze27 (cs := [.bool false, .str []]) (by rfl) fun k10q2 hk10q2 => ?_
      try have hf_10q2 : h k10q2 = none := by first | assumption | (simp only [AHeap.set_none] at hk10q2; simp only [hk10q2])
      refine aOps_store (by rfl) (by rfl) (by repeat (first | exact AHeap.set_same _ _ _ | assumption | refine (AHeap.set_ne _ _ (by first | assumption | exact Ne.symm (by assumption))).trans ?_)) sz27 (by rfl) (by rfl) (by first | exact Nat.le_refl _ | decide | (simp; done) | (simp; omega)) (Nat.zero_le _) (by rfl) ?_
      simp only [AHeap.set_set, AVal.cells]
      simp (decide := true) only [aOps_nil, ev, putD, Slots.put, Slots.get, Slots.keep, if_true, if_false, setAt, List.set_cons_zero, List.set_cons_succ, Nat.zero_add]
      repeat (with_reducible refine And.intro ?_ ?_; · first | trivial | omega | (intro hg; simp only [Bool.and_eq_true, Bool.or_eq_true, Bool.not_eq_true', Bool.and_eq_false_iff, Bool.or_eq_false_iff, Bool.not_eq_false', decide_eq_true_eq, decide_eq_false_iff_not, eqNil] at hg; omega) )
      apply hK; clear hK K
      -- region 11  columns.go:244
      refine awp_rseq [6, 8, 9, 47, 48, 49] (by rfl) fun K hK => ?_
      simp (decide := true) only [aOps_nil, ev, absV, absS, putD, Slots.put, Slots.keep, if_true, if_false, true_and, ↓ap_assign, pop_assign]
      repeat (with_reducible refine And.intro ?_ ?_; · first | trivial | omega | (intro hg; simp only [Bool.and_eq_true, Bool.or_eq_true, Bool.not_eq_true', Bool.and_eq_false_iff, Bool.or_eq_false_iff, Bool.not_eq_false', decide_eq_true_eq, decide_eq_false_iff_not, eqNil] at hg; omega) )
      apply hK; clear hK K
      refine awp_seq ?_
      -- region 12  columns.go:245
      refine awp_rseq [6, 8, 9, 47, 48, 49, 54] (by rfl) fun K hK => ?_
      simp (decide := true) only [aOps_nil, ev, putD, Slots.put, Slots.get, Slots.keep, if_true, if_false, true_and, ↓ap_fieldAddr, pop_fieldAddr, fa27_0, ↓ap_loadL, apL_mk, pLoad_one ag4, rd_any, List.getD_cons_zero, Nat.zero_add, lv_bool]
      repeat (with_reducible refine And.intro ?_ ?_; · first | trivial | omega | (intro hg; simp only [Bool.and_eq_true, Bool.or_eq_true, Bool.not_eq_true', Bool.and_eq_false_iff, Bool.or_eq_false_iff, Bool.not_eq_false', decide_eq_true_eq, decide_eq_false_iff_not, eqNil] at hg; omega) )
      apply hK; clear hK K
      refine awp_joinT [6, 8, 9, 47, 48, 49] (fun z : Unit => [(6, .ptr (.own k7q0) 0), (8, .ptr (.own k10q2) 0), (9, .int .i64 cl), (47, .slice l o ls.length cp), (48, .int .i64 ls.length), (49, .int .i64 i)]) (fun z : Unit => (bldH h k7q0 [.int .i64 n] st).set k10q2 ⟨[.bool x.1, .str x.2], 0⟩) (fun z : Unit => True) ?_ ?_
      · refine awp_cond (b := _) rfl (fun hb4 => ?_) (fun hb4 => ?_)
        · try simp only [decide_eq_true_eq, decide_eq_false_iff_not, Bool.not_eq_true', Bool.not_eq_false', Bool.and_eq_true, Bool.and_eq_false_iff, Bool.or_eq_true, Bool.or_eq_false_iff, Bool.true_eq, Bool.false_eq, reduceCtorEq] at hb4
          -- region 13  columns.go:246
          refine awp_r [6, 8, 9, 47, 48, 49] (by rfl) ?_
          simp (decide := true) only [aOps_nil, ev, absV, absS, putD, Slots.put, Slots.keep, if_true, if_false, true_and, and_true, ↓ap_assign, pop_assign]
          repeat (with_reducible refine And.intro ?_ ?_; · first | trivial | omega | (intro hg; simp only [Bool.and_eq_true, Bool.or_eq_true, Bool.not_eq_true', Bool.and_eq_false_iff, Bool.or_eq_false_iff, Bool.not_eq_false', decide_eq_true_eq, decide_eq_false_iff_not, eqNil] at hg; omega) )
          try simp only [thenA_normal]
          first
          | refine ⟨(), ?_, Sub.refl _, trivial⟩
          | refine ⟨(), ?_, Sub.refl _⟩
          rw [hb4] at hcl
          rw [hcl]
          rfl
        · try simp only [decide_eq_true_eq, decide_eq_false_iff_not, Bool.not_eq_true', Bool.not_eq_false', Bool.and_eq_true, Bool.and_eq_false_iff, Bool.or_eq_true, Bool.or_eq_false_iff, Bool.true_eq, Bool.false_eq, reduceCtorEq] at hb4
          refine awp_skip ?_
          try simp only [thenA_normal]
          first
          | refine ⟨(), ?_, Sub.refl _, trivial⟩
          | refine ⟨(), ?_, Sub.refl _⟩
          rw [hb4] at hcl
          rw [hcl]
          rfl
      · intro _ _
        have hne : k10q2 ≠ k7q0 := fun q => by rw [q, bldH_head g3] at hk10q2; cases hk10q2
        have hnn : h k10q2 = none := (Sub.bldH (rest := [.int .i64 n]) hk7q0 g3).none hk10q2
        -- region 14  columns.go:248
        refine awp_rseq [6, 47, 48, 49] (by rfl) fun K hK => ?_
        simp (decide := true) only [ev, putD, Slots.put, Slots.get, if_true, if_false, true_and, ↓ap_move, pop_move, ↓ap_fieldAddr, pop_fieldAddr, fa27_1, ↓ap_loadL, apL_mk, pLoad_one ag9, rd_any, List.getD_cons_zero, List.getD_cons_succ, Nat.zero_add, lv_str]
        repeat (with_reducible refine And.intro ?_ ?_; · first | trivial | omega | (intro hg; simp only [Bool.and_eq_true, Bool.or_eq_true, Bool.not_eq_true', Bool.and_eq_false_iff, Bool.or_eq_false_iff, Bool.not_eq_false', decide_eq_true_eq, decide_eq_false_iff_not, eqNil] at hg; omega) )
        rw [bldH_set hk10q2]
        refine aOps_call (by rfl) (by rfl) (c_text w₀ ht10 (h.set k10q2 ⟨[.bool x.1, .str x.2], 0⟩) k7q0 n st ht7q0 (by rw [AHeap.set_ne _ _ hne.symm]; exact hk7q0) (Bld.ok_lay g3 hk10q2 _) cl x.2 hcl2.1 hcl2.2 (by omega) (by omega)) fun x14q3 h14q3 hx14q3 => ?_
        obtain ⟨rfl, st', s1, s2, rfl⟩ := hx14q3
        have s3 : st'.ok 5 h k7q0 := Bld.ok_sub s1 (Sub.set hnn)
        simp (decide := true) only [aOps_nil, putD, Slots.put, Slots.keep, if_true, if_false]
        repeat (with_reducible refine And.intro ?_ ?_; · first | trivial | omega | (intro hg; simp only [Bool.and_eq_true, Bool.or_eq_true, Bool.not_eq_true', Bool.and_eq_false_iff, Bool.or_eq_false_iff, Bool.not_eq_false', decide_eq_true_eq, decide_eq_false_iff_not, eqNil] at hg; omega) )
        apply hK; clear hK K
        -- region 15  columns.go:249
        refine awp_rseq [6, 47, 48, 49, 61] (by rfl) fun K hK => ?_
        simp (decide := true) only [ev, putD, Slots.put, Slots.get, if_true, if_false, true_and, ↓ap_fieldAddr, pop_fieldAddr, fa65_0, Nat.zero_add]
        repeat (with_reducible refine And.intro ?_ ?_; · first | trivial | omega | (intro hg; simp only [Bool.and_eq_true, Bool.or_eq_true, Bool.not_eq_true', Bool.and_eq_false_iff, Bool.or_eq_false_iff, Bool.not_eq_false', decide_eq_true_eq, decide_eq_false_iff_not, eqNil] at hg; omega) )
        refine aOps_callV (V := .int .i64 st'.bytes.length) (by rfl) (by rfl) (c_bLen w₀ _ k7q0 _ st' s1) ?_
        simp (decide := true) only [aOps_nil, ev, absV, absS, putD, Slots.put, Slots.get, Slots.keep, if_true, if_false, true_and, ↓ap_binOp, pop_binOp, isNilC_int, cond_false, pBinX_int, pI_gtr]
        repeat (with_reducible refine And.intro ?_ ?_; · first | trivial | omega | (intro hg; simp only [Bool.and_eq_true, Bool.or_eq_true, Bool.not_eq_true', Bool.and_eq_false_iff, Bool.or_eq_false_iff, Bool.not_eq_false', decide_eq_true_eq, decide_eq_false_iff_not, eqNil] at hg; omega) )
        apply hK; clear hK K
        refine awp_cond (b := _) rfl (fun hb5 => ?_) (fun hb5 => ?_)
        · try simp only [decide_eq_true_eq] at hb5
          -- region 16  columns.go:250
          refine awp_rseq [2, 3] (by rfl) fun K hK => ?_
          simp (decide := true) only [aOps_nil, ev, absV, absS, putD, Slots.put, Slots.keep, if_true, if_false, true_and, ↓ap_assign, pop_assign]
          repeat (with_reducible refine And.intro ?_ ?_; · first | trivial | omega | (intro hg; simp only [Bool.and_eq_true, Bool.or_eq_true, Bool.not_eq_true', Bool.and_eq_false_iff, Bool.or_eq_false_iff, Bool.not_eq_false', decide_eq_true_eq, decide_eq_false_iff_not, eqNil] at hg; omega) )
          apply hK; clear hK K
          refine awp_ret ?_
          try simp only [thenA_ret, inBlockA_ret]
          refine retA_ret h ((Sub.set hnn).trans (Sub.bldH (by rw [AHeap.set_ne _ _ hne.symm]; exact hk7q0) s1)) (resPre_tmp (resPre_tmp (resPre_nil))) ?_
          simp (decide := true) only [Slots.get, if_true, if_false, resOf_two]
          rw [← g5, if_pos (by rw [← s2]; omega)]
          exact ⟨rfl, Sub.refl _⟩
        · try simp only [decide_eq_false_iff_not] at hb5
          refine awp_skip ?_
          change Awp _ _ _ _ _ _ _
          -- region 17  columns.go:243
          refine awp_r [6, 47, 48, 49] (by rfl) ?_
          simp (decide := true) only [aOps_nil, ev, absV, absS, putD, Slots.put, Slots.get, Slots.keep, if_true, if_false, true_and, ↓ap_binOp, pop_binOp, isNilC_int, cond_false, pBinX_int, pI_add, ↓ap_move, pop_move]
          try simp (disch := omega) only [wrap_i64]
          repeat (with_reducible refine And.intro ?_ ?_; · first | trivial | omega | (intro hg; simp only [Bool.and_eq_true, Bool.or_eq_true, Bool.not_eq_true', Bool.and_eq_false_iff, Bool.or_eq_false_iff, Bool.not_eq_false', decide_eq_true_eq, decide_eq_false_iff_not, eqNil] at hg; omega) )
          try simp only [thenA_normal]
          refine ⟨⟨i + 1, (textE (x.2.length + 1) cl [32] false n st.bytes x.2).1, st'⟩, rfl, Sub.bldH_both (Sub.set hnn), ⟨hi', by simp only; omega, s3, by simp only; omega, ?_⟩, by simp only; omega⟩
          rw [if_neg (by rw [← s2]; omega), ← s2] at g5
          exact g5
    · try simp only [decide_eq_false_iff_not] at hb3
      have he : i = ls.length := by omega
      rw [he, List.drop_length, writeGo] at g5
      rw [← g5]
      refine awp_exit ?_
      change Awp _ _ _ _ _ _ _
      -- region 18  columns.go:253
      refine awp_rseq [2, 3] (by rfl) fun K hK => ?_
      simp (decide := true) only [ev, putD, Slots.put, Slots.get, if_true, if_false, true_and, ↓ap_fieldAddr, pop_fieldAddr, fa65_0, Nat.zero_add]
      repeat (with_reducible refine And.intro ?_ ?_; · first | trivial | omega | (intro hg; simp only [Bool.and_eq_true, Bool.or_eq_true, Bool.not_eq_true', Bool.and_eq_false_iff, Bool.or_eq_false_iff, Bool.not_eq_false', decide_eq_true_eq, decide_eq_false_iff_not, eqNil] at hg; omega) )
      refine aOps_call (by rfl) (by rfl) (c_bString w₀ h k7q0 [.int .i64 n] st 65 hk7q0 ht7q0 g3 (by omega)) fun x18q1 h18q1 hx18q1 => ?_
      obtain ⟨rfl, q18⟩ := hx18q1
      subst h18q1
      simp (decide := true) only [aOps_nil, ev, absV, absS, putD, Slots.put, Slots.get, Slots.keep, if_true, if_false, true_and, ↓ap_assign, pop_assign]
      repeat (with_reducible refine And.intro ?_ ?_; · first | trivial | omega | (intro hg; simp only [Bool.and_eq_true, Bool.or_eq_true, Bool.not_eq_true', Bool.and_eq_false_iff, Bool.or_eq_false_iff, Bool.not_eq_false', decide_eq_true_eq, decide_eq_false_iff_not, eqNil] at hg; omega) )
      apply hK; clear hK K
      refine awp_ret ?_
      try simp only
      refine retA_ret h (by repeat (first | exact Sub.refl _ | assumption | refine Sub.trans_set ?_ (by assumption))) (resPre_tmp (resPre_tmp (resPre_nil))) ?_
      simp (decide := true) only [Slots.get, if_true, if_false, true_and, resOf_two]
      exact Sub.refl _
end Go.Proofs.YtikpnhdjjabdmaaDoor

/-
  Contracts: spaces, right, plain, digits, divide of the laws; Open, Squeeze of the reference.
  Conditions: none.
-/
namespace Go.Proofs.YtikpnhdjjabdmaaDoor
open Go.AM
open Go.Proofs
open Go.Col
set_option maxRecDepth 100000

theorem c_spaces (w₀ : World) (h : AHeap) (n : Nat) (hn : n ≤ 1000000) : ACall Tryd.prog w₀ 14 [.int .i64 n] h (fun v h' => v = .str (sp n) ∧ h' = h) := by
  refine acall_intro (n := 5) (rs := [.tmp 2]) Tryd.func14 rfl rfl rfl rfl (Nat.le_of_ble_eq_true rfl) ?_
  simp only [initSlots]
  -- region 0  law.go:13
  refine awp_rseq [0] (by rfl) fun K hK => ?_
  simp (decide := true) only [aOps_nil, ev, absV, absS, putD, Slots.put, Slots.keep, if_true, if_false, true_and, ↓ap_assign, pop_assign]
  repeat (with_reducible refine And.intro ?_ ?_; · first | trivial | omega | (intro hg; simp only [Bool.and_eq_true, Bool.or_eq_true, Bool.not_eq_true', Bool.and_eq_false_iff, Bool.or_eq_false_iff, Bool.not_eq_false', decide_eq_true_eq, decide_eq_false_iff_not, eqNil] at hg; omega) )
  apply hK; clear hK K
  -- region 1  law.go:13
  refine awp_rseq [2] (by rfl) fun K hK => ?_
  simp (decide := true) only [ev, putD, Slots.put, Slots.get, if_true, if_false, true_and, ↓ap_move, pop_move]
  repeat (with_reducible refine And.intro ?_ ?_; · first | trivial | omega | (intro hg; simp only [Bool.and_eq_true, Bool.or_eq_true, Bool.not_eq_true', Bool.and_eq_false_iff, Bool.or_eq_false_iff, Bool.not_eq_false', decide_eq_true_eq, decide_eq_false_iff_not, eqNil] at hg; omega) )
  refine aOps_callV (V := .str (sp n)) (by rfl) (by rfl) (c_repeat w₀ _ 32 _ (by omega)) ?_
  simp (decide := true) only [aOps_nil, ev, putD, Slots.put, Slots.get, Slots.keep, if_true, if_false, true_and, ↓ap_assign, pop_assign]
  repeat (with_reducible refine And.intro ?_ ?_; · first | trivial | omega | (intro hg; simp only [Bool.and_eq_true, Bool.or_eq_true, Bool.not_eq_true', Bool.and_eq_false_iff, Bool.or_eq_false_iff, Bool.not_eq_false', decide_eq_true_eq, decide_eq_false_iff_not, eqNil] at hg; omega) )
  apply hK; clear hK K
  refine awp_ret ?_
  try simp only [thenA_ret, inBlockA_ret]
  refine retA_ret _ (Sub.refl _) (resPre_tmp (resPre_nil)) ?_
  simp (decide := true) only [Slots.get, if_true, and_true, resOf_one]
  all_goals first | rfl | exact ⟨rfl, rfl⟩ | (simp (decide := true) only [if_true, if_false, *]; done) | (trace_state; fail)
end Go.Proofs.YtikpnhdjjabdmaaDoor

/-
  Contracts: read of the laws.
  Conditions: none.
-/
namespace Go.Proofs.YtikpnhdjjabdmaaDoor
open Go.AM
open Go.Proofs
open Go.Col
set_option maxRecDepth 100000

theorem readL_small (dbg : Bool) : ∀ (ls : List Str) (n : Int) (x : Rd) (N : Nat), RdSm N x → RdSm (N + ls.length) (readL dbg ls n x).1
  | [], _, x, N, h => h
  | s :: ls, n, x, N, h => by
    have hl := (lineE_small (s := s) (line := n) (dbg := dbg)).1
    have e : N + (s :: ls).length = (N + 1) + ls.length := by rw [List.length_cons]; omega
    have up : ∀ k {y : Rd}, RdSm (N + 1) y → RdSm (N + 1 + k) y := fun k y hy => by
      induction k with
      | zero => exact hy
      | succ k ih => exact ih.next
    rw [readL]
    cases hp : lineE s n dbg with
    | mk r q =>
      obtain ⟨cn, f⟩ := q
      rw [hp] at hl
      simp only
      split
      · rw [e]; exact readL_small dbg ls _ x (N + 1) h.next
      · split
        · split
          · rw [e]; exact readL_small dbg ls _ _ (N + 1) (takeE_small h (by have : r.text.length ≤ 65 := hl; omega))
          · rw [e]; exact up _ (takeE_small h (by have : r.text.length ≤ 65 := hl; omega))
        · rw [e]; exact up _ h.next
theorem readE_small (text : Str) (dbg : Bool) : (readE text dbg).1.length ≤ text.length + 1 ∧ ∀ c ∈ (readE text dbg).1, c.text.length ≤ 80 * (text.length + 1) ∧ c.marks.length ≤ text.length + 1 := by
  have h := readL_small dbg (splitNL (trimNL text)) 1 .start 0 ⟨Nat.zero_le _, fun c hc => by cases hc⟩
  have h1 := splitNL_len (trimNL text)
  have h2 := trimNL_len text
  unfold readE
  split
  · exact ⟨Nat.zero_le _, fun c hc => by cases hc⟩
  · simp only
    split
    · exact ⟨Nat.zero_le _, fun c hc => by cases hc⟩
    · split
      · exact ⟨Nat.zero_le _, fun c hc => by cases hc⟩
      · exact ⟨by have := h.many; simp only; omega, fun c hc => by have := h.small c hc; omega⟩
theorem join_len {sep : Str} {m : Nat} : ∀ {l : List Str}, (∀ x ∈ l, x.length ≤ m) → (Lib.join l sep).length ≤ l.length * (m + sep.length)
  | [], _ => by simp [Lib.join]
  | [x], h => by
    have := h x (by simp)
    simp [Lib.join]
    omega
  | x :: y :: l, h => by
    have ih := join_len (sep := sep) (l := y :: l) fun z hz => h z (by simp [hz])
    have hx := h x (by simp)
    have e : Lib.join (x :: y :: l) sep = x ++ sep ++ Lib.join (y :: l) sep := by
      unfold Lib.join
      rw [List.intercalate_cons_cons]
    rw [e]
    simp only [List.length_append]
    have : (x :: y :: l).length * (m + sep.length) = (y :: l).length * (m + sep.length) + (m + sep.length) := by
      rw [List.length_cons, Nat.add_mul, Nat.one_mul]
    omega
def cardS (c : CardC) : Str := c.text ++ if c.left = true then [60] else []
/-- The cards' texts behind one another, or the fault. -/
def readT (text : Str) : Str × FaultC := (Lib.join ((readE text false).1.map cardS) [124], (readE text false).2)
theorem IsCards_nth {w₀ : World} {h : AHeap} {l : AM.Loc} {o n : Nat} {cp : Cap} {cs : List CardC} (hc : IsCards w₀ h (.slice l o n cp) cs) {i : Nat} (hi : i < cs.length) :
    ∃ mv, IsL w₀ h 3 mv ((cs.getD i ⟨false, [], []⟩).marks.map markC) ∧ rd w₀ h l (o + i * 3) = .bool (cs.getD i ⟨false, [], []⟩).left ∧ rd w₀ h l (o + i * 3 + 1) = .str (cs.getD i ⟨false, [], []⟩).text ∧ rd w₀ h l (o + i * 3 + 2) = mv := by
  obtain ⟨ps, rfl, h2, h3⟩ := hc
  rw [List.length_map] at hi
  have he := h2.elem (i := i) (by rw [List.length_map]; exact hi)
  rw [getD_map (⟨false, [], []⟩, .dead) hi] at he
  have hg : (ps.map (·.1)).getD i ⟨false, [], []⟩ = (ps.getD i (⟨false, [], []⟩, .dead)).1 := by
    simp [List.getD, hi]
  rw [hg]
  have hm : ps.getD i (⟨false, [], []⟩, .dead) ∈ ps := by rw [List.getD, List.getElem?_eq_getElem hi]; exact List.getElem_mem hi
  simp only [cellsAt, cell3, List.cons.injEq, and_true] at he
  exact ⟨_, h3 _ hm, he.1, he.2.1, he.2.2⟩
theorem IsCards.live {w₀ : World} {h : AHeap} {v : AVal} {cs : List CardC} (hc : IsCards w₀ h v cs) : v.live = true := by
  obtain ⟨ps, rfl, h2, h3⟩ := hc
  exact h2.live
theorem IsCards.len {w₀ : World} {h : AHeap} {v : AVal} {cs : List CardC} (hc : IsCards w₀ h v cs) : pLen Tryd.prog 30 v = ⟨True, .int .i64 cs.length⟩ := by
  obtain ⟨ps, rfl, h2, h3⟩ := hc
  have := h2.len Tryd.underlying30
  rw [List.length_map] at this ⊢
  exact this
theorem IsCards.open {w₀ : World} {h : AHeap} {v : AVal} {cs : List CardC} (hc : IsCards w₀ h v cs) (hn : 0 < cs.length) : ∃ l o c, v = .slice l o cs.length c := by
  obtain ⟨ps, rfl, h2, h3⟩ := hc
  obtain ⟨l, o, c, e⟩ := h2.open (fun e => by rw [List.map_eq_nil_iff] at e; subst e; simp at hn)
  rw [List.length_map] at e ⊢
  exact ⟨l, o, c, e⟩
def strC (s : Str) : List AVal := [.str s]
structure RtOk (cs : List CardC) (H : AHeap) (g : Nat × Option Buf) : Prop where
  i : g.1 ≤ cs.length
  ok : bufOk H 1 g.2
  eq : bufC g.2 = ((cs.take g.1).map fun c => strC (cardS c)).flatten
theorem c_read1 (w₀ : World) (hm : MaxL w₀) (h : AHeap) (text : Str) (hl : text.length ≤ 100000) : ACall Tryd.prog w₀ 20 [.str text] h (fun v h' => v = .tuple [.str (readT text).1, faultA (readT text).2] ∧ Sub h h') := by
  obtain ⟨z1, z2⟩ := readE_small text false
  refine acall_intro (n := 39) (rs := [.tmp 2, .cell 3 34]) Tryd.func20 rfl rfl rfl rfl (Nat.le_of_ble_eq_true rfl) ?_
  simp only [initSlots]
  -- region 0  law.go:16
  refine awp_rseq [0, 3] (by rfl) fun K hK => ?_
  simp (decide := true) only [ev, absV, absS, putD, Slots.put, if_false, true_and, ↓ap_assign, pop_assign]
  repeat (with_reducible refine And.intro ?_ ?_; · first | trivial | omega | (intro hg; simp only [Bool.and_eq_true, Bool.or_eq_true, Bool.not_eq_true', Bool.and_eq_false_iff, Bool.or_eq_false_iff, Bool.not_eq_false', decide_eq_true_eq, decide_eq_false_iff_not, eqNil] at hg; omega) | (simp only [List.length_append, List.length_map, List.length_range, List.length_replicate, List.length_take, List.length_drop, List.length_cons, List.length_nil, List.length_set, List.length_reverse]; omega))
  refine aOps_alloc ze34 (cs := [.int .i64 0, .int .i64 0, .int .i64 0]) (by rfl) fun k0q1 hk0q1 => ?_
  try have hf_0q1 : h k0q1 = none := by first | assumption | (simp only [AHeap.set_none] at hk0q1; simp only [hk0q1])
  simp (decide := true) only [aOps_nil, putD, Slots.put, Slots.keep, if_true, if_false]
  repeat (with_reducible refine And.intro ?_ ?_; · first | trivial | omega | (intro hg; simp only [Bool.and_eq_true, Bool.or_eq_true, Bool.not_eq_true', Bool.and_eq_false_iff, Bool.or_eq_false_iff, Bool.not_eq_false', decide_eq_true_eq, decide_eq_false_iff_not, eqNil] at hg; omega) | (simp only [List.length_append, List.length_map, List.length_range, List.length_replicate, List.length_take, List.length_drop, List.length_cons, List.length_nil, List.length_set, List.length_reverse]; omega))
  apply hK; clear hK K
  -- region 1  law.go:17
  refine awp_rseq [3, 4, 5] (by rfl) fun K hK => ?_
  simp (decide := true) only [ev, putD, Slots.put, Slots.get, if_true, if_false, true_and, ↓ap_move, pop_move]
  repeat (with_reducible refine And.intro ?_ ?_; · first | trivial | omega | (intro hg; simp only [Bool.and_eq_true, Bool.or_eq_true, Bool.not_eq_true', Bool.and_eq_false_iff, Bool.or_eq_false_iff, Bool.not_eq_false', decide_eq_true_eq, decide_eq_false_iff_not, eqNil] at hg; omega) | (simp only [List.length_append, List.length_map, List.length_range, List.length_replicate, List.length_take, List.length_drop, List.length_cons, List.length_nil, List.length_set, List.length_reverse]; omega))
  refine aOps_call (by rfl) (by rfl) (c_Read w₀ hm _ text false (by omega)) fun x1q1 h1q1 hx1q1 => ?_
  obtain ⟨cv, rfl, hc, hs1⟩ := hx1q1
  obtain ⟨cs, hcs⟩ : ∃ cs, cs = (readE text false).1 := ⟨_, rfl⟩
  obtain ⟨f, hf⟩ : ∃ f, f = (readE text false).2 := ⟨_, rfl⟩
  rw [← hcs] at hc z1 z2
  rw [← hf]
  have hs_h1q1 : Sub h h1q1 := Sub.trans (by repeat (first | exact Sub.refl _ | assumption | refine Sub.trans_set ?_ (by assumption))) hs1
  have hr_h1q1 := hs_h1q1
  have eb_0q1 := hs1 k0q1 _ (by repeat (first | exact AHeap.set_same _ _ _ | assumption | refine (AHeap.set_ne _ _ (by first | assumption | exact Ne.symm (by assumption))).trans ?_))
  simp (decide := true) only [ev, putD, Slots.put, Slots.get, if_true, if_false, true_and, ↓ap_move, pop_move, ↓ap_extract, pop_extract, pExt_tuple, List.length_cons, List.length_nil, List.getD_cons_zero, List.getD_cons_succ, List.getD_cons_zero, List.getD_cons_succ, Nat.zero_add, Nat.reduceAdd, faultA]
  repeat (with_reducible refine And.intro ?_ ?_; · first | trivial | omega | (intro hg; simp only [Bool.and_eq_true, Bool.or_eq_true, Bool.not_eq_true', Bool.and_eq_false_iff, Bool.or_eq_false_iff, Bool.not_eq_false', decide_eq_true_eq, decide_eq_false_iff_not, eqNil] at hg; omega) | (simp only [List.length_append, List.length_map, List.length_range, List.length_replicate, List.length_take, List.length_drop, List.length_cons, List.length_nil, List.length_set, List.length_reverse]; omega))
  refine aOps_alloc ze34 (cs := [.int .i64 0, .int .i64 0, .int .i64 0]) (by rfl) fun k1q5 hk1q5 => ?_
  have hn_1q5 : h1q1 k1q5 = none := by first | assumption | (simp only [AHeap.set_none] at hk1q5; simp only [hk1q5])
  have hf_1q5 : h k1q5 = none := Sub.none hs_h1q1 hn_1q5
  have ne_1q5_0q1 : k1q5 ≠ k0q1 := AHeap.ne_some hn_1q5 eb_0q1
  simp (decide := true) only [ev, putD, Slots.put, Slots.get, if_true, if_false, true_and, ↓ap_assign, pop_assign]
  repeat (with_reducible refine And.intro ?_ ?_; · first | trivial | omega | (intro hg; simp only [Bool.and_eq_true, Bool.or_eq_true, Bool.not_eq_true', Bool.and_eq_false_iff, Bool.or_eq_false_iff, Bool.not_eq_false', decide_eq_true_eq, decide_eq_false_iff_not, eqNil] at hg; omega) | (simp only [List.length_append, List.length_map, List.length_range, List.length_replicate, List.length_take, List.length_drop, List.length_cons, List.length_nil, List.length_set, List.length_reverse]; omega))
  refine aOps_store (by rfl) (by rfl) (by repeat (first | exact AHeap.set_same _ _ _ | assumption | refine (AHeap.set_ne _ _ (by first | assumption | exact Ne.symm (by assumption))).trans ?_)) sz34 (by rfl) (by rfl) (by first | exact Nat.le_refl _ | decide | (simp; done) | (simp; omega)) (Nat.zero_le _) (by rfl) ?_
  simp only [AHeap.set_set, AVal.cells]
  simp (decide := true) only [aOps_nil, ev, putD, Slots.get, Slots.keep, if_true, if_false, setAt, List.set_cons_zero, List.set_cons_succ, Nat.zero_add, Nat.reduceAdd]
  repeat (with_reducible refine And.intro ?_ ?_; · first | trivial | omega | (intro hg; simp only [Bool.and_eq_true, Bool.or_eq_true, Bool.not_eq_true', Bool.and_eq_false_iff, Bool.or_eq_false_iff, Bool.not_eq_false', decide_eq_true_eq, decide_eq_false_iff_not, eqNil] at hg; omega) | (simp only [List.length_append, List.length_map, List.length_range, List.length_replicate, List.length_take, List.length_drop, List.length_cons, List.length_nil, List.length_set, List.length_reverse]; omega))
  apply hK; clear hK K
  -- region 2  law.go:18
  refine awp_rseq [3, 4, 5, 6] (by rfl) fun K hK => ?_
  simp (decide := true) only [aOps_nil, ev, absV, absS, putD, Slots.put, Slots.keep, if_true, if_false, true_and, ↓ap_assign, pop_assign]
  repeat (with_reducible refine And.intro ?_ ?_; · first | trivial | omega | (intro hg; simp only [Bool.and_eq_true, Bool.or_eq_true, Bool.not_eq_true', Bool.and_eq_false_iff, Bool.or_eq_false_iff, Bool.not_eq_false', decide_eq_true_eq, decide_eq_false_iff_not, eqNil] at hg; omega) | (simp only [List.length_append, List.length_map, List.length_range, List.length_replicate, List.length_take, List.length_drop, List.length_cons, List.length_nil, List.length_set, List.length_reverse]; omega))
  apply hK; clear hK K
  refine awp_seq ?_
  -- region 3  law.go:19
  refine awp_rseq [3, 4, 5, 6, 7] (by rfl) fun K hK => ?_
  simp (decide := true) only [aOps_nil, ev, absV, absS, putD, Slots.put, Slots.keep, if_true, if_false, true_and, ↓ap_assign, pop_assign]
  repeat (with_reducible refine And.intro ?_ ?_; · first | trivial | omega | (intro hg; simp only [Bool.and_eq_true, Bool.or_eq_true, Bool.not_eq_true', Bool.and_eq_false_iff, Bool.or_eq_false_iff, Bool.not_eq_false', decide_eq_true_eq, decide_eq_false_iff_not, eqNil] at hg; omega) | (simp only [List.length_append, List.length_map, List.length_range, List.length_replicate, List.length_take, List.length_drop, List.length_cons, List.length_nil, List.length_set, List.length_reverse]; omega))
  apply hK; clear hK K
  refine awp_block ?_
  refine awp_loopG [3, 4, 5, 6, 7] (fun g : Nat × Option Buf => [(3, .ptr (.own k0q1) 0), (4, cv), (5, .ptr (.own k1q5) 0), (6, bufV 1 g.2), (7, .int .i64 g.1)]) (fun g : Nat × Option Buf => bufH (h1q1.set k1q5 ⟨[.int .i64 f.e, .int .i64 f.line, .int .i64 f.col], 0⟩) g.2) (fun g : Nat × Option Buf => RtOk cs (h1q1.set k1q5 ⟨[.int .i64 f.e, .int .i64 f.line, .int .i64 f.col], 0⟩) g) (fun g : Nat × Option Buf => cs.length - g.1) (0, none) (by rfl) (Sub.refl _) ⟨Nat.zero_le _, trivial, rfl⟩ ?_
  rintro ⟨i, b⟩ ⟨g1, g2, g3⟩
  simp only at g1 g2 g3 ⊢
  have hcb := hc.mono ((Sub.set hn_1q5).trans (Sub.buf g2))
  have hlv := hc.live
  have hln := hcb.len
  have hbl := bufV_live 1 b
  refine awp_seq ?_
  -- region 4  law.go:19
  refine awp_rseq [3, 4, 5, 6, 7, 17] (by rfl) fun K hK => ?_
  simp (decide := true) only [aOps_nil, ev, putD, Slots.put, Slots.get, Slots.keep, if_true, if_false, true_and, ↓ap_move, pop_move, ↓ap_len, pop_len, ↓ap_binOp, pop_binOp, isNilC_tmp, cond_false, pBinX_int, pI_lss, hln]
  repeat (with_reducible refine And.intro ?_ ?_; · first | trivial | omega | (intro hg; simp only [Bool.and_eq_true, Bool.or_eq_true, Bool.not_eq_true', Bool.and_eq_false_iff, Bool.or_eq_false_iff, Bool.not_eq_false', decide_eq_true_eq, decide_eq_false_iff_not, eqNil] at hg; omega) | (simp only [List.length_append, List.length_map, List.length_range, List.length_replicate, List.length_take, List.length_drop, List.length_cons, List.length_nil, List.length_set, List.length_reverse]; omega))
  apply hK; clear hK K
  refine awp_cond (b := _) rfl (fun hb1 => ?_) (fun hb1 => ?_)
  · try simp only [decide_eq_true_eq] at hb1
    have hi : i < cs.length := by omega
    obtain ⟨l, o, cp, rfl⟩ := hcb.open (by omega)
    obtain ⟨mv, e3, e0, e1, e2⟩ := IsCards_nth hcb hi
    obtain ⟨c, hcc⟩ : ∃ c, c = cs.getD i ⟨false, [], []⟩ := ⟨_, rfl⟩
    rw [← hcc] at e0 e1
    have hcl : c.text.length ≤ 80 * (text.length + 1) := by
      rw [hcc, List.getD, List.getElem?_eq_getElem hi]; exact (z2 _ (List.getElem_mem hi)).1
    refine awp_skip ?_
    change Awp _ _ _ _ _ _ _
    refine awp_seq ?_
    refine awp_block ?_
    -- region 6  law.go:20
    refine awp_rseq [3, 4, 5, 6, 7, 8] (by rfl) fun K hK => ?_
    simp (decide := true) only [aOps_nil, ev, putD, Slots.put, Slots.get, Slots.keep, if_true, if_false, true_and, ↓ap_move, pop_move, ↓ap_indexAddrL, apL_mk, pIndexAddr_slice Tryd.underlying30 sz39, ↓ap_fieldAddr, pop_fieldAddr, fa39_1, ↓ap_loadL, pLoad_one ag9, ↓ap_assign, pop_assign, lv_str, e1, Int.toNat_natCast]
    repeat (with_reducible refine And.intro ?_ ?_; · first | trivial | omega | (intro hg; simp only [Bool.and_eq_true, Bool.or_eq_true, Bool.not_eq_true', Bool.and_eq_false_iff, Bool.or_eq_false_iff, Bool.not_eq_false', decide_eq_true_eq, decide_eq_false_iff_not, eqNil] at hg; omega) | (simp only [List.length_append, List.length_map, List.length_range, List.length_replicate, List.length_take, List.length_drop, List.length_cons, List.length_nil, List.length_set, List.length_reverse]; omega))
    apply hK; clear hK K
    refine awp_seq ?_
    -- region 7  law.go:21
    refine awp_rseq [3, 4, 5, 6, 7, 8, 29] (by rfl) fun K hK => ?_
    simp (decide := true) only [aOps_nil, ev, putD, Slots.put, Slots.get, Slots.keep, if_true, if_false, true_and, ↓ap_move, pop_move, ↓ap_indexAddrL, apL_mk, pIndexAddr_slice Tryd.underlying30 sz39, ↓ap_fieldAddr, pop_fieldAddr, fa39_0, ↓ap_loadL, pLoad_one ag4, lv_bool, Nat.add_zero, e0, Int.toNat_natCast]
    repeat (with_reducible refine And.intro ?_ ?_; · first | trivial | omega | (intro hg; simp only [Bool.and_eq_true, Bool.or_eq_true, Bool.not_eq_true', Bool.and_eq_false_iff, Bool.or_eq_false_iff, Bool.not_eq_false', decide_eq_true_eq, decide_eq_false_iff_not, eqNil] at hg; omega) | (simp only [List.length_append, List.length_map, List.length_range, List.length_replicate, List.length_take, List.length_drop, List.length_cons, List.length_nil, List.length_set, List.length_reverse]; omega))
    apply hK; clear hK K
    refine awp_joinT [3, 4, 5, 6, 7, 8] (fun z : Unit => [(3, .ptr (.own k0q1) 0), (4, .slice l o cs.length cp), (5, .ptr (.own k1q5) 0), (6, bufV 1 b), (7, .int .i64 i), (8, .str (cardS c))]) (fun z : Unit => bufH (h1q1.set k1q5 ⟨[.int .i64 f.e, .int .i64 f.line, .int .i64 f.col], 0⟩) b) (fun z : Unit => True) ?_ ?_
    · refine awp_cond (b := _) rfl (fun hb2 => ?_) (fun hb2 => ?_)
      · try simp only [decide_eq_true_eq, decide_eq_false_iff_not, Bool.not_eq_true', Bool.not_eq_false', Bool.and_eq_true, Bool.and_eq_false_iff, Bool.or_eq_true, Bool.or_eq_false_iff, Bool.true_eq, Bool.false_eq, reduceCtorEq] at hb2
        -- region 8  law.go:22
        refine awp_r [3, 4, 5, 6, 7, 8] (by rfl) ?_
        simp (decide := true) only [aOps_nil, ev, absV, absS, putD, Slots.put, Slots.get, Slots.keep, if_true, if_false, true_and, and_true, ↓ap_move, pop_move, ↓ap_binOp, pop_binOp, isNilC_str, cond_false, pBinX_str, pS_add, ↓ap_assign, pop_assign, faultA]
        repeat (with_reducible refine And.intro ?_ ?_; · first | trivial | omega | (intro hg; simp only [Bool.and_eq_true, Bool.or_eq_true, Bool.not_eq_true', Bool.and_eq_false_iff, Bool.or_eq_false_iff, Bool.not_eq_false', decide_eq_true_eq, decide_eq_false_iff_not, eqNil] at hg; omega) | (simp only [List.length_cons, List.length_nil]; omega))
        try simp only [thenA_normal]
        have hcs2 : cardS c = c.text ++ if c.left = true then [60] else [] := rfl
        rw [hb2] at hcs2
        first
        | refine ⟨(), ?_, Sub.refl _, trivial⟩
        | refine ⟨(), ?_, Sub.refl _⟩
        first
        | (rw [hcs2]; rfl)
        | (rw [hcs2, if_neg (by decide), List.append_nil]; rfl)
      · try simp only [decide_eq_true_eq, decide_eq_false_iff_not, Bool.not_eq_true', Bool.not_eq_false', Bool.and_eq_true, Bool.and_eq_false_iff, Bool.or_eq_true, Bool.or_eq_false_iff, Bool.true_eq, Bool.false_eq, reduceCtorEq] at hb2
        refine awp_skip ?_
        try simp only [thenA_normal]
        have hcs2 : cardS c = c.text ++ if c.left = true then [60] else [] := rfl
        rw [hb2] at hcs2
        first
        | refine ⟨(), ?_, Sub.refl _, trivial⟩
        | refine ⟨(), ?_, Sub.refl _⟩
        first
        | (rw [hcs2]; rfl)
        | (rw [hcs2, if_neg (by decide), List.append_nil]; rfl)
    · intro _ _
      -- region 9  law.go:24
      refine awp_r [3, 4, 5, 6, 7] (by rfl) ?_
      simp (decide := true) only [ev, putD, Slots.put, Slots.get, if_true, if_false, true_and, ↓ap_move, pop_move, faultA]
      repeat (with_reducible refine And.intro ?_ ?_; · first | trivial | omega | (intro hg; simp only [Bool.and_eq_true, Bool.or_eq_true, Bool.not_eq_true', Bool.and_eq_false_iff, Bool.or_eq_false_iff, Bool.not_eq_false', decide_eq_true_eq, decide_eq_false_iff_not, eqNil] at hg; omega) | (simp only [List.length_append, List.length_map, List.length_range, List.length_replicate, List.length_take, List.length_drop, List.length_cons, List.length_nil, List.length_set, List.length_reverse]; omega))
      refine aOps_buildSlice (cs := [.str (cardS c)]) (by kernel_rfl) fun k9q2 hk9q2 => ?_
      try have hf_9q2 : h k9q2 = none := by first | assumption | (simp only [AHeap.set_none] at hk9q2; simp only [hk9q2])
      refine aOps_appendL (es := 1) (zs := (cs.take i).map fun c => strC (cardS c)) (xs := [strC (cardS c)]) (h₀ := h1q1.set k1q5 ⟨[.int .i64 f.e, .int .i64 f.line, .int .i64 f.col], 0⟩) (b := b) (by rfl) (by rfl) Tryd.underlying40 Tryd.underlying40 (fun k e => by cases e) sz9 by9 ze9 (by rfl) (by decide) (by rfl) g2 g3 (fun y hy => by obtain ⟨d, _, rfl⟩ := List.mem_map.1 hy; rfl) (Sub.set hk9q2) (by rfl) (IsL.own (AHeap.set_same _ _ _) (by simp [strC]) (by rfl) (by rfl) (.exact 1) (Nat.le_refl _)) (by rfl) (by simp; omega) (by simp; omega) fun b' h5 o1 o2 o3 => ?_
      have hbl' := bufV_live 1 b'
      simp (decide := true) only [aOps_nil, ev, putD, Slots.put, Slots.get, Slots.keep, if_true, if_false, true_and, ↓ap_assign, pop_assign]
      repeat (with_reducible refine And.intro ?_ ?_; · first | trivial | omega | (intro hg; simp only [Bool.and_eq_true, Bool.or_eq_true, Bool.not_eq_true', Bool.and_eq_false_iff, Bool.or_eq_false_iff, Bool.not_eq_false', decide_eq_true_eq, decide_eq_false_iff_not, eqNil] at hg; omega) | (simp only [List.length_append, List.length_map, List.length_range, List.length_replicate, List.length_take, List.length_drop, List.length_cons, List.length_nil, List.length_set, List.length_reverse]; omega))
      change Awp _ _ _ _ _ _ _
      -- region 5  law.go:19
      refine awp_r [3, 4, 5, 6, 7] (by rfl) ?_
      simp (decide := true) only [aOps_nil, ev, absV, absS, putD, Slots.put, Slots.get, Slots.keep, if_true, if_false, true_and, ↓ap_move, pop_move, ↓ap_binOp, pop_binOp, isNilC_int, cond_false, pBinX_int, pI_add, ↓ap_assign, pop_assign]
      try simp (disch := omega) only [wrap_i64]
      repeat (with_reducible refine And.intro ?_ ?_; · first | trivial | omega | (intro hg; simp only [Bool.and_eq_true, Bool.or_eq_true, Bool.not_eq_true', Bool.and_eq_false_iff, Bool.or_eq_false_iff, Bool.not_eq_false', decide_eq_true_eq, decide_eq_false_iff_not, eqNil] at hg; omega) | (simp only [List.length_append, List.length_map, List.length_range, List.length_replicate, List.length_take, List.length_drop, List.length_cons, List.length_nil, List.length_set, List.length_reverse]; omega))
      try simp only [thenA_normal]
      refine ⟨(i + 1, b'), rfl, o3, ⟨hi, o1, ?_⟩, by simp only; omega⟩
      simp only
      have ht : cs.take (i + 1) = cs.take i ++ [c] := by
        rw [List.take_add_one, List.getElem?_eq_getElem hi, hcc]
        simp [List.getD, hi]
      rw [o2, ht, List.map_append]
      rfl
  · try simp only [decide_eq_false_iff_not] at hb1
    refine awp_exit ?_
    change Awp _ _ _ _ _ _ _
    obtain ⟨B, hB⟩ : ∃ B, B = bufH (h1q1.set k1q5 ⟨[.int .i64 f.e, .int .i64 f.line, .int .i64 f.col], 0⟩) b := ⟨_, rfl⟩
    have hs_B : Sub h B := by rw [hB]; exact (hs_h1q1.trans (Sub.set hn_1q5)).trans (Sub.buf g2)
    have eb_1q5 : B k1q5 = some ⟨[.int .i64 f.e, .int .i64 f.line, .int .i64 f.col], 0⟩ := by rw [hB]; exact bufAt g2 (AHeap.set_same _ _ _)
    replace eb_0q1 : B k0q1 = some ⟨[.int .i64 0, .int .i64 0, .int .i64 0], 0⟩ := by rw [hB]; exact bufAt g2 ((AHeap.set_ne _ _ ne_1q5_0q1.symm).trans eb_0q1)
    have he : i = cs.length := by omega
    rw [he, List.take_length] at g3
    have hst : IsStrs w₀ B (bufV 1 b) (cs.map cardS) := by
      have := IsL.buf (w₀ := w₀) g2 (by decide) (by rw [g3]) (by simp [strC]) (h := B) (by rw [hB]; exact Sub.refl _)
      unfold IsStrs
      rw [List.map_map]
      exact this
    have hjl : (Lib.join (cs.map cardS) [124]).length ≤ 140737488355328 := by
      refine Nat.le_trans (join_len (m := 80 * (text.length + 1) + 1) fun y hy => ?_) ?_
      · obtain ⟨d, hd, rfl⟩ := List.mem_map.1 hy
        have := (z2 d hd).1
        unfold cardS
        rw [List.length_append]
        split <;> simp <;> omega
      · rw [List.length_map]
        exact Nat.le_trans (Nat.mul_le_mul (Nat.le_trans z1 (by omega : text.length + 1 ≤ 100001)) (by simp; omega : _ ≤ 8000082)) (by decide)
    have hrt : readT text = (Lib.join (cs.map cardS) [124], f) := by unfold readT; rw [← hcs, ← hf]
    rw [← hB]
    -- region 10  law.go:26
    refine awp_dseq_anyT 4 [2, 3] mixed (by kernel_rfl) (by rfl) fun K hK => ?_
    simp only [List.take_succ_cons, List.take_zero, List.drop_succ_cons, List.drop_zero]
    simp (decide := true) only [ev, putD, Slots.put, Slots.get, if_true, if_false, true_and, ↓vp_move, pop_move]
    repeat (with_reducible refine And.intro ?_ ?_; · first | trivial | omega | (intro hg; simp only [Bool.and_eq_true, Bool.or_eq_true, Bool.not_eq_true', Bool.and_eq_false_iff, Bool.or_eq_false_iff, Bool.not_eq_false', decide_eq_true_eq, decide_eq_false_iff_not, eqNil] at hg; omega) | (simp only [List.length_append, List.length_map, List.length_range, List.length_replicate, List.length_take, List.length_drop, List.length_cons, List.length_nil, List.length_set, List.length_reverse]; omega))
    refine vOps_callV (V := .str (Lib.join (cs.map cardS) [124])) (by rfl) (by rfl) (c_join w₀ _ _ _ _ hst (by simp; omega) hjl) ?_
    simp (decide := true) only [vOps_nil, ev, putD, Slots.put, Slots.get, if_true, if_false, true_and, ↓vp_load, pop_load, pLoad_agg ag34 sz34, ↓vp_assign, pop_assign, rd_own w₀ eb_1q5, cellsAt, List.getD_cons_zero, List.getD_cons_succ, Nat.zero_add, Nat.reduceAdd, lv_int, allLive, Bool.and_true]
    repeat (with_reducible refine And.intro ?_ ?_; · first | trivial | omega | (intro hg; simp only [Bool.and_eq_true, Bool.or_eq_true, Bool.not_eq_true', Bool.and_eq_false_iff, Bool.or_eq_false_iff, Bool.not_eq_false', decide_eq_true_eq, decide_eq_false_iff_not, eqNil] at hg; omega) | (simp only [List.length_append, List.length_map, List.length_range, List.length_replicate, List.length_take, List.length_drop, List.length_cons, List.length_nil, List.length_set, List.length_reverse]; omega))
    try simp only [vOps_nil, fOps_nil]
    refine aOps_store (by rfl) (by rfl) (by repeat (first | exact AHeap.set_same _ _ _ | assumption | refine (AHeap.set_ne _ _ (by first | assumption | exact Ne.symm (by assumption))).trans ?_)) sz34 (by rfl) (by rfl) (by first | exact Nat.le_refl _ | decide | (simp; done) | (simp; omega)) (Nat.zero_le _) (by rfl) ?_
    simp only [AVal.cells]
    simp (decide := true) only [aOps_nil, ev, putD, Slots.get, Slots.keep, if_true, if_false, setAt, List.set_cons_zero, List.set_cons_succ, Nat.zero_add, Nat.reduceAdd]
    repeat (with_reducible refine And.intro ?_ ?_; · first | trivial | omega | (intro hg; simp only [Bool.and_eq_true, Bool.or_eq_true, Bool.not_eq_true', Bool.and_eq_false_iff, Bool.or_eq_false_iff, Bool.not_eq_false', decide_eq_true_eq, decide_eq_false_iff_not, eqNil] at hg; omega) | (simp only [List.length_append, List.length_map, List.length_range, List.length_replicate, List.length_take, List.length_drop, List.length_cons, List.length_nil, List.length_set, List.length_reverse]; omega))
    apply hK; clear hK K
    refine awp_ret ?_
    try simp only [thenA_ret, inBlockA_ret]
    refine retA_ret h (by repeat (first | exact Sub.refl _ | assumption | refine Sub.trans_set ?_ (by assumption))) (?_) ?_
    · simp (decide := true) only [resPre, resV_tmp, resV_cell, Slots.get, if_true, if_false, and_true, resV_tmp, resV_cell, pLoad_agg ag34 sz34, rd_set, cellsAt, List.getD_cons_zero, List.getD_cons_succ, Nat.zero_add, Nat.reduceAdd, lv_int, allLive, Bool.and_true, cellsAt, List.getD_cons_zero, List.getD_cons_succ, Nat.zero_add, Nat.reduceAdd, lv_int, allLive, Bool.and_true]
    
    simp (decide := true) only [Slots.get, if_true, if_false, resOfG_two, resV_tmp, resV_cell, pLoad_agg ag34 sz34, rd_set, cellsAt, List.getD_cons_zero, List.getD_cons_succ, Nat.zero_add, Nat.reduceAdd, lv_int, allLive, Bool.and_true, cellsAt, List.getD_cons_zero, List.getD_cons_succ, Nat.zero_add, Nat.reduceAdd, lv_int, allLive, Bool.and_true, faultA]
    rw [hrt]
    exact ⟨rfl, Sub.refl _⟩
end Go.Proofs.YtikpnhdjjabdmaaDoor

/-
  Contracts: lives of the laws.
  Conditions: none.
-/
namespace Go.Proofs.YtikpnhdjjabdmaaDoor
open Go.AM
open Go.Proofs
open Go.Col
set_option maxRecDepth 100000

theorem rt1 : readT (sp 13 ++ [65, 68, 68, 32, 49]) = ([65, 68, 68, 32, 49], ⟨0, 0, 0⟩) := by kernel_rfl
theorem rt2 : readT (sp 7 ++ [77, 65, 73, 78, 10] ++ sp 6 ++ [42, 78, 79, 84, 69]) = ([77, 65, 73, 78, 60], ⟨0, 0, 0⟩) := by kernel_rfl
theorem rt3 : readT (sp 11 ++ [65, 32, 34, 66, 10] ++ sp 6 ++ [45, 32, 32, 32, 32, 34, 67, 34, 10]) = (([65, 32, 34, 66] ++ sp 57 ++ [67, 34]), ⟨0, 0, 0⟩) := by kernel_rfl
theorem rt4 : readT (sp 11 ++ [80, 69, 82, 70, 10] ++ sp 6 ++ [45, 32, 32, 32, 32, 79, 82, 77, 32, 80]) = ([80, 69, 82, 70, 79, 82, 77, 32, 80], ⟨0, 0, 0⟩) := by kernel_rfl
theorem rt5 : readT (sp 6 ++ [45, 32, 32, 32, 32, 88]) = ([], ⟨6, 1, 7⟩) := by kernel_rfl
theorem rt6 : readT (sp 11 ++ [65, 32, 34, 66]) = ([], ⟨4, 1, 12⟩) := by kernel_rfl
theorem digs_1 : digs (1 % 1000000) = [49] := Lib.decDigits_one (by decide)
theorem wr_one (l : Bool) (s : Str) (hr : rightE s = true) (hs : s.length ≤ 60) : writeE [(l, s)] = (outE 1 [32] (if l = true then 8 else 12) s, 0) := by
  have hl := outE_len 1 (if l = true then 8 else 12) [32] s
  have ht : textE (s.length + 1) (if l = true then 8 else 12) [32] false 0 [] s = (1, outE 1 [32] (if l = true then 8 else 12) s) := by
    rw [textE_short (by simp only [Bool.false_eq_true, if_false]; split <;> omega)]
    rfl
  unfold writeE
  simp only [List.all_cons, List.all_nil, Bool.and_true, hr, if_true, writeGo, ht]
  rw [if_neg (by rw [hl]; simp only [List.length_cons, List.length_nil]; split <;> omega)]
theorem wr1 : writeE [(false, [83, 84, 79, 80, 32, 82, 85, 78, 46])] = ([48, 48, 48, 48, 48, 49, 32, 32, 32, 32, 32, 83, 84, 79, 80, 32, 82, 85, 78, 46, 10], 0) := by
  rw [wr_one _ _ (by decide) (by decide)]
  unfold outE
  rw [digs_1]
  rfl
theorem wr2 : writeE [(true, [83, 84, 79, 80, 32, 82, 85, 78, 46])] = ([48, 48, 48, 48, 48, 49, 32, 83, 84, 79, 80, 32, 82, 85, 78, 46, 10], 0) := by
  rw [wr_one _ _ (by decide) (by decide)]
  unfold outE
  rw [digs_1]
  rfl
theorem isLines {w₀ : World} {h : AHeap} {k : Nat} {ls : List (Bool × Str)} (hk : h k = some ⟨(ls.map lineC).flatten, 0⟩) (c : Cap) (hc : c = .exact ls.length) : IsL w₀ h 2 (.slice (.own k) 0 ls.length c) (ls.map lineC) := by
  have hw : ∀ x ∈ ls.map lineC, x.length = 2 := fun x hx => by obtain ⟨y, _, rfl⟩ := List.mem_map.1 hx; rfl
  have hl : allLive (ls.map lineC).flatten = true := allLive_flatten.2 fun x hx => by obtain ⟨y, _, rfl⟩ := List.mem_map.1 hx; rfl
  have := IsL.own (w₀ := w₀) hk hw rfl hl c (by rw [hc]; simp)
  rw [List.length_map] at this
  exact this
set_option maxHeartbeats 2000000 in
theorem c_lives02 (w₀ : World) (hm : MaxL w₀) (ht10 : Tab10 w₀) (h : AHeap) : ACall Tryd.prog w₀ 8 [] h (fun v h' => v = .bool true ∧ h' = h) := by
  refine acall_intro (n := 139) (rs := [.tmp 0]) Tryd.func8 rfl rfl rfl rfl (Nat.le_of_ble_eq_true rfl) ?_
  simp only [initSlots]
  -- region 0  law.go:30
  refine awp_rseq [] (by rfl) fun K hK => ?_
  simp (decide := true) only [aOps_nil, ev, absV, absS, putD, Slots.put, Slots.keep, if_false, true_and, ↓ap_assign, pop_assign]
  repeat (with_reducible refine And.intro ?_ ?_; · first | trivial | omega | (intro hg; simp only [Bool.and_eq_true, Bool.or_eq_true, Bool.not_eq_true', Bool.and_eq_false_iff, Bool.or_eq_false_iff, Bool.not_eq_false', decide_eq_true_eq, decide_eq_false_iff_not, eqNil] at hg; omega) | (simp only [List.length_append, List.length_map, List.length_range, List.length_replicate, List.length_take, List.length_drop, List.length_cons, List.length_nil, List.length_set, List.length_reverse]; omega))
  apply hK; clear hK K
  -- region 1  law.go:31
  refine awp_rseq [1, 2] (by rfl) fun K hK => ?_
  refine aOps_callV (V := .str (sp 13)) (by rfl) (by rfl) (c_spaces w₀ _ 13 (by decide)) ?_
  simp (decide := true) only [ev, absV, absS, putD, Slots.put, Slots.get, if_true, if_false, true_and, ↓ap_binOp, pop_binOp, isNilC_str, cond_false, pBinX_str, pS_add]
  repeat (with_reducible refine And.intro ?_ ?_; · first | trivial | omega | (intro hg; simp only [Bool.and_eq_true, Bool.or_eq_true, Bool.not_eq_true', Bool.and_eq_false_iff, Bool.or_eq_false_iff, Bool.not_eq_false', decide_eq_true_eq, decide_eq_false_iff_not, eqNil] at hg; omega) | (simp only [List.length_append, List.length_map, List.length_range, List.length_replicate, List.length_take, List.length_drop, List.length_cons, List.length_nil, List.length_set, List.length_reverse]; omega))
  refine aOps_call (by rfl) (by rfl) (c_read1 w₀ hm _ (sp 13 ++ [65, 68, 68, 32, 49]) (by decide)) fun x1q2 h1q2 hx1q2 => ?_
  rw [rt1] at hx1q2
  obtain ⟨rfl, hs1⟩ := hx1q2
  have hs_h1q2 : Sub h h1q2 := Sub.trans (by repeat (first | exact Sub.refl _ | assumption | refine Sub.trans_set ?_ (by assumption))) hs1
  have hr_h1q2 := hs_h1q2
  simp (decide := true) only [ev, putD, Slots.put, Slots.get, if_true, if_false, true_and, ↓ap_move, pop_move, ↓ap_extract, pop_extract, pExt_tuple, List.getD_cons_zero, List.getD_cons_succ, List.getD_cons_zero, List.getD_cons_succ, faultA]
  repeat (with_reducible refine And.intro ?_ ?_; · first | trivial | omega | (intro hg; simp only [Bool.and_eq_true, Bool.or_eq_true, Bool.not_eq_true', Bool.and_eq_false_iff, Bool.or_eq_false_iff, Bool.not_eq_false', decide_eq_true_eq, decide_eq_false_iff_not, eqNil] at hg; omega) | (simp only [List.length_append, List.length_map, List.length_range, List.length_replicate, List.length_take, List.length_drop, List.length_cons, List.length_nil, List.length_set, List.length_reverse]; omega))
  refine aOps_alloc ze34 (cs := [.int .i64 0, .int .i64 0, .int .i64 0]) (by rfl) fun k1q6 hk1q6 => ?_
  have hn_1q6 : h1q2 k1q6 = none := by first | assumption | (simp only [AHeap.set_none] at hk1q6; simp only [hk1q6])
  have hf_1q6 : h k1q6 = none := Sub.none hs_h1q2 hn_1q6
  simp (decide := true) only [ev, putD, Slots.put, Slots.get, if_true, if_false, true_and, ↓ap_assign, pop_assign]
  repeat (with_reducible refine And.intro ?_ ?_; · first | trivial | omega | (intro hg; simp only [Bool.and_eq_true, Bool.or_eq_true, Bool.not_eq_true', Bool.and_eq_false_iff, Bool.or_eq_false_iff, Bool.not_eq_false', decide_eq_true_eq, decide_eq_false_iff_not, eqNil] at hg; omega) | (simp only [List.length_append, List.length_map, List.length_range, List.length_replicate, List.length_take, List.length_drop, List.length_cons, List.length_nil, List.length_set, List.length_reverse]; omega))
  refine aOps_store (by rfl) (by rfl) (by repeat (first | exact AHeap.set_same _ _ _ | assumption | refine (AHeap.set_ne _ _ (by first | assumption | exact Ne.symm (by assumption))).trans ?_)) sz34 (by rfl) (by rfl) (by first | exact Nat.le_refl _ | decide | (simp; done) | (simp; omega)) (Nat.zero_le _) (by rfl) ?_
  simp only [AHeap.set_set, AVal.cells]
  simp (decide := true) only [aOps_nil, ev, putD, Slots.get, Slots.keep, if_true, if_false, setAt, List.set_cons_zero, List.set_cons_succ, Nat.zero_add, Nat.reduceAdd]
  repeat (with_reducible refine And.intro ?_ ?_; · first | trivial | omega | (intro hg; simp only [Bool.and_eq_true, Bool.or_eq_true, Bool.not_eq_true', Bool.and_eq_false_iff, Bool.or_eq_false_iff, Bool.not_eq_false', decide_eq_true_eq, decide_eq_false_iff_not, eqNil] at hg; omega) | (simp only [List.length_append, List.length_map, List.length_range, List.length_replicate, List.length_take, List.length_drop, List.length_cons, List.length_nil, List.length_set, List.length_reverse]; omega))
  apply hK; clear hK K
  -- region 2  law.go:32
  refine awp_rseq [1, 2, 3, 4] (by rfl) fun K hK => ?_
  refine aOps_callV (V := .str (sp 7)) (by rfl) (by rfl) (c_spaces w₀ _ 7 (by decide)) ?_
  simp (decide := true) only [ev, absV, absS, putD, Slots.put, Slots.get, if_true, if_false, true_and, ↓ap_binOp, pop_binOp, isNilC_str, cond_false, pBinX_str, pS_add]
  repeat (with_reducible refine And.intro ?_ ?_; · first | trivial | omega | (intro hg; simp only [Bool.and_eq_true, Bool.or_eq_true, Bool.not_eq_true', Bool.and_eq_false_iff, Bool.or_eq_false_iff, Bool.not_eq_false', decide_eq_true_eq, decide_eq_false_iff_not, eqNil] at hg; omega) | (simp only [List.length_append, List.length_map, List.length_range, List.length_replicate, List.length_take, List.length_drop, List.length_cons, List.length_nil, List.length_set, List.length_reverse]; omega))
  refine aOps_callV (V := .str (sp 6)) (by rfl) (by rfl) (c_spaces w₀ _ 6 (by decide)) ?_
  simp (decide := true) only [ev, absV, absS, putD, Slots.put, Slots.get, if_true, if_false, true_and, ↓ap_binOp, pop_binOp, isNilC_tmp, cond_false, pBinX_str, pS_add, isNilC_str]
  repeat (with_reducible refine And.intro ?_ ?_; · first | trivial | omega | (intro hg; simp only [Bool.and_eq_true, Bool.or_eq_true, Bool.not_eq_true', Bool.and_eq_false_iff, Bool.or_eq_false_iff, Bool.not_eq_false', decide_eq_true_eq, decide_eq_false_iff_not, eqNil] at hg; omega) | (simp only [List.length_append, List.length_map, List.length_range, List.length_replicate, List.length_take, List.length_drop, List.length_cons, List.length_nil, List.length_set, List.length_reverse]; omega))
  refine aOps_call (by rfl) (by rfl) (c_read1 w₀ hm _ (sp 7 ++ [77, 65, 73, 78, 10] ++ sp 6 ++ [42, 78, 79, 84, 69]) (by decide)) fun x2q5 h2q5 hx2q5 => ?_
  rw [rt2] at hx2q5
  obtain ⟨rfl, hs2⟩ := hx2q5
  have hs_h2q5 : Sub h h2q5 := Sub.trans (by repeat (first | exact Sub.refl _ | assumption | refine Sub.trans_set ?_ (by assumption))) hs2
  have hr_h2q5 : Sub h1q2 h2q5 := Sub.trans (by repeat (first | exact Sub.refl _ | assumption | refine Sub.trans_set ?_ (by assumption))) hs2
  have eb_1q6 := hs2 k1q6 _ (by repeat (first | exact AHeap.set_same _ _ _ | assumption | refine (AHeap.set_ne _ _ (by first | assumption | exact Ne.symm (by assumption))).trans ?_))
  simp (decide := true) only [ev, putD, Slots.put, Slots.get, if_true, if_false, true_and, ↓ap_move, pop_move, ↓ap_extract, pop_extract, pExt_tuple, List.getD_cons_zero, List.getD_cons_succ, List.getD_cons_zero, List.getD_cons_succ, faultA]
  repeat (with_reducible refine And.intro ?_ ?_; · first | trivial | omega | (intro hg; simp only [Bool.and_eq_true, Bool.or_eq_true, Bool.not_eq_true', Bool.and_eq_false_iff, Bool.or_eq_false_iff, Bool.not_eq_false', decide_eq_true_eq, decide_eq_false_iff_not, eqNil] at hg; omega) | (simp only [List.length_append, List.length_map, List.length_range, List.length_replicate, List.length_take, List.length_drop, List.length_cons, List.length_nil, List.length_set, List.length_reverse]; omega))
  refine aOps_alloc ze34 (cs := [.int .i64 0, .int .i64 0, .int .i64 0]) (by rfl) fun k2q9 hk2q9 => ?_
  have hn_2q9 : h2q5 k2q9 = none := by first | assumption | (simp only [AHeap.set_none] at hk2q9; simp only [hk2q9])
  have hf_2q9 : h k2q9 = none := Sub.none hs_h2q5 hn_2q9
  have ne_2q9_1q6 : k2q9 ≠ k1q6 := AHeap.ne_some hn_2q9 eb_1q6
  simp (decide := true) only [ev, putD, Slots.put, Slots.get, if_true, if_false, true_and, ↓ap_assign, pop_assign]
  repeat (with_reducible refine And.intro ?_ ?_; · first | trivial | omega | (intro hg; simp only [Bool.and_eq_true, Bool.or_eq_true, Bool.not_eq_true', Bool.and_eq_false_iff, Bool.or_eq_false_iff, Bool.not_eq_false', decide_eq_true_eq, decide_eq_false_iff_not, eqNil] at hg; omega) | (simp only [List.length_append, List.length_map, List.length_range, List.length_replicate, List.length_take, List.length_drop, List.length_cons, List.length_nil, List.length_set, List.length_reverse]; omega))
  refine aOps_store (by rfl) (by rfl) (by repeat (first | exact AHeap.set_same _ _ _ | assumption | refine (AHeap.set_ne _ _ (by first | assumption | exact Ne.symm (by assumption))).trans ?_)) sz34 (by rfl) (by rfl) (by first | exact Nat.le_refl _ | decide | (simp; done) | (simp; omega)) (Nat.zero_le _) (by rfl) ?_
  simp only [AHeap.set_set, AVal.cells]
  simp (decide := true) only [aOps_nil, ev, putD, Slots.get, Slots.keep, if_true, if_false, setAt, List.set_cons_zero, List.set_cons_succ, Nat.zero_add, Nat.reduceAdd]
  repeat (with_reducible refine And.intro ?_ ?_; · first | trivial | omega | (intro hg; simp only [Bool.and_eq_true, Bool.or_eq_true, Bool.not_eq_true', Bool.and_eq_false_iff, Bool.or_eq_false_iff, Bool.not_eq_false', decide_eq_true_eq, decide_eq_false_iff_not, eqNil] at hg; omega) | (simp only [List.length_append, List.length_map, List.length_range, List.length_replicate, List.length_take, List.length_drop, List.length_cons, List.length_nil, List.length_set, List.length_reverse]; omega))
  apply hK; clear hK K
  -- region 3  law.go:33
  refine awp_rseq [1, 2, 3, 4, 5, 6] (by rfl) fun K hK => ?_
  refine aOps_callV (V := .str (sp 11)) (by rfl) (by rfl) (c_spaces w₀ _ 11 (by decide)) ?_
  simp (decide := true) only [ev, absV, absS, putD, Slots.put, Slots.get, if_true, if_false, true_and, ↓ap_binOp, pop_binOp, isNilC_str, cond_false, pBinX_str, pS_add]
  repeat (with_reducible refine And.intro ?_ ?_; · first | trivial | omega | (intro hg; simp only [Bool.and_eq_true, Bool.or_eq_true, Bool.not_eq_true', Bool.and_eq_false_iff, Bool.or_eq_false_iff, Bool.not_eq_false', decide_eq_true_eq, decide_eq_false_iff_not, eqNil] at hg; omega) | (simp only [List.length_append, List.length_map, List.length_range, List.length_replicate, List.length_take, List.length_drop, List.length_cons, List.length_nil, List.length_set, List.length_reverse]; omega))
  refine aOps_callV (V := .str (sp 6)) (by rfl) (by rfl) (c_spaces w₀ _ 6 (by decide)) ?_
  simp (decide := true) only [ev, absV, absS, putD, Slots.put, Slots.get, if_true, if_false, true_and, ↓ap_binOp, pop_binOp, isNilC_tmp, cond_false, pBinX_str, pS_add, isNilC_str]
  repeat (with_reducible refine And.intro ?_ ?_; · first | trivial | omega | (intro hg; simp only [Bool.and_eq_true, Bool.or_eq_true, Bool.not_eq_true', Bool.and_eq_false_iff, Bool.or_eq_false_iff, Bool.not_eq_false', decide_eq_true_eq, decide_eq_false_iff_not, eqNil] at hg; omega) | (simp only [List.length_append, List.length_map, List.length_range, List.length_replicate, List.length_take, List.length_drop, List.length_cons, List.length_nil, List.length_set, List.length_reverse]; omega))
  refine aOps_call (by rfl) (by rfl) (c_read1 w₀ hm _ (sp 11 ++ [65, 32, 34, 66, 10] ++ sp 6 ++ [45, 32, 32, 32, 32, 34, 67, 34, 10]) (by decide)) fun x3q5 h3q5 hx3q5 => ?_
  rw [rt3] at hx3q5
  obtain ⟨rfl, hs3⟩ := hx3q5
  have hs_h3q5 : Sub h h3q5 := Sub.trans (by repeat (first | exact Sub.refl _ | assumption | refine Sub.trans_set ?_ (by assumption))) hs3
  have hr_h3q5 : Sub h2q5 h3q5 := Sub.trans (by repeat (first | exact Sub.refl _ | assumption | refine Sub.trans_set ?_ (by assumption))) hs3
  have eb_2q9 := hs3 k2q9 _ (by repeat (first | exact AHeap.set_same _ _ _ | assumption | refine (AHeap.set_ne _ _ (by first | assumption | exact Ne.symm (by assumption))).trans ?_))
  have eb_1q6 := hs3 k1q6 _ (by repeat (first | exact AHeap.set_same _ _ _ | assumption | refine (AHeap.set_ne _ _ (by first | assumption | exact Ne.symm (by assumption))).trans ?_))
  simp (decide := true) only [ev, putD, Slots.put, Slots.get, if_true, if_false, true_and, ↓ap_move, pop_move, ↓ap_extract, pop_extract, pExt_tuple, List.getD_cons_zero, List.getD_cons_succ, List.getD_cons_zero, List.getD_cons_succ, faultA]
  repeat (with_reducible refine And.intro ?_ ?_; · first | trivial | omega | (intro hg; simp only [Bool.and_eq_true, Bool.or_eq_true, Bool.not_eq_true', Bool.and_eq_false_iff, Bool.or_eq_false_iff, Bool.not_eq_false', decide_eq_true_eq, decide_eq_false_iff_not, eqNil] at hg; omega) | (simp only [List.length_append, List.length_map, List.length_range, List.length_replicate, List.length_take, List.length_drop, List.length_cons, List.length_nil, List.length_set, List.length_reverse]; omega))
  refine aOps_alloc ze34 (cs := [.int .i64 0, .int .i64 0, .int .i64 0]) (by rfl) fun k3q9 hk3q9 => ?_
  have hn_3q9 : h3q5 k3q9 = none := by first | assumption | (simp only [AHeap.set_none] at hk3q9; simp only [hk3q9])
  have hf_3q9 : h k3q9 = none := Sub.none hs_h3q5 hn_3q9
  have ne_3q9_1q6 : k3q9 ≠ k1q6 := AHeap.ne_some hn_3q9 eb_1q6
  have ne_3q9_2q9 : k3q9 ≠ k2q9 := AHeap.ne_some hn_3q9 eb_2q9
  simp (decide := true) only [ev, putD, Slots.put, Slots.get, if_true, if_false, true_and, ↓ap_assign, pop_assign]
  repeat (with_reducible refine And.intro ?_ ?_; · first | trivial | omega | (intro hg; simp only [Bool.and_eq_true, Bool.or_eq_true, Bool.not_eq_true', Bool.and_eq_false_iff, Bool.or_eq_false_iff, Bool.not_eq_false', decide_eq_true_eq, decide_eq_false_iff_not, eqNil] at hg; omega) | (simp only [List.length_append, List.length_map, List.length_range, List.length_replicate, List.length_take, List.length_drop, List.length_cons, List.length_nil, List.length_set, List.length_reverse]; omega))
  refine aOps_store (by rfl) (by rfl) (by repeat (first | exact AHeap.set_same _ _ _ | assumption | refine (AHeap.set_ne _ _ (by first | assumption | exact Ne.symm (by assumption))).trans ?_)) sz34 (by rfl) (by rfl) (by first | exact Nat.le_refl _ | decide | (simp; done) | (simp; omega)) (Nat.zero_le _) (by rfl) ?_
  simp only [AHeap.set_set, AVal.cells]
  simp (decide := true) only [aOps_nil, ev, putD, Slots.get, Slots.keep, if_true, if_false, setAt, List.set_cons_zero, List.set_cons_succ, Nat.zero_add, Nat.reduceAdd]
  repeat (with_reducible refine And.intro ?_ ?_; · first | trivial | omega | (intro hg; simp only [Bool.and_eq_true, Bool.or_eq_true, Bool.not_eq_true', Bool.and_eq_false_iff, Bool.or_eq_false_iff, Bool.not_eq_false', decide_eq_true_eq, decide_eq_false_iff_not, eqNil] at hg; omega) | (simp only [List.length_append, List.length_map, List.length_range, List.length_replicate, List.length_take, List.length_drop, List.length_cons, List.length_nil, List.length_set, List.length_reverse]; omega))
  apply hK; clear hK K
  -- region 4  law.go:34
  refine awp_rseq [1, 2, 3, 4, 5, 6, 7, 8] (by rfl) fun K hK => ?_
  refine aOps_callV (V := .str (sp 11)) (by rfl) (by rfl) (c_spaces w₀ _ 11 (by decide)) ?_
  simp (decide := true) only [ev, absV, absS, putD, Slots.put, Slots.get, if_true, if_false, true_and, ↓ap_binOp, pop_binOp, isNilC_str, cond_false, pBinX_str, pS_add]
  repeat (with_reducible refine And.intro ?_ ?_; · first | trivial | omega | (intro hg; simp only [Bool.and_eq_true, Bool.or_eq_true, Bool.not_eq_true', Bool.and_eq_false_iff, Bool.or_eq_false_iff, Bool.not_eq_false', decide_eq_true_eq, decide_eq_false_iff_not, eqNil] at hg; omega) | (simp only [List.length_append, List.length_map, List.length_range, List.length_replicate, List.length_take, List.length_drop, List.length_cons, List.length_nil, List.length_set, List.length_reverse]; omega))
  refine aOps_callV (V := .str (sp 6)) (by rfl) (by rfl) (c_spaces w₀ _ 6 (by decide)) ?_
  simp (decide := true) only [ev, absV, absS, putD, Slots.put, Slots.get, if_true, if_false, true_and, ↓ap_binOp, pop_binOp, isNilC_tmp, cond_false, pBinX_str, pS_add, isNilC_str]
  repeat (with_reducible refine And.intro ?_ ?_; · first | trivial | omega | (intro hg; simp only [Bool.and_eq_true, Bool.or_eq_true, Bool.not_eq_true', Bool.and_eq_false_iff, Bool.or_eq_false_iff, Bool.not_eq_false', decide_eq_true_eq, decide_eq_false_iff_not, eqNil] at hg; omega) | (simp only [List.length_append, List.length_map, List.length_range, List.length_replicate, List.length_take, List.length_drop, List.length_cons, List.length_nil, List.length_set, List.length_reverse]; omega))
  refine aOps_call (by rfl) (by rfl) (c_read1 w₀ hm _ (sp 11 ++ [80, 69, 82, 70, 10] ++ sp 6 ++ [45, 32, 32, 32, 32, 79, 82, 77, 32, 80]) (by decide)) fun x4q5 h4q5 hx4q5 => ?_
  rw [rt4] at hx4q5
  obtain ⟨rfl, hs4⟩ := hx4q5
  have hs_h4q5 : Sub h h4q5 := Sub.trans (by repeat (first | exact Sub.refl _ | assumption | refine Sub.trans_set ?_ (by assumption))) hs4
  have hr_h4q5 : Sub h3q5 h4q5 := Sub.trans (by repeat (first | exact Sub.refl _ | assumption | refine Sub.trans_set ?_ (by assumption))) hs4
  have eb_3q9 := hs4 k3q9 _ (by repeat (first | exact AHeap.set_same _ _ _ | assumption | refine (AHeap.set_ne _ _ (by first | assumption | exact Ne.symm (by assumption))).trans ?_))
  have eb_1q6 := hs4 k1q6 _ (by repeat (first | exact AHeap.set_same _ _ _ | assumption | refine (AHeap.set_ne _ _ (by first | assumption | exact Ne.symm (by assumption))).trans ?_))
  have eb_2q9 := hs4 k2q9 _ (by repeat (first | exact AHeap.set_same _ _ _ | assumption | refine (AHeap.set_ne _ _ (by first | assumption | exact Ne.symm (by assumption))).trans ?_))
  simp (decide := true) only [ev, putD, Slots.put, Slots.get, if_true, if_false, true_and, ↓ap_move, pop_move, ↓ap_extract, pop_extract, pExt_tuple, List.getD_cons_zero, List.getD_cons_succ, List.getD_cons_zero, List.getD_cons_succ, faultA]
  repeat (with_reducible refine And.intro ?_ ?_; · first | trivial | omega | (intro hg; simp only [Bool.and_eq_true, Bool.or_eq_true, Bool.not_eq_true', Bool.and_eq_false_iff, Bool.or_eq_false_iff, Bool.not_eq_false', decide_eq_true_eq, decide_eq_false_iff_not, eqNil] at hg; omega) | (simp only [List.length_append, List.length_map, List.length_range, List.length_replicate, List.length_take, List.length_drop, List.length_cons, List.length_nil, List.length_set, List.length_reverse]; omega))
  refine aOps_alloc ze34 (cs := [.int .i64 0, .int .i64 0, .int .i64 0]) (by rfl) fun k4q9 hk4q9 => ?_
  have hn_4q9 : h4q5 k4q9 = none := by first | assumption | (simp only [AHeap.set_none] at hk4q9; simp only [hk4q9])
  have hf_4q9 : h k4q9 = none := Sub.none hs_h4q5 hn_4q9
  have ne_4q9_1q6 : k4q9 ≠ k1q6 := AHeap.ne_some hn_4q9 eb_1q6
  have ne_4q9_2q9 : k4q9 ≠ k2q9 := AHeap.ne_some hn_4q9 eb_2q9
  have ne_4q9_3q9 : k4q9 ≠ k3q9 := AHeap.ne_some hn_4q9 eb_3q9
  simp (decide := true) only [ev, putD, Slots.put, Slots.get, if_true, if_false, true_and, ↓ap_assign, pop_assign]
  repeat (with_reducible refine And.intro ?_ ?_; · first | trivial | omega | (intro hg; simp only [Bool.and_eq_true, Bool.or_eq_true, Bool.not_eq_true', Bool.and_eq_false_iff, Bool.or_eq_false_iff, Bool.not_eq_false', decide_eq_true_eq, decide_eq_false_iff_not, eqNil] at hg; omega) | (simp only [List.length_append, List.length_map, List.length_range, List.length_replicate, List.length_take, List.length_drop, List.length_cons, List.length_nil, List.length_set, List.length_reverse]; omega))
  refine aOps_store (by rfl) (by rfl) (by repeat (first | exact AHeap.set_same _ _ _ | assumption | refine (AHeap.set_ne _ _ (by first | assumption | exact Ne.symm (by assumption))).trans ?_)) sz34 (by rfl) (by rfl) (by first | exact Nat.le_refl _ | decide | (simp; done) | (simp; omega)) (Nat.zero_le _) (by rfl) ?_
  simp only [AHeap.set_set, AVal.cells]
  simp (decide := true) only [aOps_nil, ev, putD, Slots.get, Slots.keep, if_true, if_false, setAt, List.set_cons_zero, List.set_cons_succ, Nat.zero_add, Nat.reduceAdd]
  repeat (with_reducible refine And.intro ?_ ?_; · first | trivial | omega | (intro hg; simp only [Bool.and_eq_true, Bool.or_eq_true, Bool.not_eq_true', Bool.and_eq_false_iff, Bool.or_eq_false_iff, Bool.not_eq_false', decide_eq_true_eq, decide_eq_false_iff_not, eqNil] at hg; omega) | (simp only [List.length_append, List.length_map, List.length_range, List.length_replicate, List.length_take, List.length_drop, List.length_cons, List.length_nil, List.length_set, List.length_reverse]; omega))
  apply hK; clear hK K
  -- region 5  law.go:35
  refine awp_rseq [1, 2, 3, 4, 5, 6, 7, 8, 10] (by rfl) fun K hK => ?_
  refine aOps_callV (V := .str (sp 6)) (by rfl) (by rfl) (c_spaces w₀ _ 6 (by decide)) ?_
  simp (decide := true) only [ev, absV, absS, putD, Slots.put, Slots.get, if_true, if_false, true_and, ↓ap_binOp, pop_binOp, isNilC_str, cond_false, pBinX_str, pS_add]
  repeat (with_reducible refine And.intro ?_ ?_; · first | trivial | omega | (intro hg; simp only [Bool.and_eq_true, Bool.or_eq_true, Bool.not_eq_true', Bool.and_eq_false_iff, Bool.or_eq_false_iff, Bool.not_eq_false', decide_eq_true_eq, decide_eq_false_iff_not, eqNil] at hg; omega) | (simp only [List.length_append, List.length_map, List.length_range, List.length_replicate, List.length_take, List.length_drop, List.length_cons, List.length_nil, List.length_set, List.length_reverse]; omega))
  refine aOps_call (by rfl) (by rfl) (c_read1 w₀ hm _ (sp 6 ++ [45, 32, 32, 32, 32, 88]) (by decide)) fun x5q2 h5q2 hx5q2 => ?_
  rw [rt5] at hx5q2
  obtain ⟨rfl, hs5⟩ := hx5q2
  have hs_h5q2 : Sub h h5q2 := Sub.trans (by repeat (first | exact Sub.refl _ | assumption | refine Sub.trans_set ?_ (by assumption))) hs5
  have hr_h5q2 : Sub h4q5 h5q2 := Sub.trans (by repeat (first | exact Sub.refl _ | assumption | refine Sub.trans_set ?_ (by assumption))) hs5
  have eb_4q9 := hs5 k4q9 _ (by repeat (first | exact AHeap.set_same _ _ _ | assumption | refine (AHeap.set_ne _ _ (by first | assumption | exact Ne.symm (by assumption))).trans ?_))
  have eb_1q6 := hs5 k1q6 _ (by repeat (first | exact AHeap.set_same _ _ _ | assumption | refine (AHeap.set_ne _ _ (by first | assumption | exact Ne.symm (by assumption))).trans ?_))
  have eb_2q9 := hs5 k2q9 _ (by repeat (first | exact AHeap.set_same _ _ _ | assumption | refine (AHeap.set_ne _ _ (by first | assumption | exact Ne.symm (by assumption))).trans ?_))
  have eb_3q9 := hs5 k3q9 _ (by repeat (first | exact AHeap.set_same _ _ _ | assumption | refine (AHeap.set_ne _ _ (by first | assumption | exact Ne.symm (by assumption))).trans ?_))
  simp (decide := true) only [ev, putD, Slots.put, Slots.get, if_true, if_false, true_and, ↓ap_move, pop_move, ↓ap_extract, pop_extract, pExt_tuple, List.getD_cons_zero, List.getD_cons_succ, List.getD_cons_zero, List.getD_cons_succ, faultA]
  repeat (with_reducible refine And.intro ?_ ?_; · first | trivial | omega | (intro hg; simp only [Bool.and_eq_true, Bool.or_eq_true, Bool.not_eq_true', Bool.and_eq_false_iff, Bool.or_eq_false_iff, Bool.not_eq_false', decide_eq_true_eq, decide_eq_false_iff_not, eqNil] at hg; omega) | (simp only [List.length_append, List.length_map, List.length_range, List.length_replicate, List.length_take, List.length_drop, List.length_cons, List.length_nil, List.length_set, List.length_reverse]; omega))
  refine aOps_alloc ze34 (cs := [.int .i64 0, .int .i64 0, .int .i64 0]) (by rfl) fun k5q6 hk5q6 => ?_
  have hn_5q6 : h5q2 k5q6 = none := by first | assumption | (simp only [AHeap.set_none] at hk5q6; simp only [hk5q6])
  have hf_5q6 : h k5q6 = none := Sub.none hs_h5q2 hn_5q6
  have ne_5q6_1q6 : k5q6 ≠ k1q6 := AHeap.ne_some hn_5q6 eb_1q6
  have ne_5q6_2q9 : k5q6 ≠ k2q9 := AHeap.ne_some hn_5q6 eb_2q9
  have ne_5q6_3q9 : k5q6 ≠ k3q9 := AHeap.ne_some hn_5q6 eb_3q9
  have ne_5q6_4q9 : k5q6 ≠ k4q9 := AHeap.ne_some hn_5q6 eb_4q9
  simp (decide := true) only [ev, putD, Slots.put, Slots.get, if_true, if_false, true_and, ↓ap_assign, pop_assign]
  repeat (with_reducible refine And.intro ?_ ?_; · first | trivial | omega | (intro hg; simp only [Bool.and_eq_true, Bool.or_eq_true, Bool.not_eq_true', Bool.and_eq_false_iff, Bool.or_eq_false_iff, Bool.not_eq_false', decide_eq_true_eq, decide_eq_false_iff_not, eqNil] at hg; omega) | (simp only [List.length_append, List.length_map, List.length_range, List.length_replicate, List.length_take, List.length_drop, List.length_cons, List.length_nil, List.length_set, List.length_reverse]; omega))
  refine aOps_store (by rfl) (by rfl) (by repeat (first | exact AHeap.set_same _ _ _ | assumption | refine (AHeap.set_ne _ _ (by first | assumption | exact Ne.symm (by assumption))).trans ?_)) sz34 (by rfl) (by rfl) (by first | exact Nat.le_refl _ | decide | (simp; done) | (simp; omega)) (Nat.zero_le _) (by rfl) ?_
  simp only [AHeap.set_set, AVal.cells]
  simp (decide := true) only [aOps_nil, ev, putD, Slots.get, Slots.keep, if_true, if_false, setAt, List.set_cons_zero, List.set_cons_succ, Nat.zero_add, Nat.reduceAdd]
  repeat (with_reducible refine And.intro ?_ ?_; · first | trivial | omega | (intro hg; simp only [Bool.and_eq_true, Bool.or_eq_true, Bool.not_eq_true', Bool.and_eq_false_iff, Bool.or_eq_false_iff, Bool.not_eq_false', decide_eq_true_eq, decide_eq_false_iff_not, eqNil] at hg; omega) | (simp only [List.length_append, List.length_map, List.length_range, List.length_replicate, List.length_take, List.length_drop, List.length_cons, List.length_nil, List.length_set, List.length_reverse]; omega))
  apply hK; clear hK K
  -- region 6  law.go:36
  refine awp_rseq [1, 2, 3, 4, 5, 6, 7, 8, 10, 12] (by rfl) fun K hK => ?_
  refine aOps_callV (V := .str (sp 11)) (by rfl) (by rfl) (c_spaces w₀ _ 11 (by decide)) ?_
  simp (decide := true) only [ev, absV, absS, putD, Slots.put, Slots.get, if_true, if_false, true_and, ↓ap_binOp, pop_binOp, isNilC_str, cond_false, pBinX_str, pS_add]
  repeat (with_reducible refine And.intro ?_ ?_; · first | trivial | omega | (intro hg; simp only [Bool.and_eq_true, Bool.or_eq_true, Bool.not_eq_true', Bool.and_eq_false_iff, Bool.or_eq_false_iff, Bool.not_eq_false', decide_eq_true_eq, decide_eq_false_iff_not, eqNil] at hg; omega) | (simp only [List.length_append, List.length_map, List.length_range, List.length_replicate, List.length_take, List.length_drop, List.length_cons, List.length_nil, List.length_set, List.length_reverse]; omega))
  refine aOps_call (by rfl) (by rfl) (c_read1 w₀ hm _ (sp 11 ++ [65, 32, 34, 66]) (by decide)) fun x6q2 h6q2 hx6q2 => ?_
  rw [rt6] at hx6q2
  obtain ⟨rfl, hs6⟩ := hx6q2
  have hs_h6q2 : Sub h h6q2 := Sub.trans (by repeat (first | exact Sub.refl _ | assumption | refine Sub.trans_set ?_ (by assumption))) hs6
  have hr_h6q2 : Sub h5q2 h6q2 := Sub.trans (by repeat (first | exact Sub.refl _ | assumption | refine Sub.trans_set ?_ (by assumption))) hs6
  have eb_5q6 := hs6 k5q6 _ (by repeat (first | exact AHeap.set_same _ _ _ | assumption | refine (AHeap.set_ne _ _ (by first | assumption | exact Ne.symm (by assumption))).trans ?_))
  have eb_1q6 := hs6 k1q6 _ (by repeat (first | exact AHeap.set_same _ _ _ | assumption | refine (AHeap.set_ne _ _ (by first | assumption | exact Ne.symm (by assumption))).trans ?_))
  have eb_2q9 := hs6 k2q9 _ (by repeat (first | exact AHeap.set_same _ _ _ | assumption | refine (AHeap.set_ne _ _ (by first | assumption | exact Ne.symm (by assumption))).trans ?_))
  have eb_3q9 := hs6 k3q9 _ (by repeat (first | exact AHeap.set_same _ _ _ | assumption | refine (AHeap.set_ne _ _ (by first | assumption | exact Ne.symm (by assumption))).trans ?_))
  have eb_4q9 := hs6 k4q9 _ (by repeat (first | exact AHeap.set_same _ _ _ | assumption | refine (AHeap.set_ne _ _ (by first | assumption | exact Ne.symm (by assumption))).trans ?_))
  simp (decide := true) only [ev, putD, Slots.put, Slots.get, if_true, if_false, true_and, ↓ap_move, pop_move, ↓ap_extract, pop_extract, pExt_tuple, List.getD_cons_zero, List.getD_cons_succ, List.getD_cons_zero, List.getD_cons_succ, faultA]
  repeat (with_reducible refine And.intro ?_ ?_; · first | trivial | omega | (intro hg; simp only [Bool.and_eq_true, Bool.or_eq_true, Bool.not_eq_true', Bool.and_eq_false_iff, Bool.or_eq_false_iff, Bool.not_eq_false', decide_eq_true_eq, decide_eq_false_iff_not, eqNil] at hg; omega) | (simp only [List.length_append, List.length_map, List.length_range, List.length_replicate, List.length_take, List.length_drop, List.length_cons, List.length_nil, List.length_set, List.length_reverse]; omega))
  refine aOps_alloc ze34 (cs := [.int .i64 0, .int .i64 0, .int .i64 0]) (by rfl) fun k6q6 hk6q6 => ?_
  have hn_6q6 : h6q2 k6q6 = none := by first | assumption | (simp only [AHeap.set_none] at hk6q6; simp only [hk6q6])
  have hf_6q6 : h k6q6 = none := Sub.none hs_h6q2 hn_6q6
  have ne_6q6_1q6 : k6q6 ≠ k1q6 := AHeap.ne_some hn_6q6 eb_1q6
  have ne_6q6_2q9 : k6q6 ≠ k2q9 := AHeap.ne_some hn_6q6 eb_2q9
  have ne_6q6_3q9 : k6q6 ≠ k3q9 := AHeap.ne_some hn_6q6 eb_3q9
  have ne_6q6_4q9 : k6q6 ≠ k4q9 := AHeap.ne_some hn_6q6 eb_4q9
  have ne_6q6_5q6 : k6q6 ≠ k5q6 := AHeap.ne_some hn_6q6 eb_5q6
  simp (decide := true) only [ev, putD, Slots.put, Slots.get, if_true, if_false, true_and, ↓ap_assign, pop_assign]
  repeat (with_reducible refine And.intro ?_ ?_; · first | trivial | omega | (intro hg; simp only [Bool.and_eq_true, Bool.or_eq_true, Bool.not_eq_true', Bool.and_eq_false_iff, Bool.or_eq_false_iff, Bool.not_eq_false', decide_eq_true_eq, decide_eq_false_iff_not, eqNil] at hg; omega) | (simp only [List.length_append, List.length_map, List.length_range, List.length_replicate, List.length_take, List.length_drop, List.length_cons, List.length_nil, List.length_set, List.length_reverse]; omega))
  refine aOps_store (by rfl) (by rfl) (by repeat (first | exact AHeap.set_same _ _ _ | assumption | refine (AHeap.set_ne _ _ (by first | assumption | exact Ne.symm (by assumption))).trans ?_)) sz34 (by rfl) (by rfl) (by first | exact Nat.le_refl _ | decide | (simp; done) | (simp; omega)) (Nat.zero_le _) (by rfl) ?_
  simp only [AHeap.set_set, AVal.cells]
  simp (decide := true) only [aOps_nil, ev, putD, Slots.get, Slots.keep, if_true, if_false, setAt, List.set_cons_zero, List.set_cons_succ, Nat.zero_add, Nat.reduceAdd]
  repeat (with_reducible refine And.intro ?_ ?_; · first | trivial | omega | (intro hg; simp only [Bool.and_eq_true, Bool.or_eq_true, Bool.not_eq_true', Bool.and_eq_false_iff, Bool.or_eq_false_iff, Bool.not_eq_false', decide_eq_true_eq, decide_eq_false_iff_not, eqNil] at hg; omega) | (simp only [List.length_append, List.length_map, List.length_range, List.length_replicate, List.length_take, List.length_drop, List.length_cons, List.length_nil, List.length_set, List.length_reverse]; omega))
  apply hK; clear hK K
  -- region 7  law.go:37
  refine awp_rseq [1, 2, 3, 4, 5, 6, 7, 8, 10, 12, 13] (by rfl) fun K hK => ?_
  simp (decide := true) only [ev, absV, absS, putD, Slots.put, Slots.get, if_false, true_and, ↓ap_build, ↓pop_buildL, bld34_, evP, List.map_nil]
  repeat (with_reducible refine And.intro ?_ ?_; · first | trivial | omega | (intro hg; simp only [Bool.and_eq_true, Bool.or_eq_true, Bool.not_eq_true', Bool.and_eq_false_iff, Bool.or_eq_false_iff, Bool.not_eq_false', decide_eq_true_eq, decide_eq_false_iff_not, eqNil] at hg; omega) | (simp only [List.length_append, List.length_map, List.length_range, List.length_replicate, List.length_take, List.length_drop, List.length_cons, List.length_nil, List.length_set, List.length_reverse]; omega))
  refine aOps_alloc ze34 (cs := [.int .i64 0, .int .i64 0, .int .i64 0]) (by rfl) fun k7q1 hk7q1 => ?_
  have ne_7q1_6q6 : k7q1 ≠ k6q6 := by simp only [AHeap.set_none] at hk7q1; simp only [hk7q1, ne_eq, not_false_eq_true]
  have hn_7q1 : h6q2 k7q1 = none := by first | assumption | (simp only [AHeap.set_none] at hk7q1; simp only [hk7q1])
  have hf_7q1 : h k7q1 = none := Sub.none hs_h6q2 hn_7q1
  have ne_7q1_1q6 : k7q1 ≠ k1q6 := AHeap.ne_some hn_7q1 eb_1q6
  have ne_7q1_2q9 : k7q1 ≠ k2q9 := AHeap.ne_some hn_7q1 eb_2q9
  have ne_7q1_3q9 : k7q1 ≠ k3q9 := AHeap.ne_some hn_7q1 eb_3q9
  have ne_7q1_4q9 : k7q1 ≠ k4q9 := AHeap.ne_some hn_7q1 eb_4q9
  have ne_7q1_5q6 : k7q1 ≠ k5q6 := AHeap.ne_some hn_7q1 eb_5q6
  refine aOps_store (by rfl) (by rfl) (by repeat (first | exact AHeap.set_same _ _ _ | assumption | refine (AHeap.set_ne _ _ (by first | assumption | exact Ne.symm (by assumption))).trans ?_)) sz34 (by rfl) (by rfl) (by first | exact Nat.le_refl _ | decide | (simp; done) | (simp; omega)) (Nat.zero_le _) (by rfl) ?_
  simp only [AHeap.set_set, AVal.cells]
  simp (decide := true) only [aOps_nil, ev, putD, Slots.put, Slots.get, Slots.keep, if_true, if_false, setAt, List.set_cons_zero, List.set_cons_succ, Nat.zero_add, Nat.reduceAdd]
  repeat (with_reducible refine And.intro ?_ ?_; · first | trivial | omega | (intro hg; simp only [Bool.and_eq_true, Bool.or_eq_true, Bool.not_eq_true', Bool.and_eq_false_iff, Bool.or_eq_false_iff, Bool.not_eq_false', decide_eq_true_eq, decide_eq_false_iff_not, eqNil] at hg; omega) | (simp only [List.length_append, List.length_map, List.length_range, List.length_replicate, List.length_take, List.length_drop, List.length_cons, List.length_nil, List.length_set, List.length_reverse]; omega))
  apply hK; clear hK K
  refine awp_seq ?_
  -- region 8  law.go:38
  refine awp_rseq [112] (by rfl) fun K hK => ?_
  simp (decide := true) only [ev, absV, absS, putD, Slots.put, Slots.get, if_true, if_false, true_and, ↓ap_loadL, apL_mk, pLoad_agg ag34 sz34, ↓ap_binOp, pop_binOp, isNilC_tmp, cond_false, pBinX_agg, ne34, ↓ap_move, pop_move, ↓ag_loadL, agQL_some, agL_mk, agP, agQ_some, nthDst, gKnown_bool, guardB_bool_false, implies_true, decide_true, Bool.not_false, Bool.not_true, condV_true, Bool.and_true, ↓ag_binOp, ↓ap_pick, pop_pick, pPick_bool, pickV_and, ↓ag_move, isNilC_str, pBinX_str, pS_neq, rd_ne', ne_eq, not_false_eq_true, ne_6q6_1q6.symm, ne_6q6_2q9.symm, ne_6q6_3q9.symm, ne_6q6_4q9.symm, ne_7q1_1q6.symm, ne_7q1_2q9.symm, ne_7q1_3q9.symm, ne_7q1_4q9.symm, rd_own w₀ eb_1q6, rd_own w₀ eb_2q9, rd_own w₀ eb_3q9, rd_own w₀ eb_4q9, rd_any, cellsAt, List.getD_cons_zero, List.getD_cons_succ, Nat.zero_add, Nat.reduceAdd, lv_int, allLive, Bool.and_true]
  repeat (with_reducible refine And.intro ?_ ?_; · first | trivial | omega | (intro hg; simp only [Bool.and_eq_true, Bool.or_eq_true, Bool.not_eq_true', Bool.and_eq_false_iff, Bool.or_eq_false_iff, Bool.not_eq_false', decide_eq_true_eq, decide_eq_false_iff_not, eqNil] at hg; omega) | (simp only [List.length_append, List.length_map, List.length_range, List.length_replicate, List.length_take, List.length_drop, List.length_cons, List.length_nil, List.length_set, List.length_reverse]; omega))
  first
  | (refine aOps_yes (by rfl) ?_; refine aOps_callV (V := .str (sp 57)) (by rfl) (by rfl) (c_spaces w₀ _ 57 (by decide)) ?_)
  | (refine aOps_gcall (V := .str (sp 57)) (f := _) (cap := _) (xs := _) rfl (fun hg => ⟨rfl, ?_⟩) (fun hg => c_spaces w₀ _ 57 (by decide)) ?_; · (simp (decide := true) only [gv, nthDst, Slots.get, if_true, if_false, guardB_bool_true, guardB_bool_false, guardB_cond, Bool.not_not] at hg; simp (decide := true) only [evs, ev, Slots.get, if_true, if_false, hg, condV_true, List.append_nil, List.map_cons, List.map_nil, absV, absS] <;> try rfl))
  simp (decide := true) only [aOps_nil, ev, absV, absS, putD, Slots.put, Slots.get, Slots.keep, if_true, if_false, true_and, nthDst, guardB_bool_false, ↓ag_binOp, pop_binOp, agP, agQ_some, gKnown_bool, implies_true, decide_true, Bool.not_false, Bool.not_true, condV_true, Bool.and_true, isNilC_tmp, cond_false, pBinX_str, pS_add, isNilC_str, pS_neq, ↓ap_pick, pop_pick, pPick_bool, pickV_and, ↓ap_move, pop_move, ↓ag_move, ↓ag_loadL, agQL_some, agL_mk, pLoad_agg ag34 sz34, ↓ag_build, ↓pop_buildL, bld32_0_1, evP, List.map_cons, List.map_nil, bld34_0_1, pBinX_agg, ne34, rd_ne', ne_eq, not_false_eq_true, ne_6q6_5q6.symm, ne_7q1_6q6.symm, ne_7q1_5q6.symm, rd_own w₀ eb_5q6, rd_any, cellsAt, List.getD_cons_zero, List.getD_cons_succ, Nat.zero_add, Nat.reduceAdd, lv_int, allLive, Bool.and_true]
  repeat (with_reducible refine And.intro ?_ ?_; · first | trivial | omega | (intro hg; simp only [Bool.and_eq_true, Bool.or_eq_true, Bool.not_eq_true', Bool.and_eq_false_iff, Bool.or_eq_false_iff, Bool.not_eq_false', decide_eq_true_eq, decide_eq_false_iff_not, eqNil] at hg; omega) | (simp only [List.length_append, List.length_map, List.length_range, List.length_replicate, List.length_take, List.length_drop, List.length_cons, List.length_nil, List.length_set, List.length_reverse]; omega))
  apply hK; clear hK K
  refine awp_cond (b := _) rfl (fun hb1 => ?_) (fun hb1 => ?_)
  · exact absurd hb1 (by decide)
  · try simp only at hb1
    refine awp_skip ?_
    change Awp _ _ _ _ _ _ _
    -- region 10  law.go:41
    refine awp_rseq [14, 15] (by rfl) fun K hK => ?_
    simp (decide := true) only [ev, absV, absS, putD, Slots.put, Slots.get, if_false, true_and, ↓ap_build, ↓pop_buildL, bld27_1, evP, List.map_cons, List.map_nil]
    repeat (with_reducible refine And.intro ?_ ?_; · first | trivial | omega | (intro hg; simp only [Bool.and_eq_true, Bool.or_eq_true, Bool.not_eq_true', Bool.and_eq_false_iff, Bool.or_eq_false_iff, Bool.not_eq_false', decide_eq_true_eq, decide_eq_false_iff_not, eqNil] at hg; omega) | (simp only [List.length_append, List.length_map, List.length_range, List.length_replicate, List.length_take, List.length_drop, List.length_cons, List.length_nil, List.length_set, List.length_reverse]; omega))
    refine aOps_buildSlice (cs := [.bool false, .str [83, 84, 79, 80, 32, 82, 85, 78, 46]]) (by kernel_rfl) fun k10q1 hk10q1 => ?_
    have ne_10q1_6q6 : k10q1 ≠ k6q6 := by simp only [AHeap.set_none] at hk10q1; simp only [hk10q1, ne_eq, not_false_eq_true]
    have ne_10q1_7q1 : k10q1 ≠ k7q1 := by simp only [AHeap.set_none] at hk10q1; simp only [hk10q1, ne_eq, not_false_eq_true]
    have hn_10q1 : h6q2 k10q1 = none := by first | assumption | (simp only [AHeap.set_none] at hk10q1; simp only [hk10q1])
    have hf_10q1 : h k10q1 = none := Sub.none hs_h6q2 hn_10q1
    have ne_10q1_1q6 : k10q1 ≠ k1q6 := AHeap.ne_some hn_10q1 eb_1q6
    have ne_10q1_2q9 : k10q1 ≠ k2q9 := AHeap.ne_some hn_10q1 eb_2q9
    have ne_10q1_3q9 : k10q1 ≠ k3q9 := AHeap.ne_some hn_10q1 eb_3q9
    have ne_10q1_4q9 : k10q1 ≠ k4q9 := AHeap.ne_some hn_10q1 eb_4q9
    have ne_10q1_5q6 : k10q1 ≠ k5q6 := AHeap.ne_some hn_10q1 eb_5q6
    refine aOps_call (by rfl) (by rfl) (c_Write w₀ ht10 _ [(false, [83, 84, 79, 80, 32, 82, 85, 78, 46])] (.own k10q1) 0 (.exact 1) (isLines (ls := [(false, [83, 84, 79, 80, 32, 82, 85, 78, 46])]) (AHeap.set_same _ _ _) _ rfl) (by decide) (by decide)) fun x10q2 h10q2 hx10q2 => ?_
    rw [wr1] at hx10q2
    obtain ⟨rfl, hs10⟩ := hx10q2
    have hs_h10q2 : Sub h h10q2 := Sub.trans (by repeat (first | exact Sub.refl _ | assumption | refine Sub.trans_set ?_ (by assumption))) hs10
    have hr_h10q2 : Sub h6q2 h10q2 := Sub.trans (by repeat (first | exact Sub.refl _ | assumption | refine Sub.trans_set ?_ (by assumption))) hs10
    have eb_6q6 := hs10 k6q6 _ (by repeat (first | exact AHeap.set_same _ _ _ | assumption | refine (AHeap.set_ne _ _ (by first | assumption | exact Ne.symm (by assumption))).trans ?_))
    have eb_7q1 := hs10 k7q1 _ (by repeat (first | exact AHeap.set_same _ _ _ | assumption | refine (AHeap.set_ne _ _ (by first | assumption | exact Ne.symm (by assumption))).trans ?_))
    have eb_10q1 := hs10 k10q1 _ (by repeat (first | exact AHeap.set_same _ _ _ | assumption | refine (AHeap.set_ne _ _ (by first | assumption | exact Ne.symm (by assumption))).trans ?_))
    have eb_1q6 := hs10 k1q6 _ (by repeat (first | exact AHeap.set_same _ _ _ | assumption | refine (AHeap.set_ne _ _ (by first | assumption | exact Ne.symm (by assumption))).trans ?_))
    have eb_2q9 := hs10 k2q9 _ (by repeat (first | exact AHeap.set_same _ _ _ | assumption | refine (AHeap.set_ne _ _ (by first | assumption | exact Ne.symm (by assumption))).trans ?_))
    have eb_3q9 := hs10 k3q9 _ (by repeat (first | exact AHeap.set_same _ _ _ | assumption | refine (AHeap.set_ne _ _ (by first | assumption | exact Ne.symm (by assumption))).trans ?_))
    have eb_4q9 := hs10 k4q9 _ (by repeat (first | exact AHeap.set_same _ _ _ | assumption | refine (AHeap.set_ne _ _ (by first | assumption | exact Ne.symm (by assumption))).trans ?_))
    have eb_5q6 := hs10 k5q6 _ (by repeat (first | exact AHeap.set_same _ _ _ | assumption | refine (AHeap.set_ne _ _ (by first | assumption | exact Ne.symm (by assumption))).trans ?_))
    simp (decide := true) only [aOps_nil, ev, putD, Slots.put, Slots.get, Slots.keep, if_true, if_false, true_and, ↓ap_move, pop_move, ↓ap_extract, pop_extract, pExt_tuple, List.getD_cons_zero, List.getD_cons_succ, ↓ap_assign, pop_assign, List.getD_cons_zero, List.getD_cons_succ]
    repeat (with_reducible refine And.intro ?_ ?_; · first | trivial | omega | (intro hg; simp only [Bool.and_eq_true, Bool.or_eq_true, Bool.not_eq_true', Bool.and_eq_false_iff, Bool.or_eq_false_iff, Bool.not_eq_false', decide_eq_true_eq, decide_eq_false_iff_not, eqNil] at hg; omega) | (simp only [List.length_append, List.length_map, List.length_range, List.length_replicate, List.length_take, List.length_drop, List.length_cons, List.length_nil, List.length_set, List.length_reverse]; omega))
    apply hK; clear hK K
    -- region 11  law.go:42
    refine awp_rseq [14, 15, 16, 17] (by rfl) fun K hK => ?_
    simp (decide := true) only [ev, absV, absS, putD, Slots.put, Slots.get, if_false, true_and, ↓ap_build, ↓pop_buildL, bld27_0_1, evP, List.map_cons, List.map_nil]
    repeat (with_reducible refine And.intro ?_ ?_; · first | trivial | omega | (intro hg; simp only [Bool.and_eq_true, Bool.or_eq_true, Bool.not_eq_true', Bool.and_eq_false_iff, Bool.or_eq_false_iff, Bool.not_eq_false', decide_eq_true_eq, decide_eq_false_iff_not, eqNil] at hg; omega) | (simp only [List.length_append, List.length_map, List.length_range, List.length_replicate, List.length_take, List.length_drop, List.length_cons, List.length_nil, List.length_set, List.length_reverse]; omega))
    refine aOps_buildSlice (cs := [.bool true, .str [83, 84, 79, 80, 32, 82, 85, 78, 46]]) (by kernel_rfl) fun k11q1 hk11q1 => ?_
    have hn_11q1 : h10q2 k11q1 = none := by first | assumption | (simp only [AHeap.set_none] at hk11q1; simp only [hk11q1])
    have hf_11q1 : h k11q1 = none := Sub.none hs_h10q2 hn_11q1
    have ne_11q1_1q6 : k11q1 ≠ k1q6 := AHeap.ne_some hn_11q1 eb_1q6
    have ne_11q1_2q9 : k11q1 ≠ k2q9 := AHeap.ne_some hn_11q1 eb_2q9
    have ne_11q1_3q9 : k11q1 ≠ k3q9 := AHeap.ne_some hn_11q1 eb_3q9
    have ne_11q1_4q9 : k11q1 ≠ k4q9 := AHeap.ne_some hn_11q1 eb_4q9
    have ne_11q1_5q6 : k11q1 ≠ k5q6 := AHeap.ne_some hn_11q1 eb_5q6
    have ne_11q1_6q6 : k11q1 ≠ k6q6 := AHeap.ne_some hn_11q1 eb_6q6
    have ne_11q1_7q1 : k11q1 ≠ k7q1 := AHeap.ne_some hn_11q1 eb_7q1
    have ne_11q1_10q1 : k11q1 ≠ k10q1 := AHeap.ne_some hn_11q1 eb_10q1
    refine aOps_call (by rfl) (by rfl) (c_Write w₀ ht10 _ [(true, [83, 84, 79, 80, 32, 82, 85, 78, 46])] (.own k11q1) 0 (.exact 1) (isLines (ls := [(true, [83, 84, 79, 80, 32, 82, 85, 78, 46])]) (AHeap.set_same _ _ _) _ rfl) (by decide) (by decide)) fun x11q2 h11q2 hx11q2 => ?_
    rw [wr2] at hx11q2
    obtain ⟨rfl, hs11⟩ := hx11q2
    have hs_h11q2 : Sub h h11q2 := Sub.trans (by repeat (first | exact Sub.refl _ | assumption | refine Sub.trans_set ?_ (by assumption))) hs11
    have hr_h11q2 : Sub h10q2 h11q2 := Sub.trans (by repeat (first | exact Sub.refl _ | assumption | refine Sub.trans_set ?_ (by assumption))) hs11
    have eb_11q1 := hs11 k11q1 _ (by repeat (first | exact AHeap.set_same _ _ _ | assumption | refine (AHeap.set_ne _ _ (by first | assumption | exact Ne.symm (by assumption))).trans ?_))
    have eb_1q6 := hs11 k1q6 _ (by repeat (first | exact AHeap.set_same _ _ _ | assumption | refine (AHeap.set_ne _ _ (by first | assumption | exact Ne.symm (by assumption))).trans ?_))
    have eb_2q9 := hs11 k2q9 _ (by repeat (first | exact AHeap.set_same _ _ _ | assumption | refine (AHeap.set_ne _ _ (by first | assumption | exact Ne.symm (by assumption))).trans ?_))
    have eb_3q9 := hs11 k3q9 _ (by repeat (first | exact AHeap.set_same _ _ _ | assumption | refine (AHeap.set_ne _ _ (by first | assumption | exact Ne.symm (by assumption))).trans ?_))
    have eb_4q9 := hs11 k4q9 _ (by repeat (first | exact AHeap.set_same _ _ _ | assumption | refine (AHeap.set_ne _ _ (by first | assumption | exact Ne.symm (by assumption))).trans ?_))
    have eb_5q6 := hs11 k5q6 _ (by repeat (first | exact AHeap.set_same _ _ _ | assumption | refine (AHeap.set_ne _ _ (by first | assumption | exact Ne.symm (by assumption))).trans ?_))
    have eb_6q6 := hs11 k6q6 _ (by repeat (first | exact AHeap.set_same _ _ _ | assumption | refine (AHeap.set_ne _ _ (by first | assumption | exact Ne.symm (by assumption))).trans ?_))
    have eb_7q1 := hs11 k7q1 _ (by repeat (first | exact AHeap.set_same _ _ _ | assumption | refine (AHeap.set_ne _ _ (by first | assumption | exact Ne.symm (by assumption))).trans ?_))
    have eb_10q1 := hs11 k10q1 _ (by repeat (first | exact AHeap.set_same _ _ _ | assumption | refine (AHeap.set_ne _ _ (by first | assumption | exact Ne.symm (by assumption))).trans ?_))
    simp (decide := true) only [aOps_nil, ev, putD, Slots.put, Slots.get, Slots.keep, if_true, if_false, true_and, ↓ap_move, pop_move, ↓ap_extract, pop_extract, pExt_tuple, List.getD_cons_zero, List.getD_cons_succ, ↓ap_assign, pop_assign, List.getD_cons_zero, List.getD_cons_succ]
    repeat (with_reducible refine And.intro ?_ ?_; · first | trivial | omega | (intro hg; simp only [Bool.and_eq_true, Bool.or_eq_true, Bool.not_eq_true', Bool.and_eq_false_iff, Bool.or_eq_false_iff, Bool.not_eq_false', decide_eq_true_eq, decide_eq_false_iff_not, eqNil] at hg; omega) | (simp only [List.length_append, List.length_map, List.length_range, List.length_replicate, List.length_take, List.length_drop, List.length_cons, List.length_nil, List.length_set, List.length_reverse]; omega))
    apply hK; clear hK K
    -- region 12  law.go:43
    refine awp_rseq [0] (by rfl) fun K hK => ?_
    simp (decide := true) only [aOps_nil, ev, absV, absS, putD, Slots.put, Slots.get, Slots.keep, if_true, if_false, true_and, ↓ap_move, pop_move, ↓ap_binOp, pop_binOp, isNilC_int, cond_false, pBinX_int, pI_eql, ↓ag_move, agP, agQ_some, nthDst, guardB_bool_true, decide_true, condV_true, Bool.and_true, ↓ag_binOp, ↓ap_pick, pop_pick, pPick_bool, pickV_and, isNilC_str, pBinX_str, pS_eql, ↓ap_assign, pop_assign, Bool.and_true]
    repeat (with_reducible refine And.intro ?_ ?_; · first | trivial | omega | (intro hg; simp only [Bool.and_eq_true, Bool.or_eq_true, Bool.not_eq_true', Bool.and_eq_false_iff, Bool.or_eq_false_iff, Bool.not_eq_false', decide_eq_true_eq, decide_eq_false_iff_not, eqNil] at hg; omega) | (simp only [List.length_append, List.length_map, List.length_range, List.length_replicate, List.length_take, List.length_drop, List.length_cons, List.length_nil, List.length_set, List.length_reverse]; omega))
    apply hK; clear hK K
    refine awp_ret ?_
    try simp only [thenA_ret, inBlockA_ret]
    refine retA_ret h (by repeat (first | exact Sub.refl _ | assumption | refine Sub.trans_set ?_ (by assumption))) (resPre_tmp (resPre_nil)) ?_
    simp (decide := true) only [Slots.get, if_true, and_true, resOf_one]
    all_goals first | rfl | exact ⟨rfl, rfl⟩ | (simp (decide := true) only [if_true, if_false, *]; done) | (trace_state; fail)
end Go.Proofs.YtikpnhdjjabdmaaDoor

/-
  The statement ColumnsLayout, walked.
  Conditions: none.
-/
namespace Go.Proofs.YtikpnhdjjabdmaaDoor
open Go.AM
open Go.Proofs
open Go.Col
set_option maxRecDepth 100000

end Go.Proofs.YtikpnhdjjabdmaaDoor

/-
  Plain law: where the bytes of the cards that Read answers stand in the source text.
  Conditions: none.
-/
namespace Go.Proofs.YtikpnhdjjabdmaaDoor
open Go.AM
open Go.Proofs
open Go.Col
set_option maxRecDepth 100000

/-- A part of a card: where it begins, its bytes. -/
structure PartC where
  line : Int
  col : Int
  str : Str
def partsText : List PartC → Str
  | [] => []
  | p :: ps => p.str ++ partsText ps
def marksFrom : Nat → List PartC → List MarkC
  | _, [] => []
  | n, p :: ps => ⟨n, p.line, p.col⟩ :: marksFrom (n + p.str.length) ps
def posAt : List PartC → Nat → Int × Int
  | [], _ => (0, 0)
  | [p], i => (p.line, p.col + i)
  | p :: q :: ps, i => if i < p.str.length then (p.line, p.col + i) else posAt (q :: ps) (i - p.str.length)
/-- The byte at a place of the source text, lines padded to 72 columns. -/
def byteAt (L : List Str) (line col : Int) : UInt8 := (padE (L.getD (line.toNat - 1) [])).getD (col.toNat - 1) 0
structure PartOk (L : List Str) (p : PartC) : Prop where
  ne : 0 < p.str.length
  low : 1 ≤ p.line
  high : p.line ≤ L.length
  col : 8 ≤ p.col
  fit : p.col + p.str.length ≤ 73
  byte : ∀ j : Nat, j < p.str.length → p.str.getD j 0 = byteAt L p.line (p.col + j)
def Asc (ps : List PartC) : Prop := ps.Pairwise fun p q => p.line < q.line

theorem marksFrom_above : ∀ (ps : List PartC) (n : Nat), ∀ m ∈ marksFrom n ps, (n : Int) ≤ m.frm
  | [], n, m, h => by cases h
  | p :: ps, n, m, h => by
    rcases List.mem_cons.1 h with rfl | h
    · exact Int.le_refl _
    · have := marksFrom_above ps _ m h
      omega
theorem atGo_above {i : Int} : ∀ (ms : List MarkC) (p : Int × Int), (∀ m ∈ ms, i < m.frm) → atGo i ms p = p
  | [], p, _ => rfl
  | m :: ms, p, h => by
    rw [atGo, if_neg (by have := h m (by simp); omega)]
    exact atGo_above ms p fun x hx => h x (by simp [hx])
theorem at_parts : ∀ (ps : List PartC) (n i : Nat) (p0 : Int × Int), ps ≠ [] → atGo ((n + i : Nat) : Int) (marksFrom n ps) p0 = posAt ps i
  | [], _, _, _, h => absurd rfl h
  | [p], n, i, p0, _ => by
    show (if ((n : Int)) ≤ ((n + i : Nat) : Int) then (p.line, p.col + ((n + i : Nat) : Int) - (n : Int)) else p0) = (p.line, p.col + (i : Int))
    rw [if_pos (by omega)]
    congr 1
    omega
  | p :: q :: ps, n, i, p0, _ => by
    rw [marksFrom, atGo, if_pos (show ((n : Nat) : Int) ≤ ((n + i : Nat) : Int) by omega), posAt]
    by_cases hi : i < p.str.length
    · rw [if_pos hi, atGo_above _ _ (fun m hm => by have := marksFrom_above _ _ m hm; omega)]
      show (p.line, p.col + ((n + i : Nat) : Int) - (n : Int)) = _
      congr 1
      omega
    · rw [if_neg hi, show n + i = (n + p.str.length) + (i - p.str.length) by omega]
      exact at_parts (q :: ps) (n + p.str.length) (i - p.str.length) _ (by simp)
theorem valid_parts (c : CardC) {L : List Str} : ∀ (ps : List PartC) (n : Nat) (b : Int), b < n → n + (partsText ps).length ≤ c.text.length → (∀ p ∈ ps, PartOk L p) → validC.go c b (marksFrom n ps) = true
  | [], _, _, _, _, _ => rfl
  | p :: ps, n, b, hb, hn, hp => by
    have h := hp p (by simp)
    have h1 := h.ne
    have h2 := h.low
    have h3 := h.col
    have h4 := h.fit
    simp only [partsText, List.length_append] at hn
    rw [marksFrom, validC.go, Bool.and_eq_true]
    refine ⟨decide_eq_true ⟨hb, by simp only; omega, h2, h3, by simp only; omega⟩, ?_⟩
    exact valid_parts c ps _ _ (by simp only; omega) (by omega) fun q hq => hp q (by simp [hq])
/-- A card and its parts. -/
structure CardOk (L : List Str) (c : CardC) (ps : List PartC) : Prop where
  text : c.text = partsText ps
  marks : c.marks = marksFrom 0 ps
  parts : ∀ p ∈ ps, PartOk L p
  asc : Asc ps
theorem CardOk.valid {L : List Str} {c : CardC} {ps : List PartC} (h : CardOk L c ps) (hn : ps ≠ []) : validC c = true := by
  cases ps with
  | nil => exact absurd rfl hn
  | cons p ps =>
    have hm := h.marks
    rw [validC_eq (by rw [hm, marksFrom]; simp)]
    rw [Bool.and_eq_true]
    refine ⟨?_, ?_⟩
    · rw [hm, marksFrom]; rfl
    · rw [hm]; exact valid_parts c (p :: ps) 0 (-1) (by omega) (by rw [h.text]; omega) h.parts
theorem CardOk.at {L : List Str} {c : CardC} {ps : List PartC} (h : CardOk L c ps) (hn : ps ≠ []) {k : Nat} (hk : k ≤ c.text.length) : atE c k = ((posAt ps k).1, (posAt ps k).2, 0) := by
  unfold atE
  rw [if_pos ⟨h.valid hn, by omega, by omega⟩, h.marks]
  have := at_parts ps 0 k (0, 0) hn
  rw [Nat.zero_add] at this
  rw [this]
/-- Cards with their parts, ahead of a line. -/
structure RdOk (L : List Str) (n : Nat) (x : Rd) (ys : List (CardC × List PartC)) : Prop where
  cards : x.cards = ys.map (·.1)
  ok : ∀ y ∈ ys, CardOk L y.1 y.2
  ne : ∀ y ∈ ys, y.2 ≠ []
  asc : Asc (ys.flatMap (·.2))
  low : ∀ y ∈ ys, ∀ p ∈ y.2, p.line < n
theorem RdOk.next {L : List Str} {n : Nat} {x : Rd} {ys : List (CardC × List PartC)} (h : RdOk L n x ys) : RdOk L (n + 1) x ys :=
  ⟨h.cards, h.ok, h.ne, h.asc, fun y hy p hp => by have := h.low y hy p hp; omega⟩
theorem splitNL_ne : ∀ s : Str, splitNL s ≠ []
  | [] => by simp [splitNL]
  | b :: s => by unfold splitNL; split <;> (try split) <;> simp
theorem splitNL_cat : ∀ (a b : Str), splitNL (a ++ 10 :: b) = splitNL a ++ splitNL b
  | [], b => by show splitNL (10 :: b) = [] :: splitNL b; rw [splitNL, if_pos rfl]
  | x :: a, b => by
    rw [List.cons_append, splitNL, splitNL]
    by_cases h : x = 10
    · rw [if_pos h, if_pos h, splitNL_cat a b, List.cons_append]
    · rw [if_neg h, if_neg h, splitNL_cat a b]
      cases hq : splitNL a with
      | nil => exact absurd hq (splitNL_ne a)
      | cons l ls => rfl
theorem splitNL_trim (s : Str) : splitNL (trimNL s) = splitNL s ∨ splitNL s = splitNL (trimNL s) ++ [[]] := by
  unfold trimNL
  by_cases h : s.getLast? = some 10
  · rw [if_pos h]
    refine .inr ?_
    obtain ⟨t, ht⟩ : ∃ t, s = t ++ [10] := by
      rcases List.eq_nil_or_concat s with e | ⟨t, x, e⟩
      · rw [e] at h; cases h
      · rw [List.concat_eq_append] at e
        rw [e, List.getLast?_append] at h
        cases h
        exact ⟨t, e⟩
    rw [ht, List.dropLast_concat, splitNL_cat]
    rfl
  · rw [if_neg h]; exact .inl rfl
end Go.Proofs.YtikpnhdjjabdmaaDoor

/-
  The statement ColumnsMarks, walked.
  Conditions: none.
-/
namespace Go.Proofs.YtikpnhdjjabdmaaDoor
open Go.AM
open Go.Proofs
open Go.Col
set_option maxRecDepth 100000

end Go.Proofs.YtikpnhdjjabdmaaDoor

/-
  Plain law: ignored lines, the columns 1 to 6 and those from 73 on change nothing but positions.
  Conditions: none.
-/
namespace Go.Proofs.YtikpnhdjjabdmaaDoor
open Go.AM
open Go.Proofs
open Go.Col
set_option maxRecDepth 100000

def FSim (f g : FaultC) : Prop := (f = okF ∧ g = okF) ∨ (f.e = g.e ∧ f.e ≠ 0)
theorem FSim.ok {f g : FaultC} (h : FSim f g) : f = okF ↔ g = okF := by
  rcases h with ⟨h1, h2⟩ | ⟨h1, h2⟩
  · exact ⟨fun _ => h2, fun _ => h1⟩
  · refine ⟨fun e => absurd (by rw [e]; rfl) h2, fun e => absurd ?_ h2⟩
    rw [h1, e]; rfl
theorem FSim.of {a l c l' c' : Int} (h : a ≠ 0) : FSim ⟨a, l, c⟩ ⟨a, l', c'⟩ := .inr ⟨rfl, h⟩
theorem FSim.refl : FSim okF okF := .inl ⟨rfl, rfl⟩
def Skip (dbg : Bool) (s : Str) : Prop := ∀ n : Int, (lineE s n dbg).2.1 = false ∧ (lineE s n dbg).2.2 = okF

theorem readL_last {dbg : Bool} {t : Str} (ht : Skip dbg t) : ∀ (l : List Str) (n : Int) (x : Rd), readL dbg (l ++ [t]) n x = readL dbg l n x
  | [], n, x => by
    cases hp : lineE t n dbg with
    | mk r q =>
      obtain ⟨cn, f⟩ := q
      obtain ⟨h1, h2⟩ := ht n
      rw [hp] at h1 h2
      simp only at h1 h2
      subst h1 h2
      rw [List.nil_append, readL_skip hp rfl]
      rfl
  | s :: l, n, x => by
    rw [List.cons_append, readL, readL]
    cases lineE s n dbg with
    | mk r q =>
      obtain ⟨cn, f⟩ := q
      simp only [readL_last ht l]
theorem skip_of {dbg : Bool} {s : Str} (h : ¬ 80 < s.length) (hb : badAt s = none) (hk : ((padE s).getD 6 0 = 42 ∨ (padE s).getD 6 0 = 47) ∨ (((padE s).getD 6 0 = 68 ∨ (padE s).getD 6 0 = 100) ∧ dbg = false) ∨ (((padE s).getD 6 0 = 32 ∨ (padE s).getD 6 0 = 45) ∧ trimL (((padE s).drop 7).take 65) = [])) : Skip dbg s := by
  intro n
  rw [lineE_none h hb]
  have ht : (rowE s n).text = trimL (((padE s).drop 7).take 65) := rfl
  rw [ht]
  rcases hk with hk | hk | hk
  · rw [if_pos hk]; exact ⟨rfl, rfl⟩
  · by_cases h1 : (padE s).getD 6 0 = 42 ∨ (padE s).getD 6 0 = 47
    · rw [if_pos h1]; exact ⟨rfl, rfl⟩
    · rw [if_neg h1, if_pos hk.1]
      exact ⟨by rw [hk.2]; rfl, rfl⟩
  · have h1 : ¬ ((padE s).getD 6 0 = 42 ∨ (padE s).getD 6 0 = 47) := by rcases hk.1 with e | e <;> rw [e] <;> decide
    have h2 : ¬ ((padE s).getD 6 0 = 68 ∨ (padE s).getD 6 0 = 100) := by rcases hk.1 with e | e <;> rw [e] <;> decide
    rw [if_neg h1, if_neg h2, if_pos hk.1, hk.2]
    exact ⟨rfl, rfl⟩
/-- The lines that are inserted. -/
def moreL : List Str := [[], [32, 32, 32, 32, 32, 32, 42, 34], [32, 32, 32, 32, 32, 32, 47, 97, 110, 121, 116, 104, 105, 110, 103], [32, 32, 32, 32, 32, 32, 68, 32, 32, 32, 32, 88], [32, 32, 32, 32, 32, 32, 100, 88], sp 80, [49, 50, 51, 52, 53, 54], [32, 32, 32, 32, 32, 32, 45]]
theorem more_skip : ∀ i, i < 8 → Skip false (moreL.getD i [])
  | 0, _ => skip_of (by decide) (by decide) (by decide)
  | 1, _ => skip_of (by decide) (by decide) (by decide)
  | 2, _ => skip_of (by decide) (by decide) (by decide)
  | 3, _ => skip_of (by decide) (by decide) (by decide)
  | 4, _ => skip_of (by decide) (by decide) (by decide)
  | 5, _ => skip_of (by decide) (by decide) (by decide)
  | 6, _ => skip_of (by decide) (by decide) (by decide)
  | 7, _ => skip_of (by decide) (by decide) (by decide)
  | n + 8, h => by omega
theorem nil_skip : Skip false [] := more_skip 0 (by decide)
theorem readL_trim (s : Str) (n : Int) (x : Rd) : readL false (splitNL (trimNL s)) n x = readL false (splitNL s) n x := by
  rcases splitNL_trim s with e | e
  · rw [e]
  · rw [e, readL_last nil_skip]
end Go.Proofs.YtikpnhdjjabdmaaDoor

