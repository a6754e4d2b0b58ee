/-
  Texts of this proof, joined: CoI, CoJ, TkO, TkP, TkQ, CoK, CoL, CoM, CoN, CoO, CoP, CoQ.
  Conditions: none.
-/
import Derived.Test.YtmadddihphkmoaaDoorPf
import Derived.Test.YtmadddihphkmoaaDoorPe
import Derived.Test.YtmadddihphkmoaaDoorPc
set_option linter.unusedSimpArgs false
set_option linter.unnecessarySimpa false
set_option linter.unusedVariables false
/-
  Contracts: Read of the package columns.
  Conditions: none.
-/
namespace Go.Proofs.YtmadddihphkmoaaDoor
open Go.AM
open Go.Proofs
open Go.Col
set_option maxRecDepth 100000

/-- What Read answers. -/
def ReadR (w₀ : World) (h : AHeap) (text : Str) (dbg : Bool) (v : AVal) (h' : AHeap) : Prop := ∃ cv, v = .tuple [cv, faultA (readE text dbg).2] ∧ IsCards w₀ h' cv (readE text dbg).1 ∧ Sub h h'
structure RdL where
  i : Nat
  B : AHeap
  M : AHeap
  cb : Option Buf
  mb : Option Buf
  x : Rd
theorem faultA_eq (f : FaultC) : (decide (f.e = 0) && (decide (f.line = 0) && decide (f.col = 0))) = decide (f = okF) := by
  obtain ⟨a, b, c⟩ := f
  rw [Bool.eq_iff_iff]
  simp [okF]
theorem readL_skip {s : Str} {l : List Str} {n : Int} {x : Rd} {dbg : Bool} {r : RowC} {f : FaultC} (hp : lineE s n dbg = (r, false, f)) (hf : f = okF) : readL dbg (s :: l) n x = readL dbg l (n + 1) x := by
  rw [readL, hp]
  simp only
  rw [if_pos ⟨hf, trivial⟩]
theorem readL_fault {s : Str} {l : List Str} {n : Int} {x : Rd} {dbg : Bool} {r : RowC} {cn : Bool} {f : FaultC} (hp : lineE s n dbg = (r, cn, f)) (hf : f ≠ okF) : readL dbg (s :: l) n x = (x, f) := by
  rw [readL, hp]
  simp only
  rw [if_neg (fun e => hf e.1), if_neg hf]
theorem readL_bad {s : Str} {l : List Str} {n : Int} {x : Rd} {dbg : Bool} {r : RowC} {f : FaultC} (hp : lineE s n dbg = (r, true, f)) (hf : f = okF) (hg : (takeE x r).2 ≠ okF) : readL dbg (s :: l) n x = ((takeE x r).1, (takeE x r).2) := by
  rw [readL, hp]
  simp only
  rw [if_neg (fun e => by cases e.2), if_pos hf, if_neg hg]
theorem readL_take {s : Str} {l : List Str} {n : Int} {x : Rd} {dbg : Bool} {r : RowC} {f : FaultC} (hp : lineE s n dbg = (r, true, f)) (hf : f = okF) (hg : (takeE x r).2 = okF) : readL dbg (s :: l) n x = readL dbg l (n + 1) (takeE x r).1 := by
  rw [readL, hp]
  simp only
  rw [if_neg (fun e => by cases e.2), if_pos hf, if_pos hg]
theorem readE_fault {text : Str} {dbg : Bool} (hl : text.length ≤ 1048576) {x : Rd} {f : FaultC} (h : readL dbg (splitNL (trimNL text)) 1 .start = (x, f)) (hf : f ≠ okF) : readE text dbg = ([], f) := by
  unfold readE
  rw [if_neg (by omega), h]
  simp only
  rw [if_pos hf]
theorem splitNL_mem : ∀ (s : Str), ∀ l ∈ splitNL s, l.length ≤ s.length
  | [], l, h => by simp [splitNL] at h; subst h; simp
  | b :: s, l, h => by
    have ih := splitNL_mem s
    unfold splitNL at h
    split at h
    · rcases List.mem_cons.1 h with rfl | h
      · simp
      · have := ih l h; simp; omega
    · split at h
      · rename_i e
        simp only [List.mem_singleton] at h
        subst h
        simp
      · rename_i l0 ls e
        rcases List.mem_cons.1 h with rfl | h
        · have := ih l0 (by rw [e]; simp); simp; omega
        · have := ih l (by rw [e]; simp [h]); simp; omega
theorem readE_odd {text : Str} {dbg : Bool} (hl : text.length ≤ 1048576) {x : Rd} (h : readL dbg (splitNL (trimNL text)) 1 .start = (x, okF)) (ho : x.odd = true) : readE text dbg = ([], ⟨4, x.line, x.col⟩) := by
  unfold readE
  rw [if_neg (by omega), h]
  simp only
  rw [if_neg (by simp), if_pos ho]
theorem readE_ok {text : Str} {dbg : Bool} (hl : text.length ≤ 1048576) {x : Rd} (h : readL dbg (splitNL (trimNL text)) 1 .start = (x, okF)) (ho : x.odd = false) : readE text dbg = (x.cards, okF) := by
  unfold readE
  rw [if_neg (by omega), h]
  simp only
  rw [if_neg (by simp), if_neg (by rw [ho]; decide)]
/-- Nothing has been read. -/
theorem readEnd0 (w₀ : World) (h B0 : AHeap) (hs0 : Sub h B0) (kr kx : Nat) (text : Str) (dbg : Bool) (hl : text.length ≤ 1048576) (er : B0 kr = some ⟨[.int .i64 0, .int .i64 0, .int .i64 0], 0⟩) (hr : h kr = none)
    (B M : AHeap) (cb mb : Option Buf) (x : Rd) (ri : RdInv w₀ B0 kx B M cb mb x) (hcards : x.cards = []) (hrl : readL dbg (splitNL (trimNL text)) 1 .start = (x, okF)) :
    Awp Tryd.prog w₀ 82 (dropSeq 5 (unScope (dropSeq 1 (bodyOf Tryd.f13)))) (noGotoA (retA Tryd.prog w₀ [.tmp 4, .cell 5 28] (ReadR w₀ h text dbg))) [(5, .ptr (.own kr) 0), (6, .ptr (.own kx) 0)] (rdH kx B cb mb x) := by
  obtain ⟨rfl, rfl⟩ : cb = none ∧ mb = none := by
    rcases ri.cards with e | ⟨done, c, kc, e, _⟩
    · exact e.2
    · rw [hcards] at e; simp at e
  have rix := fun o => rd_own w₀ ri.at o
  have hnil : bufV 3 none = .nilSlice := rfl
  change Awp _ _ _ (Code.seq _ _) _ _ _
  refine awp_seq ?_
  -- region 15  columns.go:141
  refine awp_rseq [5, 6, 55] (by rfl) fun K hK => ?_
  simp (decide := true) only [aOps_nil, ev, putD, Slots.put, Slots.get, Slots.keep, if_true, if_false, true_and, ↓ap_fieldAddr, pop_fieldAddr, fa56_2, ↓ap_loadL, apL_mk, pLoad_one ag4, List.getD_cons_zero, List.getD_cons_succ, Nat.zero_add, lv_bool, rix, rdCells, hnil]
  repeat (with_reducible refine And.intro ?_ ?_; · first | trivial | omega | (intro hg; simp only [Bool.and_eq_true, Bool.or_eq_true, Bool.not_eq_true', Bool.and_eq_false_iff, Bool.or_eq_false_iff, Bool.not_eq_false', decide_eq_true_eq, decide_eq_false_iff_not, eqNil] at hg; omega) )
  apply hK; clear hK K
  refine awp_cond (b := _) rfl (fun hb1 => ?_) (fun hb1 => ?_)
  · try simp only [decide_eq_true_eq, decide_eq_false_iff_not, Bool.not_eq_true', Bool.not_eq_false', Bool.and_eq_true, Bool.and_eq_false_iff, Bool.or_eq_true, Bool.or_eq_false_iff, Bool.true_eq, Bool.false_eq, reduceCtorEq] at hb1
    have hres := readE_odd hl hrl hb1
    -- region 16  columns.go:142
    refine awp_dseq_tail 4 [4, 5] mixed (by kernel_rfl) (by rfl) (by rfl) fun K hK => ?_
    simp (decide := true) only [ev, absV, absS, putD, Slots.put, Slots.get, if_true, if_false, true_and, ↓ap_fieldAddr, pop_fieldAddr, fa56_1, ↓ap_loadL, apL_mk, pLoad_agg ag26 sz26, ↓ap_build, ↓pop_buildL, bld28_0_1, evP, List.map_cons, List.map_nil, ↓ap_assign, pop_assign, cellsAt, List.getD_cons_zero, List.getD_cons_succ, Nat.zero_add, Nat.reduceAdd, lv_int, allLive, Bool.and_true, rix, rdCells, hnil]
    repeat (with_reducible refine And.intro ?_ ?_; · first | trivial | omega | (intro hg; simp only [Bool.and_eq_true, Bool.or_eq_true, Bool.not_eq_true', Bool.and_eq_false_iff, Bool.or_eq_false_iff, Bool.not_eq_false', decide_eq_true_eq, decide_eq_false_iff_not, eqNil] at hg; omega) )
    refine aOps_store (v := .agg [.int .i64 4, .int .i64 x.line, .int .i64 x.col]) (by rfl) (by rfl) (ri.other (ri.sub _ _ er)) sz28 (by rfl) (by rfl) (by simp []) (Nat.zero_le _) (by rfl) ?_
    simp only [setAt, AVal.cells, List.set_cons_zero, List.set_cons_succ, Nat.zero_add, Nat.reduceAdd]
    simp (decide := true) only [aOps_nil, putD, Slots.keep, if_true, if_false]
    repeat (with_reducible refine And.intro ?_ ?_; · first | trivial | omega | (intro hg; simp only [Bool.and_eq_true, Bool.or_eq_true, Bool.not_eq_true', Bool.and_eq_false_iff, Bool.or_eq_false_iff, Bool.not_eq_false', decide_eq_true_eq, decide_eq_false_iff_not, eqNil] at hg; omega) )
    apply hK; clear hK K
    refine awp_ret ?_
    try simp only [thenA_ret, noGotoA_ret]
    refine retA_ret h (Sub.trans_set (hs0.trans ri.above) hr) (?_) ?_
    · simp (decide := true) only [resPre, resV_tmp, resV_cell, Slots.get, if_true, if_false, and_true, resV_tmp, resV_cell, pLoad_agg ag28 sz28, rd_set, cellsAt, List.getD_cons_zero, List.getD_cons_succ, Nat.zero_add, Nat.reduceAdd, lv_int, allLive, Bool.and_true, cellsAt, List.getD_cons_zero, List.getD_cons_succ, Nat.zero_add, Nat.reduceAdd, lv_int, allLive, Bool.and_true]
    
    simp (decide := true) only [Slots.get, if_true, if_false, resOfG_two, resV_tmp, resV_cell, pLoad_agg ag28 sz28, rd_set, cellsAt, List.getD_cons_zero, List.getD_cons_succ, Nat.zero_add, Nat.reduceAdd, lv_int, allLive, Bool.and_true, cellsAt, List.getD_cons_zero, List.getD_cons_succ, Nat.zero_add, Nat.reduceAdd, lv_int, allLive, Bool.and_true]
    exact ⟨.nilSlice, by rw [hres]; rfl, by rw [hres]; exact ⟨[], rfl, .nil, by simp⟩, Sub.refl _⟩
  · try simp only [decide_eq_true_eq, decide_eq_false_iff_not, Bool.not_eq_true', Bool.not_eq_false', Bool.and_eq_true, Bool.and_eq_false_iff, Bool.or_eq_true, Bool.or_eq_false_iff, Bool.true_eq, Bool.false_eq, reduceCtorEq] at hb1
    have hres := readE_ok hl hrl hb1
    refine awp_skip ?_
    change Awp _ _ _ _ _ _ _
    refine awp_seq ?_
    -- region 17  columns.go:144
    refine awp_rseq [5, 6, 61, 62] (by rfl) fun K hK => ?_
    simp (decide := true) only [aOps_nil, ev, absV, absS, putD, Slots.put, Slots.get, Slots.keep, if_true, if_false, true_and, ↓ap_fieldAddr, pop_fieldAddr, fa56_0, ↓ap_loadL, apL_mk, pLoad_one ag44, ↓ap_len, pop_len, pLen_nil Tryd.underlying44, ↓ap_move, pop_move, List.getD_cons_zero, Nat.zero_add, lv_nilSlice, rix, rdCells, hnil]
    repeat (with_reducible refine And.intro ?_ ?_; · first | trivial | omega | (intro hg; simp only [Bool.and_eq_true, Bool.or_eq_true, Bool.not_eq_true', Bool.and_eq_false_iff, Bool.or_eq_false_iff, Bool.not_eq_false', decide_eq_true_eq, decide_eq_false_iff_not, eqNil] at hg; omega) )
    apply hK; clear hK K
    refine awp_block ?_
    refine awp_loopG [5, 6, 61, 62] (fun g : Unit => [(5, .ptr (.own kr) 0), (6, .ptr (.own kx) 0), (61, .int .i64 0), (62, .int .i64 0)]) (fun g : Unit => rdH kx B none none x) (fun g : Unit => True) (fun g : Unit => 0) () (by rfl) (Sub.refl _) trivial ?_
    intro _ _
    -- region 18  columns.go:144
    refine awp_rseq [5, 6, 61, 62, 63] (by rfl) fun K hK => ?_
    simp (decide := true) only [aOps_nil, ev, putD, Slots.put, Slots.get, Slots.keep, if_true, if_false, true_and, ↓ap_binOp, pop_binOp, isNilC_tmp, cond_false, pBinX_int, pI_lss]
    repeat (with_reducible refine And.intro ?_ ?_; · first | trivial | omega | (intro hg; simp only [Bool.and_eq_true, Bool.or_eq_true, Bool.not_eq_true', Bool.and_eq_false_iff, Bool.or_eq_false_iff, Bool.not_eq_false', decide_eq_true_eq, decide_eq_false_iff_not, eqNil] at hg; omega) )
    apply hK; clear hK K
    refine awp_seq (awp_cond (b := _) rfl (fun hb2 => ?_) (fun hb2 => ?_))
    · exact absurd hb2 (by decide)
    · try simp only [decide_eq_false_iff_not] at hb2
      refine awp_exit ?_
      change Awp _ _ _ _ _ _ _
      -- region 22  columns.go:147
      refine awp_rseq [4, 5] (by rfl) fun K hK => ?_
      simp (decide := true) only [ev, putD, Slots.put, Slots.get, if_true, if_false, true_and, ↓ap_fieldAddr, pop_fieldAddr, fa56_0, ↓ap_loadL, apL_mk, pLoad_one ag44, List.getD_cons_zero, Nat.zero_add, lv_nilSlice, rix, rdCells, hnil]
      repeat (with_reducible refine And.intro ?_ ?_; · first | trivial | omega | (intro hg; simp only [Bool.and_eq_true, Bool.or_eq_true, Bool.not_eq_true', Bool.and_eq_false_iff, Bool.or_eq_false_iff, Bool.not_eq_false', decide_eq_true_eq, decide_eq_false_iff_not, eqNil] at hg; omega) )
      refine aOps_callV (V := .nilSlice) (by rfl) (by rfl) ((c_clipC w₀ _ .nilSlice [] .nil)) ?_
      simp (decide := true) only [ev, absV, absS, putD, Slots.put, Slots.get, if_true, if_false, true_and, ↓ap_build, ↓pop_buildL, bld28_, evP, List.map_nil, ↓ap_assign, pop_assign]
      repeat (with_reducible refine And.intro ?_ ?_; · first | trivial | omega | (intro hg; simp only [Bool.and_eq_true, Bool.or_eq_true, Bool.not_eq_true', Bool.and_eq_false_iff, Bool.or_eq_false_iff, Bool.not_eq_false', decide_eq_true_eq, decide_eq_false_iff_not, eqNil] at hg; omega) )
      refine aOps_store (v := .agg [.int .i64 0, .int .i64 0, .int .i64 0]) (by rfl) (by rfl) (ri.other (ri.sub _ _ er)) sz28 (by rfl) (by rfl) (by simp []) (Nat.zero_le _) (by rfl) ?_
      simp only [setAt, AVal.cells, List.set_cons_zero, List.set_cons_succ, Nat.zero_add, Nat.reduceAdd]
      simp (decide := true) only [aOps_nil, putD, Slots.keep, if_true, if_false]
      repeat (with_reducible refine And.intro ?_ ?_; · first | trivial | omega | (intro hg; simp only [Bool.and_eq_true, Bool.or_eq_true, Bool.not_eq_true', Bool.and_eq_false_iff, Bool.or_eq_false_iff, Bool.not_eq_false', decide_eq_true_eq, decide_eq_false_iff_not, eqNil] at hg; omega) )
      apply hK; clear hK K
      refine awp_ret ?_
      try simp only [noGotoA_ret]
      refine retA_ret h (Sub.trans_set (hs0.trans ri.above) hr) (?_) ?_
      · simp (decide := true) only [resPre, resV_tmp, resV_cell, Slots.get, if_true, if_false, and_true, resV_tmp, resV_cell, pLoad_agg ag28 sz28, rd_set, cellsAt, List.getD_cons_zero, List.getD_cons_succ, Nat.zero_add, Nat.reduceAdd, lv_int, allLive, Bool.and_true, cellsAt, List.getD_cons_zero, List.getD_cons_succ, Nat.zero_add, Nat.reduceAdd, lv_int, allLive, Bool.and_true]
      
      simp (decide := true) only [Slots.get, if_true, if_false, resOfG_two, resV_tmp, resV_cell, pLoad_agg ag28 sz28, rd_set, cellsAt, List.getD_cons_zero, List.getD_cons_succ, Nat.zero_add, Nat.reduceAdd, lv_int, allLive, Bool.and_true, cellsAt, List.getD_cons_zero, List.getD_cons_succ, Nat.zero_add, Nat.reduceAdd, lv_int, allLive, Bool.and_true]
      exact ⟨.nilSlice, by rw [hres]; rfl, by rw [hres, hcards]; exact ⟨[], rfl, .nil, by simp⟩, Sub.refl _⟩

def clipP (p : CardC × AVal) : CardC × AVal := (p.1, capL p.2)
theorem flat_len3 (l : List (CardC × AVal)) : (l.map cell3).flatten.length = l.length * 3 := by
  rw [flatten_len (es := 3) (by intro y hy; obtain ⟨p, _, rfl⟩ := List.mem_map.1 hy; rfl), List.length_map]
theorem flat_set : ∀ (l : List (CardC × AVal)) (i : Nat) (v : AVal) (hi : i < l.length), setAt (l.map cell3).flatten (i * 3 + 2) [v] = ((l.set i ((l[i]).1, v)).map cell3).flatten
  | p :: l, 0, v, _ => rfl
  | p :: l, i + 1, v, hi => by
    have ih := flat_set l i v (by simpa using hi)
    simp only [setAt] at ih ⊢
    simp only [List.map_cons, List.flatten_cons, List.set_cons_succ, List.getElem_cons_succ]
    rw [← ih, List.set_append_right _ _ (by rw [cell3_wide]; omega), cell3_wide, show (i + 1) * 3 + 2 - 3 = i * 3 + 2 by omega]
theorem flat_get (l : List (CardC × AVal)) (i : Nat) (hi : i < l.length) : (l.map cell3).flatten.getD (i * 3 + 2) .dead = (l[i]).2 := by
  rw [List.getD, flatten_get (es := 3) (by intro y hy; obtain ⟨p, _, rfl⟩ := List.mem_map.1 hy; rfl) (by rw [List.length_map]; exact hi) (by decide)]
  simp [List.getD, hi, cell3]
/-- The marks of the first i cards have been cut to size. -/
def psi (ps : List (CardC × AVal)) (i : Nat) : List (CardC × AVal) := (ps.take i).map clipP ++ ps.drop i
theorem psi_len (ps : List (CardC × AVal)) (i : Nat) : (psi ps i).length = ps.length := by
  unfold psi
  simp
  omega
theorem psi_get (ps : List (CardC × AVal)) (i : Nat) (hi : i < ps.length) : (psi ps i)[i]'(by rw [psi_len]; exact hi) = ps[i] := by
  unfold psi
  rw [List.getElem_append_right (by simp; omega)]
  simp [Nat.min_eq_left (Nat.le_of_lt hi)]
theorem psi_next (ps : List (CardC × AVal)) (i : Nat) (hi : i < ps.length) : (psi ps i).set i (clipP ps[i]) = psi ps (i + 1) := by
  unfold psi
  have hl : ((ps.take i).map clipP).length = i := by simp; omega
  rw [List.set_append_right _ _ (by omega), hl, Nat.sub_self, List.drop_eq_getElem_cons hi, List.set_cons_zero, List.take_add_one, List.getElem?_eq_getElem hi, Option.toList_some, List.map_append, List.append_assoc]
  rfl
theorem bufOk_blk {H : AHeap} {es : Nat} {b : Option Buf} {c : Buf} (h : bufOk H es b) (e : b = some c) : H c.blk = none := by subst e; exact h.1
theorem bufH_blk {H : AHeap} {b : Option Buf} {c : Buf} (e : b = some c) : bufH H b = H.set c.blk ⟨c.cells, 0⟩ := by subst e; rfl
theorem readEnd1 (w₀ : World) (h B0 : AHeap) (hs0 : Sub h B0) (kr kx : Nat) (text : Str) (dbg : Bool) (hl : text.length ≤ 1048576) (er : B0 kr = some ⟨[.int .i64 0, .int .i64 0, .int .i64 0], 0⟩) (hr : h kr = none)
    (B M : AHeap) (cb mb : Option Buf) (x : Rd) (ri : RdInv w₀ B0 kx B M cb mb x) (hcards : x.cards ≠ []) (hsm : x.cards.length ≤ 1099511627776) (hrl : readL dbg (splitNL (trimNL text)) 1 .start = (x, okF)) :
    Awp Tryd.prog w₀ 82 (dropSeq 5 (unScope (dropSeq 1 (bodyOf Tryd.f13)))) (noGotoA (retA Tryd.prog w₀ [.tmp 4, .cell 5 28] (ReadR w₀ h text dbg))) [(5, .ptr (.own kr) 0), (6, .ptr (.own kx) 0)] (rdH kx B cb mb x) := by
  obtain ⟨ps, kc, hps, hcb, hv, hL, hMM, hMk⟩ : ∃ (ps : List (CardC × AVal)) (kc : Nat), ps.map (·.1) = x.cards ∧ cb = some ⟨kc, (ps.map cell3).flatten⟩ ∧ bufV 3 cb = .slice (.own kc) 0 ps.length (.grow 3) ∧ (∀ p ∈ ps, IsL w₀ (bufH M mb) 3 p.2 (p.1.marks.map markC)) ∧ bufH M mb kc = none ∧ Sub (bufH M mb) (rdH kx B cb mb x) := by
    rcases ri.cards with ⟨e, _⟩ | ⟨done, c, kc, e1, e2, e3, e4⟩
    · exact absurd e hcards
    · obtain ⟨q1, q2, q3⟩ := bufSwap ri.okc ri.okm
      obtain ⟨p1, p2, p3⟩ := bufPut (d := ⟨rdCells cb x, 0⟩) q2
      have pM := p2.sub ri.subM
      have hf : (done.map cell3).flatten ++ [.bool c.left, .str c.text, bufV 3 mb] = ((done ++ [(c, bufV 3 mb)]).map cell3).flatten := by simp [cell3]
      have hkc : (bufH (B.set kx ⟨rdCells cb x, 0⟩) mb) kc = none := bufOk_blk q3 e2
      have hkx : kc ≠ kx := fun e => by
        rw [p1, e, AHeap.set_same] at hkc
        cases hkc
      have hMB : Sub (bufH M mb) (bufH B mb) := by
        cases mb with
        | none => exact ri.subM
        | some b => exact Sub.set_both ri.subM _ _
      have hkcB : bufH B mb kc = none := by rwa [p1, AHeap.set_ne _ _ hkx] at hkc
      refine ⟨done ++ [(c, bufV 3 mb)], kc, by rw [e1]; simp, by rw [e2, hf], ?_, fun p hp => ?_, hMB.none hkcB, ?_⟩
      · rw [e2, bufV_some, hf, flat_len3]
        simp
      · rw [List.mem_append] at hp
        rcases hp with hp | hp
        · exact (e4 p hp).mono (Sub.buf pM)
        · rw [List.mem_singleton.1 hp]
          exact IsL.buf pM (by decide) e3 (by intro y hy; obtain ⟨m, _, rfl⟩ := List.mem_map.1 hy; rfl) (Sub.refl _)
      · refine Sub.trans hMB ?_
        unfold rdH
        rw [q1, bufH_blk e2]
        refine Sub.trans ?_ (Sub.set hkc)
        rw [p1]
        exact Sub.set (by rw [p3]; exact ri.hk)
  have hkcx : (rdH kx B cb mb x) kc = some ⟨(ps.map cell3).flatten, 0⟩ := by
    have := ri.okm
    unfold rdH
    exact bufAt ri.okm (by rw [hcb]; exact AHeap.set_same _ _ _)
  have hkx := ri.at
  have hne : kx ≠ kc := fun e => by
    rw [← e, hkx] at hkcx
    have := congrArg (fun o => (o.map fun b => b.cells.length).getD 0) hkcx
    simp only [Option.map_some, Option.getD_some, rdCells, List.length_cons, List.length_nil, flat_len3] at this
    omega
  have hlenp : ps.length = x.cards.length := by rw [← hps, List.length_map]
  have hkr := ri.other (ri.sub _ _ er)
  have hrc : kr ≠ kc := fun e => by
    rw [e, hkcx] at hkr
    have := congrArg (fun o => (o.map fun b => b.cells.length).getD 0) hkr
    simp only [Option.map_some, Option.getD_some, List.length_cons, List.length_nil, flat_len3] at this
    have h1 : ps.length = 1 := by omega
    match ps, h1 with
    | [p], _ => simp [cell3] at hkr
  have hhc : h kc = none := by
    cases hc : h kc with
    | none => rfl
    | some b =>
      have := ri.sub _ _ (hs0 _ _ hc)
      have h2 := ri.okc
      rw [hcb] at h2
      have := (AHeap.set_ne B ⟨rdCells (some ⟨kc, (ps.map cell3).flatten⟩) x, 0⟩ hne.symm).symm.trans h2.1
      simp_all
  obtain ⟨H0, hH0⟩ : ∃ H0, H0 = rdH kx B cb mb x := ⟨_, rfl⟩
  have hsub : Sub h H0 := by rw [hH0]; exact hs0.trans ri.above
  rw [← hH0] at hkcx hkx hkr hMk ⊢
  have rix := fun o => rd_own w₀ hkx o
  change Awp _ _ _ (Code.seq _ _) _ _ _
  refine awp_seq ?_
  -- region 15  columns.go:141
  refine awp_rseq [5, 6, 55] (by rfl) fun K hK => ?_
  simp (decide := true) only [aOps_nil, ev, putD, Slots.put, Slots.get, Slots.keep, if_true, if_false, true_and, ↓ap_fieldAddr, pop_fieldAddr, fa56_2, ↓ap_loadL, apL_mk, pLoad_one ag4, List.getD_cons_zero, List.getD_cons_succ, Nat.zero_add, lv_bool, rix, rdCells, hv]
  repeat (with_reducible refine And.intro ?_ ?_; · first | trivial | omega | (intro hg; simp only [Bool.and_eq_true, Bool.or_eq_true, Bool.not_eq_true', Bool.and_eq_false_iff, Bool.or_eq_false_iff, Bool.not_eq_false', decide_eq_true_eq, decide_eq_false_iff_not, eqNil] at hg; omega) )
  apply hK; clear hK K
  refine awp_cond (b := _) rfl (fun hb1 => ?_) (fun hb1 => ?_)
  · try simp only [decide_eq_true_eq, decide_eq_false_iff_not, Bool.not_eq_true', Bool.not_eq_false', Bool.and_eq_true, Bool.and_eq_false_iff, Bool.or_eq_true, Bool.or_eq_false_iff, Bool.true_eq, Bool.false_eq, reduceCtorEq] at hb1
    have hres := readE_odd hl hrl hb1
    -- region 16  columns.go:142
    refine awp_dseq_tail 4 [4, 5] mixed (by kernel_rfl) (by rfl) (by rfl) fun K hK => ?_
    simp (decide := true) only [ev, absV, absS, putD, Slots.put, Slots.get, if_true, if_false, true_and, ↓ap_fieldAddr, pop_fieldAddr, fa56_1, ↓ap_loadL, apL_mk, pLoad_agg ag26 sz26, ↓ap_build, ↓pop_buildL, bld28_0_1, evP, List.map_cons, List.map_nil, ↓ap_assign, pop_assign, cellsAt, List.getD_cons_zero, List.getD_cons_succ, Nat.zero_add, Nat.reduceAdd, lv_int, allLive, Bool.and_true, rix, rdCells, hv]
    repeat (with_reducible refine And.intro ?_ ?_; · first | trivial | omega | (intro hg; simp only [Bool.and_eq_true, Bool.or_eq_true, Bool.not_eq_true', Bool.and_eq_false_iff, Bool.or_eq_false_iff, Bool.not_eq_false', decide_eq_true_eq, decide_eq_false_iff_not, eqNil] at hg; omega) )
    refine aOps_store (v := .agg [.int .i64 4, .int .i64 x.line, .int .i64 x.col]) (by rfl) (by rfl) hkr sz28 (by rfl) (by rfl) (by simp []) (Nat.zero_le _) (by rfl) ?_
    simp only [setAt, AVal.cells, List.set_cons_zero, List.set_cons_succ, Nat.zero_add, Nat.reduceAdd]
    simp (decide := true) only [aOps_nil, putD, Slots.keep, if_true, if_false]
    repeat (with_reducible refine And.intro ?_ ?_; · first | trivial | omega | (intro hg; simp only [Bool.and_eq_true, Bool.or_eq_true, Bool.not_eq_true', Bool.and_eq_false_iff, Bool.or_eq_false_iff, Bool.not_eq_false', decide_eq_true_eq, decide_eq_false_iff_not, eqNil] at hg; omega) )
    apply hK; clear hK K
    refine awp_ret ?_
    try simp only [thenA_ret, noGotoA_ret]
    refine retA_ret h (Sub.trans_set hsub hr) (?_) ?_
    · simp (decide := true) only [resPre, resV_tmp, resV_cell, Slots.get, if_true, if_false, and_true, resV_tmp, resV_cell, pLoad_agg ag28 sz28, rd_set, cellsAt, List.getD_cons_zero, List.getD_cons_succ, Nat.zero_add, Nat.reduceAdd, lv_int, allLive, Bool.and_true, cellsAt, List.getD_cons_zero, List.getD_cons_succ, Nat.zero_add, Nat.reduceAdd, lv_int, allLive, Bool.and_true]
    
    simp (decide := true) only [Slots.get, if_true, if_false, resOfG_two, resV_tmp, resV_cell, pLoad_agg ag28 sz28, rd_set, cellsAt, List.getD_cons_zero, List.getD_cons_succ, Nat.zero_add, Nat.reduceAdd, lv_int, allLive, Bool.and_true, cellsAt, List.getD_cons_zero, List.getD_cons_succ, Nat.zero_add, Nat.reduceAdd, lv_int, allLive, Bool.and_true]
    exact ⟨.nilSlice, by rw [hres]; rfl, by rw [hres]; exact ⟨[], rfl, .nil, by simp⟩, Sub.refl _⟩
  · try simp only [decide_eq_true_eq, decide_eq_false_iff_not, Bool.not_eq_true', Bool.not_eq_false', Bool.and_eq_true, Bool.and_eq_false_iff, Bool.or_eq_true, Bool.or_eq_false_iff, Bool.true_eq, Bool.false_eq, reduceCtorEq] at hb1
    have hres := readE_ok hl hrl hb1
    refine awp_skip ?_
    change Awp _ _ _ _ _ _ _
    refine awp_seq ?_
    -- region 17  columns.go:144
    refine awp_rseq [5, 6, 61, 62] (by rfl) fun K hK => ?_
    simp (decide := true) only [aOps_nil, ev, absV, absS, putD, Slots.put, Slots.get, Slots.keep, if_true, if_false, true_and, ↓ap_fieldAddr, pop_fieldAddr, fa56_0, ↓ap_loadL, apL_mk, pLoad_one ag44, ↓ap_len, pop_len, pLen_slice Tryd.underlying44, ↓ap_move, pop_move, List.getD_cons_zero, Nat.zero_add, lv_slice, rix, rdCells, hv]
    repeat (with_reducible refine And.intro ?_ ?_; · first | trivial | omega | (intro hg; simp only [Bool.and_eq_true, Bool.or_eq_true, Bool.not_eq_true', Bool.and_eq_false_iff, Bool.or_eq_false_iff, Bool.not_eq_false', decide_eq_true_eq, decide_eq_false_iff_not, eqNil] at hg; omega) )
    apply hK; clear hK K
    refine awp_block ?_
    refine awp_loopG [5, 6, 61, 62] (fun i : Nat => [(5, .ptr (.own kr) 0), (6, .ptr (.own kx) 0), (61, .int .i64 ps.length), (62, .int .i64 i)]) (fun i : Nat => H0.set kc ⟨((psi ps i).map cell3).flatten, 0⟩) (fun i : Nat => i ≤ ps.length) (fun i : Nat => ps.length - i) 0 (by rfl) (by rw [show psi ps 0 = ps from rfl, set_same_self hkcx]; exact Sub.refl _) (Nat.zero_le _) ?_
    intro i hi
    have hkxi := (AHeap.set_ne H0 ⟨((psi ps i).map cell3).flatten, 0⟩ hne).trans hkx
    have rii := fun o => rd_own w₀ hkxi o
    -- region 18  columns.go:144
    refine awp_rseq [5, 6, 61, 62, 63] (by rfl) fun K hK => ?_
    simp (decide := true) only [aOps_nil, ev, putD, Slots.put, Slots.get, Slots.keep, if_true, if_false, true_and, ↓ap_binOp, pop_binOp, isNilC_tmp, cond_false, pBinX_int, pI_lss]
    repeat (with_reducible refine And.intro ?_ ?_; · first | trivial | omega | (intro hg; simp only [Bool.and_eq_true, Bool.or_eq_true, Bool.not_eq_true', Bool.and_eq_false_iff, Bool.or_eq_false_iff, Bool.not_eq_false', decide_eq_true_eq, decide_eq_false_iff_not, eqNil] at hg; omega) )
    apply hK; clear hK K
    refine awp_seq (awp_cond (b := _) rfl (fun hb2 => ?_) (fun hb2 => ?_))
    · try simp only [decide_eq_true_eq] at hb2
      have hi' : i < ps.length := by omega
      have hg : ((psi ps i).map cell3).flatten.getD (i * 3 + 2) .dead = (ps[i]).2 := by rw [flat_get _ _ (by rw [psi_len]; exact hi'), psi_get ps i hi']
      have hMi : Sub (bufH M mb) (H0.set kc ⟨((psi ps i).map cell3).flatten, 0⟩) := Sub.trans_set hMk hMM
      have hLi := (hL _ (List.getElem_mem hi')).mono hMi
      have hlv := hLi.live
      refine awp_skip ?_
      change Awp _ _ _ _ _ _ _
      refine awp_seq ?_
      refine awp_block ?_
      -- region 19  columns.go:144
      refine awp_rseq [5, 6, 13, 61, 62] (by rfl) fun K hK => ?_
      simp (decide := true) only [aOps_nil, ev, putD, Slots.put, Slots.get, Slots.keep, if_true, if_false, true_and, ↓ap_move, pop_move, ↓ap_assign, pop_assign]
      repeat (with_reducible refine And.intro ?_ ?_; · first | trivial | omega | (intro hg; simp only [Bool.and_eq_true, Bool.or_eq_true, Bool.not_eq_true', Bool.and_eq_false_iff, Bool.or_eq_false_iff, Bool.not_eq_false', decide_eq_true_eq, decide_eq_false_iff_not, eqNil] at hg; omega) )
      apply hK; clear hK K
      -- region 20  columns.go:145
      refine awp_draw_anyT 12 mixed (by kernel_rfl) (by rfl) ?_
      simp only [List.take_succ_cons, List.take_zero, List.drop_succ_cons, List.drop_zero]
      simp (decide := true) only [ev, putD, Slots.put, Slots.get, if_true, if_false, true_and, ↓vp_fieldAddr, pop_fieldAddr, fa56_0, ↓vp_load, pop_load, pLoad_one ag44, ↓vp_move, pop_move, ↓vp_indexAddr, pIndexAddr_slice Tryd.underlying44 sz68, pop_indexAddr, fa68_2, pLoad_one ag63, rd_any, List.getD_cons_zero, Nat.zero_add, lv_slice, rii, rdCells, hv, Int.toNat_natCast, hg, hlv]
      repeat (with_reducible refine And.intro ?_ ?_; · first | trivial | omega | (intro hg; simp only [Bool.and_eq_true, Bool.or_eq_true, Bool.not_eq_true', Bool.and_eq_false_iff, Bool.or_eq_false_iff, Bool.not_eq_false', decide_eq_true_eq, decide_eq_false_iff_not, eqNil] at hg; omega) )
      refine vOps_callV (V := capL (ps[i]).2) (by rfl) (by rfl) (c_clipM w₀ _ _ _ hLi) ?_
      simp (decide := true) only [vOps_nil, ev, putD, Slots.put, Slots.get, if_true, if_false, true_and, ↓vp_indexAddr, pIndexAddr_slice Tryd.underlying44 sz68, pop_indexAddr, ↓vp_fieldAddr, pop_fieldAddr, fa68_2, Nat.zero_add, Int.toNat_natCast]
      repeat (with_reducible refine And.intro ?_ ?_; · first | trivial | omega | (intro hg; simp only [Bool.and_eq_true, Bool.or_eq_true, Bool.not_eq_true', Bool.and_eq_false_iff, Bool.or_eq_false_iff, Bool.not_eq_false', decide_eq_true_eq, decide_eq_false_iff_not, eqNil] at hg; omega) )
      try simp only [vOps_nil, fOps_nil]
      have hcl := hLi.clip
      have hset : setAt ((psi ps i).map cell3).flatten (i * 3 + 2) [capL (ps[i]).2] = ((psi ps (i + 1)).map cell3).flatten := by
        rw [flat_set _ _ _ (by rw [psi_len]; exact hi'), psi_get ps i hi', ← psi_next ps i hi']
        rfl
      refine aOps_store (v := capL (ps[i]).2) (by rfl) (by rfl) (AHeap.set_same _ _ _) sz63 hcl.live (by rw [hcl.cells]; rfl) (by simp only []; rw [flat_len3, psi_len]; omega) (Nat.zero_le _) (by rw [hcl.cells]; simp [allScal, hcl.scal]) ?_
      rw [AHeap.set_set, hcl.cells]
      simp only []
      rw [hset]
      simp (decide := true) only [aOps_nil, putD]
      repeat (with_reducible refine And.intro ?_ ?_; · first | trivial | omega | (intro hg; simp only [Bool.and_eq_true, Bool.or_eq_true, Bool.not_eq_true', Bool.and_eq_false_iff, Bool.or_eq_false_iff, Bool.not_eq_false', decide_eq_true_eq, decide_eq_false_iff_not, eqNil] at hg; omega) )
      change Awp _ _ _ _ _ _ _
      -- region 21  columns.go:144
      refine awp_r [5, 6, 61, 62] (by rfl) ?_
      simp (decide := true) only [aOps_nil, ev, absV, absS, putD, Slots.put, Slots.get, Slots.keep, if_true, if_false, true_and, ↓ap_binOp, pop_binOp, isNilC_int, cond_false, pBinX_int, pI_add, ↓ap_move, pop_move]
      try simp (disch := omega) only [wrap_i64]
      repeat (with_reducible refine And.intro ?_ ?_; · first | trivial | omega | (intro hg; simp only [Bool.and_eq_true, Bool.or_eq_true, Bool.not_eq_true', Bool.and_eq_false_iff, Bool.or_eq_false_iff, Bool.not_eq_false', decide_eq_true_eq, decide_eq_false_iff_not, eqNil] at hg; omega) )
      try simp only [thenA_normal]
      exact ⟨i + 1, rfl, Sub.refl _, by omega, by omega⟩
    · try simp only [decide_eq_false_iff_not] at hb2
      obtain rfl : i = ps.length := by omega
      have hpsi : psi ps ps.length = ps.map clipP := by simp [psi]
      rw [hpsi] at hkxi rii ⊢
      have hlive : ∀ p ∈ ps, IsL w₀ (H0.set kc ⟨((ps.map clipP).map cell3).flatten, 0⟩) 3 (capL p.2) (p.1.marks.map markC) := fun p hp => ((hL p hp).mono (Sub.trans_set hMk hMM)).clip
      have hLc : IsL w₀ (H0.set kc ⟨((ps.map clipP).map cell3).flatten, 0⟩) 3 (.slice (.own kc) 0 ps.length (.grow 3)) ((ps.map clipP).map cell3) := by
        have := IsL.own (w₀ := w₀) (es := 3) (xs := (ps.map clipP).map cell3) (AHeap.set_same H0 kc ⟨((ps.map clipP).map cell3).flatten, 0⟩) (by intro y hy; obtain ⟨p, _, rfl⟩ := List.mem_map.1 hy; rfl) rfl (allLive_flatten.2 (by
          intro y hy
          obtain ⟨p, hp, rfl⟩ := List.mem_map.1 hy
          obtain ⟨q, hq, rfl⟩ := List.mem_map.1 hp
          show (true && (true && ((capL q.2).live && true))) = true
          rw [(hlive q hq).live]
          rfl)) (.grow 3) rfl
        simpa using this
      have hkr' := (AHeap.set_ne H0 ⟨((ps.map clipP).map cell3).flatten, 0⟩ hrc).trans hkr
      refine awp_exit ?_
      change Awp _ _ _ _ _ _ _
      -- region 22  columns.go:147
      refine awp_rseq [4, 5] (by rfl) fun K hK => ?_
      simp (decide := true) only [ev, putD, Slots.put, Slots.get, if_true, if_false, true_and, ↓ap_fieldAddr, pop_fieldAddr, fa56_0, ↓ap_loadL, apL_mk, pLoad_one ag44, List.getD_cons_zero, Nat.zero_add, lv_slice, rii, rdCells, hv]
      repeat (with_reducible refine And.intro ?_ ?_; · first | trivial | omega | (intro hg; simp only [Bool.and_eq_true, Bool.or_eq_true, Bool.not_eq_true', Bool.and_eq_false_iff, Bool.or_eq_false_iff, Bool.not_eq_false', decide_eq_true_eq, decide_eq_false_iff_not, eqNil] at hg; omega) )
      refine aOps_callV (V := .slice (.own kc) 0 ps.length (.exact ps.length)) (by rfl) (by rfl) (c_clipC w₀ _ _ _ hLc) ?_
      simp (decide := true) only [ev, absV, absS, putD, Slots.put, Slots.get, if_true, if_false, true_and, ↓ap_build, ↓pop_buildL, bld28_, evP, List.map_nil, ↓ap_assign, pop_assign]
      repeat (with_reducible refine And.intro ?_ ?_; · first | trivial | omega | (intro hg; simp only [Bool.and_eq_true, Bool.or_eq_true, Bool.not_eq_true', Bool.and_eq_false_iff, Bool.or_eq_false_iff, Bool.not_eq_false', decide_eq_true_eq, decide_eq_false_iff_not, eqNil] at hg; omega) )
      refine aOps_store (v := .agg [.int .i64 0, .int .i64 0, .int .i64 0]) (by rfl) (by rfl) hkr' sz28 (by rfl) (by rfl) (by simp []) (Nat.zero_le _) (by rfl) ?_
      simp only [setAt, AVal.cells, List.set_cons_zero, List.set_cons_succ, Nat.zero_add, Nat.reduceAdd]
      rw [set_same_self hkr']
      simp (decide := true) only [aOps_nil, putD, Slots.keep, if_true, if_false]
      repeat (with_reducible refine And.intro ?_ ?_; · first | trivial | omega | (intro hg; simp only [Bool.and_eq_true, Bool.or_eq_true, Bool.not_eq_true', Bool.and_eq_false_iff, Bool.or_eq_false_iff, Bool.not_eq_false', decide_eq_true_eq, decide_eq_false_iff_not, eqNil] at hg; omega) )
      apply hK; clear hK K
      refine awp_ret ?_
      try simp only [noGotoA_ret]
      refine retA_ret (H0.set kc ⟨((ps.map clipP).map cell3).flatten, 0⟩) (Sub.refl _) (?_) ?_
      · simp (decide := true) only [resPre, resV_tmp, resV_cell, Slots.get, if_true, if_false, and_true, resV_tmp, resV_cell, pLoad_agg ag28 sz28, cellsAt, List.getD_cons_zero, List.getD_cons_succ, Nat.zero_add, Nat.reduceAdd, lv_int, allLive, Bool.and_true, cellsAt, List.getD_cons_zero, List.getD_cons_succ, Nat.zero_add, Nat.reduceAdd, lv_int, allLive, Bool.and_true, rd_own w₀ hkr']
      
      simp (decide := true) only [Slots.get, if_true, if_false, resOfG_two, resV_tmp, resV_cell, pLoad_agg ag28 sz28, cellsAt, List.getD_cons_zero, List.getD_cons_succ, Nat.zero_add, Nat.reduceAdd, lv_int, allLive, Bool.and_true, cellsAt, List.getD_cons_zero, List.getD_cons_succ, Nat.zero_add, Nat.reduceAdd, lv_int, allLive, Bool.and_true, rd_own w₀ hkr']
      exact ⟨_, by rw [hres]; rfl, by rw [hres]; exact ⟨ps.map clipP, by rw [List.map_map]; exact hps, hLc.clip, fun p hp => by obtain ⟨q, hq, rfl⟩ := List.mem_map.1 hp; exact hlive q hq⟩, Sub.trans_set hsub hhc⟩
theorem readEnd (w₀ : World) (h B0 : AHeap) (hs0 : Sub h B0) (kr kx : Nat) (text : Str) (dbg : Bool) (hl : text.length ≤ 1048576) (er : B0 kr = some ⟨[.int .i64 0, .int .i64 0, .int .i64 0], 0⟩) (hr : h kr = none)
    (B M : AHeap) (cb mb : Option Buf) (x : Rd) (ri : RdInv w₀ B0 kx B M cb mb x) (hsm : x.cards.length ≤ 1099511627776) (hrl : readL dbg (splitNL (trimNL text)) 1 .start = (x, okF)) :
    Awp Tryd.prog w₀ 82 (dropSeq 5 (unScope (dropSeq 1 (bodyOf Tryd.f13)))) (noGotoA (retA Tryd.prog w₀ [.tmp 4, .cell 5 28] (ReadR w₀ h text dbg))) [(5, .ptr (.own kr) 0), (6, .ptr (.own kx) 0)] (rdH kx B cb mb x) := by
  by_cases hc : x.cards = []
  · exact readEnd0 w₀ h B0 hs0 kr kx text dbg hl er hr B M cb mb x ri hc hrl
  · exact readEnd1 w₀ h B0 hs0 kr kx text dbg hl er hr B M cb mb x ri hc hsm hrl
end Go.Proofs.YtmadddihphkmoaaDoor

/-
  Contracts: Read of the package columns: its lines.
  Conditions: none.
-/
namespace Go.Proofs.YtmadddihphkmoaaDoor
open Go.AM
open Go.Proofs
open Go.Col
set_option maxRecDepth 100000

/-- The lines, one after the other. -/
theorem readLoop (w₀ : World) (hm : MaxL w₀) (h B0 : AHeap) (hs0 : Sub h B0) (kr kx ks : Nat) (text : Str) (dbg : Bool) (lines : List Str) (hln : lines = splitNL (trimNL text)) (hl : text.length ≤ 1048576)
    (er : B0 kr = some ⟨[.int .i64 0, .int .i64 0, .int .i64 0], 0⟩) (hr : h kr = none) (es : B0 ks = some ⟨lines.map AVal.str, 0⟩) (hi : RdInv w₀ B0 kx B0 (fun _ => none) none none .start) :
    Awp Tryd.prog w₀ 82 (dropSeq 4 (unScope (dropSeq 1 (bodyOf Tryd.f13)))) (noGotoA (retA Tryd.prog w₀ [.tmp 4, .cell 5 28] (ReadR w₀ h text dbg))) [(1, .bool dbg), (5, .ptr (.own kr) 0), (6, .ptr (.own kx) 0), (7, .slice (.own ks) 0 lines.length (.exact lines.length))] (rdH kx B0 none none .start) := by
  have hnl : lines.length ≤ 1048577 := by
    rw [hln]
    have := splitNL_len (trimNL text)
    have := trimNL_len text
    omega
  change Awp _ _ _ (Code.seq _ _) _ _ _
  refine awp_seq ?_
  -- region 5  columns.go:129
  refine awp_rseq [1, 5, 6, 21, 22, 23] (by rfl) fun K hK => ?_
  simp (decide := true) only [aOps_nil, ev, absV, absS, putD, Slots.put, Slots.get, Slots.keep, if_true, if_false, true_and, ↓ap_move, pop_move, ↓ap_len, pop_len, pLen_slice Tryd.underlying31]
  repeat (with_reducible refine And.intro ?_ ?_; · first | trivial | omega | (intro hg; simp only [Bool.and_eq_true, Bool.or_eq_true, Bool.not_eq_true', Bool.and_eq_false_iff, Bool.or_eq_false_iff, Bool.not_eq_false', decide_eq_true_eq, decide_eq_false_iff_not, eqNil] at hg; omega) )
  apply hK; clear hK K
  refine awp_block ?_
  refine awp_loopG [1, 5, 6, 21, 22, 23] (fun g : RdL => [(1, .bool dbg), (5, .ptr (.own kr) 0), (6, .ptr (.own kx) 0), (21, .slice (.own ks) 0 lines.length (.exact lines.length)), (22, .int .i64 lines.length), (23, .int .i64 g.i)]) (fun g : RdL => rdH kx g.B g.cb g.mb g.x) (fun g : RdL => RdInv w₀ B0 kx g.B g.M g.cb g.mb g.x ∧ g.i ≤ lines.length ∧ RdSm g.i g.x ∧ readL dbg (lines.drop g.i) (g.i + 1) g.x = readL dbg lines 1 .start) (fun g : RdL => lines.length - g.i) ⟨0, B0, fun _ => none, none, none, .start⟩ (by rfl) (Sub.refl _) ⟨hi, Nat.zero_le _, ⟨by simp [Rd.start], by simp [Rd.start]⟩, rfl⟩ ?_
  rintro ⟨i, B, M, cb, mb, x⟩ ⟨ri, hin, hsm, hrl⟩
  simp only at ri hin hsm hrl ⊢
  have rix := fun o => rd_own w₀ ri.at o
  -- region 6  columns.go:129
  refine awp_rseq [1, 5, 6, 21, 22, 23, 24] (by rfl) fun K hK => ?_
  simp (decide := true) only [aOps_nil, ev, putD, Slots.put, Slots.get, Slots.keep, if_true, if_false, true_and, ↓ap_binOp, pop_binOp, isNilC_tmp, cond_false, pBinX_int, pI_lss]
  repeat (with_reducible refine And.intro ?_ ?_; · first | trivial | omega | (intro hg; simp only [Bool.and_eq_true, Bool.or_eq_true, Bool.not_eq_true', Bool.and_eq_false_iff, Bool.or_eq_false_iff, Bool.not_eq_false', decide_eq_true_eq, decide_eq_false_iff_not, eqNil] at hg; omega) )
  apply hK; clear hK K
  refine awp_seq (awp_cond (b := _) rfl (fun hb1 => ?_) (fun hb1 => ?_))
  · try simp only [decide_eq_true_eq] at hb1
    have hi' : i < lines.length := by omega
    have eks := ri.above _ _ es
    have rks := fun o => rd_own w₀ eks o
    have eg : (lines.map AVal.str).getD i .dead = .str (lines.getD i []) := by simp [List.getD, hi']
    obtain ⟨r, cn, f, hp⟩ : ∃ r cn f, lineE (lines.getD i []) ((i : Int) + 1) dbg = (r, cn, f) := ⟨_, _, _, rfl⟩
    have hsl := lineE_small (s := lines.getD i []) (line := (i : Int) + 1) (dbg := dbg)
    rw [hp] at hsl
    simp only at hsl
    have hlm : (lines.getD i []).length ≤ 1048576 := by
      have h1 := splitNL_mem (trimNL text) (lines.getD i []) (by rw [← hln, List.getD, List.getElem?_eq_getElem hi']; exact List.getElem_mem hi')
      have h2 := trimNL_len text
      omega
    have hdrop : lines.drop i = lines.getD i [] :: lines.drop (i + 1) := by rw [List.drop_eq_getElem_cons hi']; simp [List.getD, hi']
    refine awp_skip ?_
    change Awp _ _ _ _ _ _ _
    refine awp_seq ?_
    refine awp_block ?_
    -- region 7  columns.go:129
    refine awp_rseq [1, 5, 6, 8, 9, 21, 22, 23] (by rfl) fun K hK => ?_
    simp (decide := true) only [aOps_nil, ev, putD, Slots.put, Slots.get, Slots.keep, if_true, if_false, true_and, ↓ap_move, pop_move, ↓ap_indexAddrL, apL_mk, pIndexAddr_slice Tryd.underlying31 sz9, ↓ap_loadL, pLoad_one ag9, ↓ap_assign, pop_assign, Nat.zero_add, lv_str, rks, eg, Int.toNat_natCast, Nat.mul_one]
    repeat (with_reducible refine And.intro ?_ ?_; · first | trivial | omega | (intro hg; simp only [Bool.and_eq_true, Bool.or_eq_true, Bool.not_eq_true', Bool.and_eq_false_iff, Bool.or_eq_false_iff, Bool.not_eq_false', decide_eq_true_eq, decide_eq_false_iff_not, eqNil] at hg; omega) )
    apply hK; clear hK K
    -- region 8  columns.go:130
    refine awp_rseq [1, 5, 6, 10, 11, 12, 21, 22, 23] (by rfl) fun K hK => ?_
    simp (decide := true) only [ev, absV, absS, putD, Slots.put, Slots.get, if_true, if_false, true_and, ↓ap_move, pop_move, ↓ap_binOp, pop_binOp, isNilC_int, cond_false, pBinX_int, pI_add]
    try simp (disch := omega) only [wrap_i64]
    repeat (with_reducible refine And.intro ?_ ?_; · first | trivial | omega | (intro hg; simp only [Bool.and_eq_true, Bool.or_eq_true, Bool.not_eq_true', Bool.and_eq_false_iff, Bool.or_eq_false_iff, Bool.not_eq_false', decide_eq_true_eq, decide_eq_false_iff_not, eqNil] at hg; omega) )
    refine aOps_callV (V := .tuple [rowA r, .bool cn, faultA f]) (by rfl) (by rfl) ((c_read w₀ _ (lines.getD i []) ((i : Int) + 1) dbg (by omega) (by omega) (by omega)).val (by rw [hp])) ?_
    simp (decide := true) only [ev, putD, Slots.put, Slots.get, if_true, if_false, true_and, ↓ap_move, pop_move, ↓ap_extract, pop_extract, pExt_tuple, List.length_cons, List.length_nil, List.getD_cons_zero, List.getD_cons_succ, List.getD_cons_zero, List.getD_cons_succ, Nat.zero_add, Nat.reduceAdd, faultA, rowA]
    repeat (with_reducible refine And.intro ?_ ?_; · first | trivial | omega | (intro hg; simp only [Bool.and_eq_true, Bool.or_eq_true, Bool.not_eq_true', Bool.and_eq_false_iff, Bool.or_eq_false_iff, Bool.not_eq_false', decide_eq_true_eq, decide_eq_false_iff_not, eqNil] at hg; omega) )
    refine aOps_alloc ze59 (cs := [.int .i64 0, .bool false, .str [], .int .i64 0]) (by rfl) fun k8q9 hk8q9 => ?_
    try have hf_8q9 : (rdH kx B0 none none .start) k8q9 = none := by first | assumption | (simp only [AHeap.set_none] at hk8q9; simp only [hk8q9])
    refine aOps_alloc ze28 (cs := [.int .i64 0, .int .i64 0, .int .i64 0]) (by rfl) fun k8q10 hk8q10 => ?_
    have ne_8q10_8q9 : k8q10 ≠ k8q9 := by simp only [AHeap.set_none] at hk8q10; simp only [hk8q10, ne_eq, not_false_eq_true]
    try have hf_8q10 : (rdH kx B0 none none .start) k8q10 = none := by first | assumption | (simp only [AHeap.set_none] at hk8q10; simp only [hk8q10])
    refine aOps_store (by rfl) (by rfl) (by repeat (first | exact AHeap.set_same _ _ _ | assumption | refine (AHeap.set_ne _ _ (by first | assumption | exact Ne.symm (by assumption))).trans ?_)) sz59 (by rfl) (by rfl) (by first | exact Nat.le_refl _ | decide | (simp; done) | (simp; omega)) (Nat.zero_le _) (by rfl) ?_
    simp only [AVal.cells]
    simp (decide := true) only [ev, putD, Slots.put, Slots.get, if_true, if_false, true_and, ↓ap_assign, pop_assign, setAt, List.set_cons_zero, List.set_cons_succ, Nat.zero_add, Nat.reduceAdd]
    repeat (with_reducible refine And.intro ?_ ?_; · first | trivial | omega | (intro hg; simp only [Bool.and_eq_true, Bool.or_eq_true, Bool.not_eq_true', Bool.and_eq_false_iff, Bool.or_eq_false_iff, Bool.not_eq_false', decide_eq_true_eq, decide_eq_false_iff_not, eqNil] at hg; omega) )
    refine aOps_store (by rfl) (by rfl) (by repeat (first | exact AHeap.set_same _ _ _ | assumption | refine (AHeap.set_ne _ _ (by first | assumption | exact Ne.symm (by assumption))).trans ?_)) sz28 (by rfl) (by rfl) (by first | exact Nat.le_refl _ | decide | (simp; done) | (simp; omega)) (Nat.zero_le _) (by rfl) ?_
    simp only [AVal.cells]
    simp (decide := true) only [aOps_nil, ev, putD, Slots.get, Slots.keep, if_true, if_false, setAt, List.set_cons_zero, List.set_cons_succ, Nat.zero_add, Nat.reduceAdd]
    repeat (with_reducible refine And.intro ?_ ?_; · first | trivial | omega | (intro hg; simp only [Bool.and_eq_true, Bool.or_eq_true, Bool.not_eq_true', Bool.and_eq_false_iff, Bool.or_eq_false_iff, Bool.not_eq_false', decide_eq_true_eq, decide_eq_false_iff_not, eqNil] at hg; omega) )
    apply hK; clear hK K
    refine awp_seq ?_
    have hnorm : ((((rdH kx B cb mb x).set k8q9 ⟨[.int .i64 0, .bool false, .str [], .int .i64 0], 0⟩).set k8q10 ⟨[.int .i64 0, .int .i64 0, .int .i64 0], 0⟩).set k8q9 ⟨[.int .i64 r.line, .bool r.more, .str r.text, .int .i64 r.col], 0⟩).set k8q10 ⟨[.int .i64 f.e, .int .i64 f.line, .int .i64 f.col], 0⟩ = ((rdH kx B cb mb x).set k8q9 ⟨[.int .i64 r.line, .bool r.more, .str r.text, .int .i64 r.col], 0⟩).set k8q10 ⟨[.int .i64 f.e, .int .i64 f.line, .int .i64 f.col], 0⟩ := by
      rw [AHeap.set_comm ((rdH kx B cb mb x).set k8q9 ⟨[.int .i64 0, .bool false, .str [], .int .i64 0], 0⟩) _ _ ne_8q10_8q9.symm, AHeap.set_set, AHeap.set_set]
    rw [hnorm]
    obtain ⟨a1, a2, a3, a4⟩ := rdH_new ri hk8q9 ⟨[.int .i64 r.line, .bool r.more, .str r.text, .int .i64 r.col], 0⟩
    have hk2 : rdH kx (B.set k8q9 ⟨[.int .i64 r.line, .bool r.more, .str r.text, .int .i64 r.col], 0⟩) cb mb x k8q10 = none := by
      rw [← a1, AHeap.set_ne _ _ ne_8q10_8q9]
      rwa [AHeap.set_ne _ _ ne_8q10_8q9] at hk8q10
    obtain ⟨b1, b2, b3, b4⟩ := rdH_new a2 hk2 ⟨[.int .i64 f.e, .int .i64 f.line, .int .i64 f.col], 0⟩
    rw [a1, b1]
    obtain ⟨B₁, hB₁⟩ : ∃ B₁, B₁ = (B.set k8q9 ⟨[.int .i64 r.line, .bool r.more, .str r.text, .int .i64 r.col], 0⟩).set k8q10 ⟨[.int .i64 f.e, .int .i64 f.line, .int .i64 f.col], 0⟩ := ⟨_, rfl⟩
    rw [← hB₁] at b2 ⊢
    have e0 : B₁ k8q9 = some ⟨[.int .i64 r.line, .bool r.more, .str r.text, .int .i64 r.col], 0⟩ := by rw [hB₁, AHeap.set_ne _ _ ne_8q10_8q9.symm, AHeap.set_same]
    have e1 : B₁ k8q10 = some ⟨[.int .i64 f.e, .int .i64 f.line, .int .i64 f.col], 0⟩ := by rw [hB₁, AHeap.set_same]
    have hB8 : B k8q10 = none := by rwa [AHeap.set_ne _ _ ne_8q10_8q9] at b4
    have s0 := fun o => rd_own w₀ (b2.other e0) o
    have s1 := fun o => rd_own w₀ (b2.other e1) o
    -- region 9  columns.go:131
    refine awp_rseq [1, 5, 6, 10, 12, 21, 22, 23, 43] (by rfl) fun K hK => ?_
    simp (decide := true) only [aOps_nil, ev, absV, absS, putD, Slots.put, Slots.get, Slots.keep, if_true, if_false, true_and, ↓ap_loadL, apL_mk, pLoad_agg ag28 sz28, ↓ap_build, ↓pop_buildL, bld28_, evP, List.map_nil, ↓ap_binOp, pop_binOp, isNilC_tmp, cond_false, pBinX_agg, eq28, ↓ap_move, pop_move, ↓ag_move, agP, agQ_some, nthDst, gKnown_bool, guardB_bool_true, implies_true, Bool.and_true, ↓ag_unOp, pop_unOp, pU_not, cv_un, cp_un, ↓ap_pick, pop_pick, pPick_bool, pickV_cond_l, pickV_and, cellsAt, List.getD_cons_zero, List.getD_cons_succ, Nat.zero_add, Nat.reduceAdd, lv_int, allLive, Bool.and_true, s1, faultA_eq]
    try simp (disch := omega) only [wrap_i64, wrap_u8]
    repeat (with_reducible refine And.intro ?_ ?_; · first | trivial | omega | (intro hg; simp only [Bool.and_eq_true, Bool.or_eq_true, Bool.not_eq_true', Bool.and_eq_false_iff, Bool.or_eq_false_iff, Bool.not_eq_false', decide_eq_true_eq, decide_eq_false_iff_not, eqNil] at hg; omega) )
    apply hK; clear hK K
    refine awp_cond (b := _) rfl (fun hb2 => ?_) (fun hb2 => ?_)
    · try simp only [decide_eq_true_eq, Bool.not_eq_true', Bool.and_eq_true] at hb2
      have iz := b2
      have gz := hsm.next
      have lz : readL dbg (lines.drop (i + 1)) (((i + 1 : Nat) : Int) + 1) x = readL dbg lines 1 .start := by
        rw [← hrl, hdrop, readL_skip (by rw [hp, hb2.2]) hb2.1]
        rfl
      refine awp_exit ?_
      change Awp _ _ _ _ _ _ _
      -- region 14  columns.go:129
      refine awp_r [1, 5, 6, 21, 22, 23] (by rfl) ?_
      simp (decide := true) only [aOps_nil, ev, absV, absS, putD, Slots.put, Slots.get, Slots.keep, if_true, if_false, true_and, ↓ap_binOp, pop_binOp, isNilC_int, cond_false, pBinX_int, pI_add, ↓ap_move, pop_move]
      try simp (disch := omega) only [wrap_i64]
      repeat (with_reducible refine And.intro ?_ ?_; · first | trivial | omega | (intro hg; simp only [Bool.and_eq_true, Bool.or_eq_true, Bool.not_eq_true', Bool.and_eq_false_iff, Bool.or_eq_false_iff, Bool.not_eq_false', decide_eq_true_eq, decide_eq_false_iff_not, eqNil] at hg; omega) )
      try simp only [thenA_normal]
      exact ⟨⟨i + 1, _, _, _, _, _⟩, rfl, Sub.refl _, ⟨iz, by simp only; omega, gz, lz⟩, by simp only; omega⟩
    · try simp only [decide_eq_false_iff_not, Bool.not_eq_false', Bool.and_eq_false_iff] at hb2
      refine awp_skip ?_
      change Awp _ _ _ _ _ _ _
      refine awp_seq ?_
      -- region 10  columns.go:134
      refine awp_rseq [1, 5, 6, 10, 12, 21, 22, 23, 46] (by rfl) fun K hK => ?_
      simp (decide := true) only [aOps_nil, ev, absV, absS, putD, Slots.put, Slots.get, Slots.keep, if_true, if_false, true_and, ↓ap_loadL, apL_mk, pLoad_agg ag28 sz28, ↓ap_build, ↓pop_buildL, bld28_, evP, List.map_nil, ↓ap_binOp, pop_binOp, isNilC_tmp, cond_false, pBinX_agg, eq28, cellsAt, List.getD_cons_zero, List.getD_cons_succ, Nat.zero_add, Nat.reduceAdd, lv_int, allLive, Bool.and_true, s1, faultA_eq]
      repeat (with_reducible refine And.intro ?_ ?_; · first | trivial | omega | (intro hg; simp only [Bool.and_eq_true, Bool.or_eq_true, Bool.not_eq_true', Bool.and_eq_false_iff, Bool.or_eq_false_iff, Bool.not_eq_false', decide_eq_true_eq, decide_eq_false_iff_not, eqNil] at hg; omega) )
      apply hK; clear hK K
      refine awp_cond (b := _) rfl (fun hb3 => ?_) (fun hb3 => ?_)
      · try simp only [decide_eq_true_eq] at hb3
        have hcn : cn = true := by
          cases hcn : cn with
          | true => rfl
          | false =>
            rcases hb2 with e | e
            · exact absurd hb3 e
            · rw [hcn] at e
              cases e
        subst hcn
        -- region 11  columns.go:135
        refine awp_r [1, 5, 6, 12, 21, 22, 23] (by rfl) ?_
        simp (decide := true) only [ev, putD, Slots.put, Slots.get, if_true, if_false, true_and, ↓ap_loadL, apL_mk, pLoad_agg ag59 sz59, cellsAt, List.getD_cons_zero, List.getD_cons_succ, Nat.zero_add, Nat.reduceAdd, lv_bool, lv_int, lv_str, allLive, Bool.and_true, s0]
        repeat (with_reducible refine And.intro ?_ ?_; · first | trivial | omega | (intro hg; simp only [Bool.and_eq_true, Bool.or_eq_true, Bool.not_eq_true', Bool.and_eq_false_iff, Bool.or_eq_false_iff, Bool.not_eq_false', decide_eq_true_eq, decide_eq_false_iff_not, eqNil] at hg; omega) )
        refine aOps_call (by rfl) (by rfl) (c_take w₀ B0 kx B₁ M cb mb x b2 r (fun c hc => by have := hsm.small c hc; omega) (by have := hsm.many; omega) (by omega) (hsl.2 rfl).1 (hsl.2 rfl).2.1 (by have := (hsl.2 rfl).2.2; omega)) fun x11q1 h11q1 hx11q1 => ?_
        obtain ⟨ex, B', M', cb', mb', rfl, i2, s2, m2⟩ := hx11q1
        obtain ⟨fz, hfz⟩ : ∃ fz, fz = (takeE x r).2 := ⟨_, rfl⟩
        rw [← hfz] at ex
        subst ex
        have hM8 : M' k8q10 = none := m2 _ (by rw [e1]; simp) (ri.subM.none hB8)
        obtain ⟨c1, iz⟩ := i2.put (s2 _ _ e1) (ri.sub.none hB8) hM8 ⟨[.int .i64 fz.e, .int .i64 fz.line, .int .i64 fz.col], 0⟩
        have gz := takeE_small hsm (r := r) (by omega)
        refine aOps_store (v := .agg [.int .i64 fz.e, .int .i64 fz.line, .int .i64 fz.col]) (by rfl) (by rfl) (i2.other (s2 _ _ e1)) sz28 (by rfl) (by rfl) (by simp []) (Nat.zero_le _) (by rfl) ?_
        simp only [setAt, AVal.cells, List.set_cons_zero, List.set_cons_succ, Nat.zero_add, Nat.reduceAdd]
        rw [c1]
        have ez := AHeap.set_same B' k8q10 ⟨[.int .i64 fz.e, .int .i64 fz.line, .int .i64 fz.col], 0⟩
        simp (decide := true) only [aOps_nil, putD, Slots.put, Slots.keep, if_true, if_false, faultA]
        repeat (with_reducible refine And.intro ?_ ?_; · first | trivial | omega | (intro hg; simp only [Bool.and_eq_true, Bool.or_eq_true, Bool.not_eq_true', Bool.and_eq_false_iff, Bool.or_eq_false_iff, Bool.not_eq_false', decide_eq_true_eq, decide_eq_false_iff_not, eqNil] at hg; omega) )
        change Awp _ _ _ _ _ _ _
        -- region 12  columns.go:137
        refine awp_rseq [1, 5, 6, 12, 21, 22, 23, 51] (by rfl) fun K hK => ?_
        simp (decide := true) only [aOps_nil, ev, absV, absS, putD, Slots.put, Slots.get, Slots.keep, if_true, if_false, true_and, ↓ap_loadL, apL_mk, pLoad_agg ag28 sz28, ↓ap_build, ↓pop_buildL, bld28_, evP, List.map_nil, ↓ap_binOp, pop_binOp, isNilC_tmp, cond_false, pBinX_agg, ne28, cellsAt, List.getD_cons_zero, List.getD_cons_succ, Nat.zero_add, Nat.reduceAdd, lv_int, allLive, Bool.and_true, rd_own w₀ (iz.other ez), faultA_eq]
        repeat (with_reducible refine And.intro ?_ ?_; · first | trivial | omega | (intro hg; simp only [Bool.and_eq_true, Bool.or_eq_true, Bool.not_eq_true', Bool.and_eq_false_iff, Bool.or_eq_false_iff, Bool.not_eq_false', decide_eq_true_eq, decide_eq_false_iff_not, eqNil] at hg; omega) )
        apply hK; clear hK K
        refine awp_cond (b := _) rfl (fun hb4 => ?_) (fun hb4 => ?_)
        · try simp only [decide_eq_false_iff_not, Bool.not_eq_true'] at hb4
          have hres := readE_fault (text := text) (dbg := dbg) hl (by rw [← hln, ← hrl, hdrop, readL_bad hp hb3 (by rw [← hfz]; exact hb4)]) (by rw [← hfz]; exact hb4)
          rw [← hfz] at hres
          -- region 13  columns.go:138
          refine awp_dseq_tail 2 [4, 5] mixed (by kernel_rfl) (by rfl) (by rfl) fun K hK => ?_
          simp (decide := true) only [ev, absV, absS, putD, Slots.put, Slots.get, if_true, if_false, true_and, ↓ap_loadL, apL_mk, pLoad_agg ag28 sz28, ↓ap_assign, pop_assign, cellsAt, List.getD_cons_zero, List.getD_cons_succ, Nat.zero_add, Nat.reduceAdd, lv_int, allLive, Bool.and_true, rd_own w₀ (iz.other ez)]
          repeat (with_reducible refine And.intro ?_ ?_; · first | trivial | omega | (intro hg; simp only [Bool.and_eq_true, Bool.or_eq_true, Bool.not_eq_true', Bool.and_eq_false_iff, Bool.or_eq_false_iff, Bool.not_eq_false', decide_eq_true_eq, decide_eq_false_iff_not, eqNil] at hg; omega) )
          refine aOps_store (v := .agg [.int .i64 fz.e, .int .i64 fz.line, .int .i64 fz.col]) (by rfl) (by rfl) (iz.other (iz.sub _ _ er)) sz28 (by rfl) (by rfl) (by simp []) (Nat.zero_le _) (by rfl) ?_
          simp only [setAt, AVal.cells, List.set_cons_zero, List.set_cons_succ, Nat.zero_add, Nat.reduceAdd]
          simp (decide := true) only [aOps_nil, putD, Slots.keep, if_true, if_false]
          repeat (with_reducible refine And.intro ?_ ?_; · first | trivial | omega | (intro hg; simp only [Bool.and_eq_true, Bool.or_eq_true, Bool.not_eq_true', Bool.and_eq_false_iff, Bool.or_eq_false_iff, Bool.not_eq_false', decide_eq_true_eq, decide_eq_false_iff_not, eqNil] at hg; omega) )
          apply hK; clear hK K
          refine awp_ret ?_
          try simp only [thenA_ret, inBlockA_ret, noGotoA_ret]
          refine retA_ret h (Sub.trans_set (hs0.trans iz.above) hr) (?_) ?_
          · simp (decide := true) only [resPre, resV_tmp, resV_cell, Slots.get, if_true, if_false, and_true, resV_tmp, resV_cell, pLoad_agg ag28 sz28, rd_set, cellsAt, List.getD_cons_zero, List.getD_cons_succ, Nat.zero_add, Nat.reduceAdd, lv_int, allLive, Bool.and_true, cellsAt, List.getD_cons_zero, List.getD_cons_succ, Nat.zero_add, Nat.reduceAdd, lv_int, allLive, Bool.and_true]
          
          simp (decide := true) only [Slots.get, if_true, if_false, resOfG_two, resV_tmp, resV_cell, pLoad_agg ag28 sz28, rd_set, cellsAt, List.getD_cons_zero, List.getD_cons_succ, Nat.zero_add, Nat.reduceAdd, lv_int, allLive, Bool.and_true, cellsAt, List.getD_cons_zero, List.getD_cons_succ, Nat.zero_add, Nat.reduceAdd, lv_int, allLive, Bool.and_true]
          exact ⟨.nilSlice, by rw [hres]; rfl, by rw [hres]; exact ⟨[], rfl, .nil, by simp⟩, Sub.refl _⟩
        · try simp only [decide_eq_true_eq, Bool.not_eq_false'] at hb4
          have lz : readL dbg (lines.drop (i + 1)) (((i + 1 : Nat) : Int) + 1) (takeE x r).1 = readL dbg lines 1 .start := by
            rw [← hrl, hdrop, readL_take hp hb3 (by rw [← hfz]; exact hb4)]
            rfl
          refine awp_skip ?_
          change Awp _ _ _ _ _ _ _
          -- region 14  columns.go:129
          refine awp_r [1, 5, 6, 21, 22, 23] (by rfl) ?_
          simp (decide := true) only [aOps_nil, ev, absV, absS, putD, Slots.put, Slots.get, Slots.keep, if_true, if_false, true_and, ↓ap_binOp, pop_binOp, isNilC_int, cond_false, pBinX_int, pI_add, ↓ap_move, pop_move]
          try simp (disch := omega) only [wrap_i64]
          repeat (with_reducible refine And.intro ?_ ?_; · first | trivial | omega | (intro hg; simp only [Bool.and_eq_true, Bool.or_eq_true, Bool.not_eq_true', Bool.and_eq_false_iff, Bool.or_eq_false_iff, Bool.not_eq_false', decide_eq_true_eq, decide_eq_false_iff_not, eqNil] at hg; omega) )
          try simp only [thenA_normal]
          exact ⟨⟨i + 1, _, _, _, _, _⟩, rfl, Sub.refl _, ⟨iz, by simp only; omega, gz, lz⟩, by simp only; omega⟩
      · try simp only [decide_eq_false_iff_not] at hb3
        have iz := b2
        have ez := e1
        obtain ⟨fz, hfz⟩ : ∃ fz, fz = f := ⟨_, rfl⟩
        subst hfz
        refine awp_skip ?_
        change Awp _ _ _ _ _ _ _
        -- region 12  columns.go:137
        refine awp_rseq [1, 5, 6, 12, 21, 22, 23, 51] (by rfl) fun K hK => ?_
        simp (decide := true) only [aOps_nil, ev, absV, absS, putD, Slots.put, Slots.get, Slots.keep, if_true, if_false, true_and, ↓ap_loadL, apL_mk, pLoad_agg ag28 sz28, ↓ap_build, ↓pop_buildL, bld28_, evP, List.map_nil, ↓ap_binOp, pop_binOp, isNilC_tmp, cond_false, pBinX_agg, ne28, cellsAt, List.getD_cons_zero, List.getD_cons_succ, Nat.zero_add, Nat.reduceAdd, lv_int, allLive, Bool.and_true, s1, faultA_eq]
        repeat (with_reducible refine And.intro ?_ ?_; · first | trivial | omega | (intro hg; simp only [Bool.and_eq_true, Bool.or_eq_true, Bool.not_eq_true', Bool.and_eq_false_iff, Bool.or_eq_false_iff, Bool.not_eq_false', decide_eq_true_eq, decide_eq_false_iff_not, eqNil] at hg; omega) )
        apply hK; clear hK K
        refine awp_cond (b := _) rfl (fun hb5 => ?_) (fun hb5 => ?_)
        · try simp only [decide_eq_false_iff_not, Bool.not_eq_true'] at hb5
          have hres := readE_fault (text := text) (dbg := dbg) hl (by rw [← hln, ← hrl, hdrop, readL_fault hp hb3]) hb3
          -- region 13  columns.go:138
          refine awp_dseq_tail 2 [4, 5] mixed (by kernel_rfl) (by rfl) (by rfl) fun K hK => ?_
          simp (decide := true) only [ev, absV, absS, putD, Slots.put, Slots.get, if_true, if_false, true_and, ↓ap_loadL, apL_mk, pLoad_agg ag28 sz28, ↓ap_assign, pop_assign, cellsAt, List.getD_cons_zero, List.getD_cons_succ, Nat.zero_add, Nat.reduceAdd, lv_int, allLive, Bool.and_true, s1]
          repeat (with_reducible refine And.intro ?_ ?_; · first | trivial | omega | (intro hg; simp only [Bool.and_eq_true, Bool.or_eq_true, Bool.not_eq_true', Bool.and_eq_false_iff, Bool.or_eq_false_iff, Bool.not_eq_false', decide_eq_true_eq, decide_eq_false_iff_not, eqNil] at hg; omega) )
          refine aOps_store (v := .agg [.int .i64 fz.e, .int .i64 fz.line, .int .i64 fz.col]) (by rfl) (by rfl) (iz.other (iz.sub _ _ er)) sz28 (by rfl) (by rfl) (by simp []) (Nat.zero_le _) (by rfl) ?_
          simp only [setAt, AVal.cells, List.set_cons_zero, List.set_cons_succ, Nat.zero_add, Nat.reduceAdd]
          simp (decide := true) only [aOps_nil, putD, Slots.keep, if_true, if_false]
          repeat (with_reducible refine And.intro ?_ ?_; · first | trivial | omega | (intro hg; simp only [Bool.and_eq_true, Bool.or_eq_true, Bool.not_eq_true', Bool.and_eq_false_iff, Bool.or_eq_false_iff, Bool.not_eq_false', decide_eq_true_eq, decide_eq_false_iff_not, eqNil] at hg; omega) )
          apply hK; clear hK K
          refine awp_ret ?_
          try simp only [thenA_ret, inBlockA_ret, noGotoA_ret]
          refine retA_ret h (Sub.trans_set (hs0.trans iz.above) hr) (?_) ?_
          · simp (decide := true) only [resPre, resV_tmp, resV_cell, Slots.get, if_true, if_false, and_true, resV_tmp, resV_cell, pLoad_agg ag28 sz28, rd_set, cellsAt, List.getD_cons_zero, List.getD_cons_succ, Nat.zero_add, Nat.reduceAdd, lv_int, allLive, Bool.and_true, cellsAt, List.getD_cons_zero, List.getD_cons_succ, Nat.zero_add, Nat.reduceAdd, lv_int, allLive, Bool.and_true]
          
          simp (decide := true) only [Slots.get, if_true, if_false, resOfG_two, resV_tmp, resV_cell, pLoad_agg ag28 sz28, rd_set, cellsAt, List.getD_cons_zero, List.getD_cons_succ, Nat.zero_add, Nat.reduceAdd, lv_int, allLive, Bool.and_true, cellsAt, List.getD_cons_zero, List.getD_cons_succ, Nat.zero_add, Nat.reduceAdd, lv_int, allLive, Bool.and_true]
          exact ⟨.nilSlice, by rw [hres]; rfl, by rw [hres]; exact ⟨[], rfl, .nil, by simp⟩, Sub.refl _⟩
        · try simp only [decide_eq_true_eq, Bool.not_eq_false'] at hb5
          exact absurd hb5 hb3
  · try simp only [decide_eq_false_iff_not] at hb1
    obtain rfl : i = lines.length := by omega
    have hdone : readL dbg (splitNL (trimNL text)) 1 .start = (x, okF) := by
      rw [← hln, ← hrl, List.drop_length]
      rfl
    refine awp_exit ?_
    change Awp _ _ _ _ _ _ _
    refine Awp.keep [5, 6] ?_
    exact readEnd w₀ h B0 hs0 kr kx text dbg hl er hr B M cb mb x ri (by have := hsm.many; omega) hdone

theorem readE_long {text : Str} {dbg : Bool} (hl : 1048576 < text.length) : readE text dbg = ([], ⟨3, 0, 0⟩) := by
  unfold readE
  rw [if_pos hl]
theorem c_Read (w₀ : World) (hm : MaxL w₀) (h : AHeap) (text : Str) (dbg : Bool) (hl : text.length ≤ 9223372036854775807) : ACall Tryd.prog w₀ 13 [.str text, .bool dbg] h (ReadR w₀ h text dbg) := by
  refine acall_intro (n := 82) (rs := [.tmp 4, .cell 5 28]) Tryd.func13 rfl rfl rfl rfl (Nat.le_of_ble_eq_true rfl) ?_
  simp only [initSlots]
  -- region 0  columns.go:122
  refine awp_rseq [0, 1, 5] (by rfl) fun K hK => ?_
  simp (decide := true) only [ev, absV, absS, putD, Slots.put, if_false, true_and, ↓ap_assign, pop_assign, Nat.zero_add]
  repeat (with_reducible refine And.intro ?_ ?_; · first | trivial | omega | (intro hg; simp only [Bool.and_eq_true, Bool.or_eq_true, Bool.not_eq_true', Bool.and_eq_false_iff, Bool.or_eq_false_iff, Bool.not_eq_false', decide_eq_true_eq, decide_eq_false_iff_not, eqNil] at hg; omega) )
  refine aOps_alloc ze28 (cs := [.int .i64 0, .int .i64 0, .int .i64 0]) (by rfl) fun k0q1 hk0q1 => ?_
  try have hf_0q1 : h k0q1 = none := by first | assumption | (simp only [AHeap.set_none] at hk0q1; simp only [hk0q1])
  simp (decide := true) only [aOps_nil, putD, Slots.put, Slots.keep, if_true, if_false]
  repeat (with_reducible refine And.intro ?_ ?_; · first | trivial | omega | (intro hg; simp only [Bool.and_eq_true, Bool.or_eq_true, Bool.not_eq_true', Bool.and_eq_false_iff, Bool.or_eq_false_iff, Bool.not_eq_false', decide_eq_true_eq, decide_eq_false_iff_not, eqNil] at hg; omega) )
  apply hK; clear hK K
  refine awp_scope ?_
  refine awp_seq ?_
  -- region 1  columns.go:123
  refine awp_rseq [0, 1, 5, 16] (by rfl) fun K hK => ?_
  simp (decide := true) only [aOps_nil, ev, absV, absS, putD, Slots.put, Slots.get, Slots.keep, if_true, if_false, true_and, ↓ap_move, pop_move, ↓ap_len, pop_len, pLen_str Tryd.underlying9, ↓ap_binOp, pop_binOp, isNilC_int, cond_false, pBinX_int, pI_gtr]
  repeat (with_reducible refine And.intro ?_ ?_; · first | trivial | omega | (intro hg; simp only [Bool.and_eq_true, Bool.or_eq_true, Bool.not_eq_true', Bool.and_eq_false_iff, Bool.or_eq_false_iff, Bool.not_eq_false', decide_eq_true_eq, decide_eq_false_iff_not, eqNil] at hg; omega) )
  apply hK; clear hK K
  refine awp_cond (b := _) rfl (fun hb1 => ?_) (fun hb1 => ?_)
  · try simp only [decide_eq_true_eq] at hb1
    -- region 2  columns.go:124
    refine awp_rseq [4, 5] (by rfl) fun K hK => ?_
    simp (decide := true) only [ev, absV, absS, putD, Slots.put, Slots.get, if_true, if_false, true_and, ↓ap_build, ↓pop_buildL, bld28_0, evP, List.map_cons, List.map_nil, ↓ap_assign, pop_assign]
    repeat (with_reducible refine And.intro ?_ ?_; · first | trivial | omega | (intro hg; simp only [Bool.and_eq_true, Bool.or_eq_true, Bool.not_eq_true', Bool.and_eq_false_iff, Bool.or_eq_false_iff, Bool.not_eq_false', decide_eq_true_eq, decide_eq_false_iff_not, eqNil] at hg; omega) )
    refine aOps_store (by rfl) (by rfl) (by repeat (first | exact AHeap.set_same _ _ _ | assumption | refine (AHeap.set_ne _ _ (by first | assumption | exact Ne.symm (by assumption))).trans ?_)) sz28 (by rfl) (by rfl) (by first | exact Nat.le_refl _ | decide | (simp; done) | (simp; omega)) (Nat.zero_le _) (by rfl) ?_
    simp only [AHeap.set_set, AVal.cells]
    simp (decide := true) only [aOps_nil, ev, putD, Slots.get, Slots.keep, if_true, if_false, setAt, List.set_cons_zero, List.set_cons_succ, Nat.zero_add, Nat.reduceAdd]
    repeat (with_reducible refine And.intro ?_ ?_; · first | trivial | omega | (intro hg; simp only [Bool.and_eq_true, Bool.or_eq_true, Bool.not_eq_true', Bool.and_eq_false_iff, Bool.or_eq_false_iff, Bool.not_eq_false', decide_eq_true_eq, decide_eq_false_iff_not, eqNil] at hg; omega) )
    apply hK; clear hK K
    refine awp_ret ?_
    try simp only [thenA_ret, noGotoA_ret]
    refine retA_ret h (by repeat (first | exact Sub.refl _ | assumption | refine Sub.trans_set ?_ (by assumption))) (?_) ?_
    · simp (decide := true) only [resPre, resV_tmp, resV_cell, Slots.get, if_true, if_false, and_true, resV_tmp, resV_cell, pLoad_agg ag28 sz28, rd_set, cellsAt, List.getD_cons_zero, List.getD_cons_succ, Nat.zero_add, Nat.reduceAdd, lv_int, allLive, Bool.and_true, cellsAt, List.getD_cons_zero, List.getD_cons_succ, Nat.zero_add, Nat.reduceAdd, lv_int, allLive, Bool.and_true]
    
    simp (decide := true) only [Slots.get, if_true, if_false, resOfG_two, resV_tmp, resV_cell, pLoad_agg ag28 sz28, rd_set, cellsAt, List.getD_cons_zero, List.getD_cons_succ, Nat.zero_add, Nat.reduceAdd, lv_int, allLive, Bool.and_true, cellsAt, List.getD_cons_zero, List.getD_cons_succ, Nat.zero_add, Nat.reduceAdd, lv_int, allLive, Bool.and_true]
    have hb : 1048576 < text.length := by omega
    exact ⟨.nilSlice, by rw [readE_long hb]; rfl, by rw [readE_long hb]; exact ⟨[], rfl, .nil, by simp⟩, Sub.refl _⟩
  · try simp only [decide_eq_false_iff_not] at hb1
    refine awp_skip ?_
    change Awp _ _ _ _ _ _ _
    -- region 3  columns.go:126
    refine awp_rseq [0, 1, 5, 6] (by rfl) fun K hK => ?_
    refine aOps_alloc ze56 (cs := [.nilSlice, .int .i64 0, .int .i64 0, .bool false]) (by rfl) fun k3q0 hk3q0 => ?_
    have ne_3q0_0q1 : k3q0 ≠ k0q1 := by simp only [AHeap.set_none] at hk3q0; simp only [hk3q0, ne_eq, not_false_eq_true]
    try have hf_3q0 : h k3q0 = none := by first | assumption | (simp only [AHeap.set_none] at hk3q0; simp only [hk3q0])
    simp (decide := true) only [aOps_nil, putD, Slots.put, Slots.keep, if_true, if_false]
    repeat (with_reducible refine And.intro ?_ ?_; · first | trivial | omega | (intro hg; simp only [Bool.and_eq_true, Bool.or_eq_true, Bool.not_eq_true', Bool.and_eq_false_iff, Bool.or_eq_false_iff, Bool.not_eq_false', decide_eq_true_eq, decide_eq_false_iff_not, eqNil] at hg; omega) )
    apply hK; clear hK K
    -- region 4  columns.go:127
    refine awp_rseq [1, 5, 6, 7] (by rfl) fun K hK => ?_
    simp (decide := true) only [ev, putD, Slots.put, Slots.get, if_true, if_false, true_and, ↓ap_move, pop_move]
    repeat (with_reducible refine And.intro ?_ ?_; · first | trivial | omega | (intro hg; simp only [Bool.and_eq_true, Bool.or_eq_true, Bool.not_eq_true', Bool.and_eq_false_iff, Bool.or_eq_false_iff, Bool.not_eq_false', decide_eq_true_eq, decide_eq_false_iff_not, eqNil] at hg; omega) )
    refine aOps_callV (V := .str (trimNL text)) (by rfl) (by rfl) (c_trimNL w₀ _ text hl) ?_
    refine aOps_call (by rfl) (by rfl) (c_split w₀ hm _ (trimNL text) (by have := trimNL_len text; omega)) fun x4q2 h4q2 hx4q2 => ?_
    obtain ⟨ks, hks, rfl, rfl⟩ := hx4q2
    simp (decide := true) only [aOps_nil, ev, putD, Slots.put, Slots.get, Slots.keep, if_true, if_false, true_and, ↓ap_assign, pop_assign]
    repeat (with_reducible refine And.intro ?_ ?_; · first | trivial | omega | (intro hg; simp only [Bool.and_eq_true, Bool.or_eq_true, Bool.not_eq_true', Bool.and_eq_false_iff, Bool.or_eq_false_iff, Bool.not_eq_false', decide_eq_true_eq, decide_eq_false_iff_not, eqNil] at hg; omega) )
    apply hK; clear hK K
    refine awp_seq ?_
    refine awp_label ?_
    change Awp _ _ _ _ _ _ _
    obtain ⟨nks, _, hks2⟩ := (AHeap.set_none _ _ _ _).mp hks
    obtain ⟨nkr, _, hks3⟩ := (AHeap.set_none _ _ _ _).mp hks2
    have nkx : k3q0 ≠ k0q1 := ((AHeap.set_none _ _ _ _).mp hk3q0).1
    have hcomm : ((h.set k0q1 ⟨[.int .i64 0, .int .i64 0, .int .i64 0], 0⟩).set k3q0 ⟨[.nilSlice, .int .i64 0, .int .i64 0, .bool false], 0⟩).set ks ⟨(splitNL (trimNL text)).map AVal.str, 0⟩ = rdH k3q0 ((h.set k0q1 ⟨[.int .i64 0, .int .i64 0, .int .i64 0], 0⟩).set ks ⟨(splitNL (trimNL text)).map AVal.str, 0⟩) none none .start := AHeap.set_comm _ _ _ nks
    rw [hcomm]
    exact readLoop w₀ hm h _ (by repeat (first | exact Sub.refl _ | assumption | refine Sub.set_both ?_ _ _ | refine Sub.trans_set ?_ (by repeat (first | assumption | refine (AHeap.set_ne _ _ (by first | assumption | exact Ne.symm (by assumption))).trans ?_)))) k0q1 k3q0 ks text dbg (splitNL (trimNL text)) rfl (by omega) ((AHeap.set_ne _ _ nkr.symm).trans (AHeap.set_same _ _ _)) hk0q1 (AHeap.set_same _ _ _) ⟨Sub.refl _, (fun _ _ e => by cases e), (AHeap.set_ne _ _ nks.symm).trans hk3q0, trivial, trivial, .inl ⟨rfl, rfl, rfl⟩⟩
end Go.Proofs.YtmadddihphkmoaaDoor

/-
  Contracts: Scan, Source of the package tokens.
  Conditions: none.
-/
namespace Go.Proofs.YtmadddihphkmoaaDoor
open Go.AM
open Go.Proofs
open Go.Col
open Go.Tok
open Go.RowKit (Below)
set_option maxRecDepth 100000

theorem cardT_nth {w₀ : World} {h : AHeap} {l : AM.Loc} {o n : Nat} {cp : Cap} {cs : List CardC} (hc : IsCards w₀ h (.slice l o n cp) cs) {i : Nat} (hi : i < cs.length) :
    ∃ mv, IsL w₀ h 3 mv ((cs.getD i ⟨false, [], []⟩).marks.map markC) ∧ rd w₀ h l (o + i * 3) = .bool (cs.getD i ⟨false, [], []⟩).left ∧ rd w₀ h l (o + i * 3 + 1) = .str (cs.getD i ⟨false, [], []⟩).text ∧ rd w₀ h l (o + i * 3 + 2) = mv := by
  obtain ⟨ps, rfl, h2, h3⟩ := hc
  rw [List.length_map] at hi
  have he := h2.elem (i := i) (by rw [List.length_map]; exact hi)
  rw [getD_map (⟨false, [], []⟩, .dead) hi] at he
  have hg : (ps.map (·.1)).getD i ⟨false, [], []⟩ = (ps.getD i (⟨false, [], []⟩, .dead)).1 := by
    simp [List.getD, hi]
  rw [hg]
  have hm : ps.getD i (⟨false, [], []⟩, .dead) ∈ ps := by rw [List.getD, List.getElem?_eq_getElem hi]; exact List.getElem_mem hi
  simp only [cellsAt, cell3, List.cons.injEq, and_true] at he
  exact ⟨_, h3 _ hm, he.1, he.2.1, he.2.2⟩
theorem rd_subT {w₀ : World} {h h' : AHeap} {l : AM.Loc} {o : Nat} {v : AVal} (hv : rd w₀ h l o = v) (hl : v.live = true) (hs : Sub h h') : rd w₀ h' l o = v := by
  have := cellsAt_mono (w₀ := w₀) (l := l) hs 1 o (by simp only [cellsAt, AM.allLive, hv, hl, Bool.and_true])
  simp only [cellsAt, List.cons.injEq, and_true] at this
  rw [this, hv]
theorem IsCards.liveT {w₀ : World} {h : AHeap} {v : AVal} {cs : List CardC} (hc : IsCards w₀ h v cs) : v.live = true := by
  obtain ⟨ps, rfl, h2, h3⟩ := hc
  exact h2.live
theorem IsCards.lenT {w₀ : World} {h : AHeap} {v : AVal} {cs : List CardC} (hc : IsCards w₀ h v cs) : pLen Tryd.prog 44 v = ⟨True, .int .i64 cs.length⟩ := by
  obtain ⟨ps, rfl, h2, h3⟩ := hc
  have := h2.len Tryd.underlying44
  rw [List.length_map] at this ⊢
  exact this
theorem IsCards.openT {w₀ : World} {h : AHeap} {v : AVal} {cs : List CardC} (hc : IsCards w₀ h v cs) (hn : 0 < cs.length) : ∃ l o c, v = .slice l o cs.length c := by
  obtain ⟨ps, rfl, h2, h3⟩ := hc
  obtain ⟨l, o, c, e⟩ := h2.open (fun e => by rw [List.map_eq_nil_iff] at e; subst e; simp at hn)
  rw [List.length_map] at e ⊢
  exact ⟨l, o, c, e⟩
theorem scanGo_next {cs : List CardC} {i : Nat} (hi : i < cs.length) (l : List TokC) : scanGo (cs.drop i) l = if (cardT (cs.getD i ⟨false, [], []⟩) l).2 ≠ okF then ([], (cardT (cs.getD i ⟨false, [], []⟩) l).2) else scanGo (cs.drop (i + 1)) (cardT (cs.getD i ⟨false, [], []⟩) l).1 := by
  rw [List.drop_eq_getElem_cons hi, scanGo]
  simp [List.getD, hi]
theorem Sub.bufBoth {h h' : AHeap} {b : Option Buf} (hs : Sub h h') : Sub (bufH h b) (bufH h' b) := by
  cases b with
  | none => exact hs
  | some b => exact Sub.set_both hs _ _
/-- What Scan answers: the tokens lie in one new block. -/
def ScanR (h : AHeap) (R : List TokC × FaultC) (v : AVal) (h' : AHeap) : Prop := ∃ tb, v = .tuple [capL (bufV 5 tb), faultA R.2] ∧ bufOk h 5 tb ∧ bufC tb = (R.1.map tokC).flatten ∧ h' = bufH h tb
theorem ScanR.toks {w₀ : World} {h h' : AHeap} {R : List TokC × FaultC} {v : AVal} (hr : ScanR h R v h') : ∃ tv, v = .tuple [capL tv, faultA R.2] ∧ IsL w₀ h' 5 (capL tv) (R.1.map tokC) ∧ Sub h h' := by
  obtain ⟨tb, rfl, h1, h2, rfl⟩ := hr
  exact ⟨bufV 5 tb, rfl, (IsL.buf h1 (by decide) h2 tokC_wide (Sub.refl _)).clip, Sub.buf h1⟩
structure SnG where
  i : Nat
  l : List TokC
  tb : Option Buf
  lf : Bool
  s : Str
  mv : AVal
  at0 : Nat
structure SnOk (kx : Nat) (B : AHeap) (cs : List CardC) (g : SnG) : Prop where
  inv : ScInv kx B g.tb g.l
  i : g.i ≤ cs.length
  eq : scanGo (cs.drop g.i) g.l = scanE cs
  len : g.l.length ≤ 65536
theorem c_clipT (w₀ : World) (h : AHeap) (v : AVal) (xs : List (List AVal)) (hv : IsL w₀ h 5 v xs) : ACall Tryd.prog w₀ 16 [v] h (fun r h' => r = capL v ∧ h' = h) := by
  have hlen := hv.len Tryd.underlying23
  have h3 := hv.slice3 Tryd.underlying23 sz35 .i64 .i64 none rfl
  refine acall_intro (n := 9) (rs := [.tmp 2]) Tryd.func16 rfl rfl rfl rfl (Nat.le_of_ble_eq_true rfl) ?_
  simp only [initSlots]
  -- region 0  slices.go:435
  refine awp_rseq [0] (by rfl) fun K hK => ?_
  simp (decide := true) only [aOps_nil, ev, absV, absS, putD, Slots.put, Slots.keep, if_true, if_false, true_and, ↓ap_assign, pop_assign]
  repeat (with_reducible refine And.intro ?_ ?_; · first | trivial | omega | (intro hg; simp only [Bool.and_eq_true, Bool.or_eq_true, Bool.not_eq_true', Bool.and_eq_false_iff, Bool.or_eq_false_iff, Bool.not_eq_false', decide_eq_true_eq, decide_eq_false_iff_not, eqNil] at hg; omega) )
  apply hK; clear hK K
  -- region 1  slices.go:436
  refine awp_rseq [2] (by rfl) fun K hK => ?_
  simp (decide := true) only [aOps_nil, ev, putD, Slots.put, Slots.get, Slots.keep, if_true, if_false, true_and, ↓ap_move, pop_move, ↓ap_len, pop_len, ↓ap_slice, pop_slice, evO, ↓ap_assign, pop_assign, hlen, h3]
  repeat (with_reducible refine And.intro ?_ ?_; · first | trivial | omega | (intro hg; simp only [Bool.and_eq_true, Bool.or_eq_true, Bool.not_eq_true', Bool.and_eq_false_iff, Bool.or_eq_false_iff, Bool.not_eq_false', decide_eq_true_eq, decide_eq_false_iff_not, eqNil] at hg; omega) )
  apply hK; clear hK K
  refine awp_ret ?_
  try simp only [thenA_ret, inBlockA_ret]
  refine retA_ret _ (Sub.refl _) (resPre_tmp (resPre_nil)) ?_
  simp (decide := true) only [Slots.get, if_true, and_true, resOf_one]
  all_goals first | rfl | exact ⟨rfl, rfl⟩ | (simp (decide := true) only [if_true, if_false, *]; done) | (trace_state; fail)
set_option maxHeartbeats 1000000 in
theorem c_Scan (w₀ : World) (h : AHeap) (v : AVal) (cs : List CardC) (hc : IsCards w₀ h v cs) (hn : cs.length ≤ 4611686018427387904) (hsm : ∀ c ∈ cs, c.text.length ≤ 1099511627776 ∧ c.marks.length ≤ 4611686018427387904) :
    ACall Tryd.prog w₀ 14 [v] h (ScanR h (scanE cs)) := by
  have hlv := hc.liveT
  have hln := hc.lenT
  refine acall_intro (n := 27) (rs := [.tmp 2, .cell 3 28]) Tryd.func14 rfl rfl rfl rfl (Nat.le_of_ble_eq_true rfl) ?_
  simp only [initSlots]
  -- region 0  tokens.go:224
  refine awp_rseq [0, 3] (by rfl) fun K hK => ?_
  simp (decide := true) only [ev, absV, absS, putD, Slots.put, if_false, true_and, ↓ap_assign, pop_assign]
  repeat (with_reducible refine And.intro ?_ ?_; · first | trivial | omega | (intro hg; simp only [Bool.and_eq_true, Bool.or_eq_true, Bool.not_eq_true', Bool.and_eq_false_iff, Bool.or_eq_false_iff, Bool.not_eq_false', decide_eq_true_eq, decide_eq_false_iff_not, eqNil] at hg; omega) )
  refine aOps_alloc ze28 (cs := [.int .i64 0, .int .i64 0, .int .i64 0]) (by rfl) fun k0q1 hk0q1 => ?_
  try have hf_0q1 : h k0q1 = none := by first | assumption | (simp only [AHeap.set_none] at hk0q1; simp only [hk0q1])
  simp (decide := true) only [aOps_nil, putD, Slots.put, Slots.keep, if_true, if_false]
  repeat (with_reducible refine And.intro ?_ ?_; · first | trivial | omega | (intro hg; simp only [Bool.and_eq_true, Bool.or_eq_true, Bool.not_eq_true', Bool.and_eq_false_iff, Bool.or_eq_false_iff, Bool.not_eq_false', decide_eq_true_eq, decide_eq_false_iff_not, eqNil] at hg; omega) )
  apply hK; clear hK K
  -- region 1  tokens.go:225
  refine awp_rseq [0, 3, 4] (by rfl) fun K hK => ?_
  refine aOps_alloc ze71 (cs := [.bool false, .str [], .nilSlice, .int .i64 0, .nilSlice]) (by rfl) fun k1q0 hk1q0 => ?_
  have ne_1q0_0q1 : k1q0 ≠ k0q1 := by simp only [AHeap.set_none] at hk1q0; simp only [hk1q0, ne_eq, not_false_eq_true]
  try have hf_1q0 : h k1q0 = none := by first | assumption | (simp only [AHeap.set_none] at hk1q0; simp only [hk1q0])
  simp (decide := true) only [aOps_nil, putD, Slots.put, Slots.keep, if_true, if_false]
  obtain ⟨B, hB⟩ : ∃ B, B = h.set k0q1 ⟨[.int .i64 0, .int .i64 0, .int .i64 0], 0⟩ := ⟨_, rfl⟩
  have hBs : Sub h B := by rw [hB]; exact Sub.set hk0q1
  have hBk : B k0q1 = some ⟨[.int .i64 0, .int .i64 0, .int .i64 0], 0⟩ := by rw [hB]; exact AHeap.set_same _ _ _
  rw [← hB] at hk1q0 ⊢
  apply hK; clear hK K
  refine awp_seq ?_
  -- region 2  tokens.go:226
  refine awp_rseq [3, 4, 8, 9, 10] (by rfl) fun K hK => ?_
  simp (decide := true) only [aOps_nil, ev, absV, absS, putD, Slots.put, Slots.get, Slots.keep, if_true, if_false, true_and, ↓ap_move, pop_move, ↓ap_len, pop_len, hln]
  repeat (with_reducible refine And.intro ?_ ?_; · first | trivial | omega | (intro hg; simp only [Bool.and_eq_true, Bool.or_eq_true, Bool.not_eq_true', Bool.and_eq_false_iff, Bool.or_eq_false_iff, Bool.not_eq_false', decide_eq_true_eq, decide_eq_false_iff_not, eqNil] at hg; omega) )
  apply hK; clear hK K
  refine awp_block ?_
  refine awp_loopG [3, 4, 8, 9, 10] (fun g : SnG => [(3, .ptr (.own k0q1) 0), (4, .ptr (.own k1q0) 0), (8, v), (9, .int .i64 cs.length), (10, .int .i64 g.i)]) (fun g : SnG => scH k1q0 B g.tb g.lf g.s g.mv g.at0) (fun g : SnG => SnOk k1q0 B cs g) (fun g : SnG => cs.length - g.i) ⟨0, [], none, false, [], .nilSlice, 0⟩ (by rfl) (Sub.refl _) ⟨⟨hk1q0, fun _ => trivial, rfl⟩, Nat.zero_le _, rfl, Nat.zero_le _⟩ ?_
  rintro ⟨i, l, tb, lf0, s0, mv0, at0⟩ ⟨i1, i2, i3, i4⟩
  simp only at i1 i2 i3 i4 ⊢
  have hSb : Sub h (scH k1q0 B tb lf0 s0 mv0 at0) := hBs.trans i1.above
  -- region 3  tokens.go:226
  refine awp_rseq [3, 4, 8, 9, 10, 11] (by rfl) fun K hK => ?_
  simp (decide := true) only [aOps_nil, ev, putD, Slots.put, Slots.get, Slots.keep, if_true, if_false, true_and, ↓ap_binOp, pop_binOp, isNilC_tmp, cond_false, pBinX_int, pI_lss]
  repeat (with_reducible refine And.intro ?_ ?_; · first | trivial | omega | (intro hg; simp only [Bool.and_eq_true, Bool.or_eq_true, Bool.not_eq_true', Bool.and_eq_false_iff, Bool.or_eq_false_iff, Bool.not_eq_false', decide_eq_true_eq, decide_eq_false_iff_not, eqNil] at hg; omega) )
  apply hK; clear hK K
  refine awp_seq (awp_cond (b := _) rfl (fun hb1 => ?_) (fun hb1 => ?_))
  · try simp only [decide_eq_true_eq] at hb1
    have hi : i < cs.length := by omega
    obtain ⟨lc, o, cp, rfl⟩ := hc.openT (by omega)
    obtain ⟨mv, e3, e0, e1, e2⟩ := cardT_nth hc hi
    obtain ⟨c, hcc⟩ : ∃ c, c = cs.getD i ⟨false, [], []⟩ := ⟨_, rfl⟩
    have hnext := scanGo_next hi l
    rw [← hcc] at e0 e1 e3 hnext
    have hcs := hsm c (by rw [hcc, List.getD, List.getElem?_eq_getElem hi]; exact List.getElem_mem hi)
    have hmv := e3.live
    have hms := e3.scal
    have e0' := rd_subT e0 rfl hSb
    have e1' := rd_subT e1 rfl hSb
    have e2' := rd_subT e2 hmv hSb
    rw [i3] at hnext
    refine awp_skip ?_
    change Awp _ _ _ _ _ _ _
    refine awp_seq ?_
    refine awp_block ?_
    -- region 4  tokens.go:226
    refine awp_rseq [3, 4, 6, 8, 9, 10] (by rfl) fun K hK => ?_
    simp (decide := true) only [ev, putD, Slots.put, Slots.get, if_true, if_false, true_and, ↓ap_indexAddrL, apL_mk, pIndexAddr_slice Tryd.underlying44 sz68, ↓ap_loadL, pLoad_agg ag68 sz68, cellsAt, lv_bool, lv_str, allLive, Bool.and_true, e0', e1', e2', Int.toNat_natCast, hmv]
    repeat (with_reducible refine And.intro ?_ ?_; · first | trivial | omega | (intro hg; simp only [Bool.and_eq_true, Bool.or_eq_true, Bool.not_eq_true', Bool.and_eq_false_iff, Bool.or_eq_false_iff, Bool.not_eq_false', decide_eq_true_eq, decide_eq_false_iff_not, eqNil] at hg; omega) )
    refine aOps_alloc ze68 (cs := [.bool false, .str [], .nilSlice]) (by rfl) fun k4q2 hk4q2 => ?_
    try have hf_4q2 : h k4q2 = none := by first | assumption | (simp only [AHeap.set_none] at hk4q2; simp only [hk4q2])
    refine aOps_store (v := .agg [.bool c.left, .str c.text, mv]) (by rfl) (by rfl) (AHeap.set_same _ _ _) sz68 (by rfl) (by rfl) (by simp []) (Nat.zero_le _) (show (true && (true && (mv.scal && true))) = true by rw [hms]; rfl) ?_
    simp only [AHeap.set_set, setAt, AVal.cells, List.set_cons_zero, List.set_cons_succ, Nat.zero_add, Nat.reduceAdd]
    simp (decide := true) only [aOps_nil, putD, Slots.put, Slots.keep, if_true, if_false]
    repeat (with_reducible refine And.intro ?_ ?_; · first | trivial | omega | (intro hg; simp only [Bool.and_eq_true, Bool.or_eq_true, Bool.not_eq_true', Bool.and_eq_false_iff, Bool.or_eq_false_iff, Bool.not_eq_false', decide_eq_true_eq, decide_eq_false_iff_not, eqNil] at hg; omega) )
    apply hK; clear hK K
    obtain ⟨a1, a2, a3, a4⟩ := i1.lay hk4q2 ⟨[.bool c.left, .str c.text, mv], 0⟩
    obtain ⟨B2, hB2⟩ : ∃ B2, B2 = B.set k4q2 ⟨[.bool c.left, .str c.text, mv], 0⟩ := ⟨_, rfl⟩
    rw [← hB2] at a1 a2
    have hB2s : Sub B B2 := by rw [hB2]; exact Sub.set a4
    have b2k : B2 k4q2 = some ⟨[.bool c.left, .str c.text, mv], 0⟩ := by rw [hB2]; exact AHeap.set_same _ _ _
    have r5 := fun o => rd_own w₀ (a2.other (lf := lf0) (s := s0) (mv := mv0) (i := at0) b2k) o
    have hm2 : IsL w₀ B2 3 mv (c.marks.map markC) := e3.mono (hBs.trans hB2s)
    rw [a1]
    -- region 5  tokens.go:227
    refine awp_rseq [3, 4, 8, 9, 10] (by rfl) fun K hK => ?_
    simp (decide := true) only [ev, putD, Slots.put, Slots.get, if_true, if_false, true_and, ↓ap_loadL, apL_mk, pLoad_agg ag68 sz68, ↓ap_fieldAddr, pop_fieldAddr, fa71_0, cellsAt, List.getD_cons_zero, List.getD_cons_succ, Nat.zero_add, Nat.reduceAdd, lv_bool, lv_str, allLive, Bool.and_true, r5, hmv]
    repeat (with_reducible refine And.intro ?_ ?_; · first | trivial | omega | (intro hg; simp only [Bool.and_eq_true, Bool.or_eq_true, Bool.not_eq_true', Bool.and_eq_false_iff, Bool.or_eq_false_iff, Bool.not_eq_false', decide_eq_true_eq, decide_eq_false_iff_not, eqNil] at hg; omega) )
    refine aOps_store (v := .agg [.bool c.left, .str c.text, mv]) (by rfl) (by rfl) a2.at sz68 (by rfl) (by rfl) (by simp []) (Nat.zero_le _) (show (true && (true && (mv.scal && true))) = true by rw [hms]; rfl) ?_
    simp only [setAt, AVal.cells, List.set_cons_zero, List.set_cons_succ, Nat.zero_add, Nat.reduceAdd]
    rw [a2.set]
    show aOps _ _ _ _ _ (scH k1q0 B2 tb c.left c.text mv at0) _
    simp (decide := true) only [ev, putD, Slots.put, Slots.get, if_true, if_false, true_and, ↓ap_fieldAddr, pop_fieldAddr, fa71_1, Nat.zero_add]
    repeat (with_reducible refine And.intro ?_ ?_; · first | trivial | omega | (intro hg; simp only [Bool.and_eq_true, Bool.or_eq_true, Bool.not_eq_true', Bool.and_eq_false_iff, Bool.or_eq_false_iff, Bool.not_eq_false', decide_eq_true_eq, decide_eq_false_iff_not, eqNil] at hg; omega) )
    refine aOps_store (v := .int .i64 0) (by rfl) (by rfl) a2.at sz3 (by rfl) (by rfl) (by simp) (Nat.zero_le _) (by rfl) ?_
    simp only [setAt, AVal.cells, List.set_cons_zero, List.set_cons_succ]
    rw [a2.set]
    show aOps _ _ _ _ _ (scH k1q0 B2 tb c.left c.text mv 0) _
    simp (decide := true) only [aOps_nil, putD, Slots.keep, if_true, if_false]
    repeat (with_reducible refine And.intro ?_ ?_; · first | trivial | omega | (intro hg; simp only [Bool.and_eq_true, Bool.or_eq_true, Bool.not_eq_true', Bool.and_eq_false_iff, Bool.or_eq_false_iff, Bool.not_eq_false', decide_eq_true_eq, decide_eq_false_iff_not, eqNil] at hg; omega) )
    apply hK; clear hK K
    -- region 6  tokens.go:228
    refine awp_rseq [3, 4, 7, 8, 9, 10] (by rfl) fun K hK => ?_
    refine aOps_call (by rfl) (by rfl) (c_card w₀ k1q0 B2 tb c mv l a2 hm2 hcs.2 hcs.1 i4) fun x6q0 h6q0 hx6q0 => ?_
    obtain ⟨hv6, hl6, tb', i', hh6, j1⟩ := hx6q0
    obtain ⟨f, hf⟩ : ∃ f, f = (cardT c l).2 := ⟨_, rfl⟩
    obtain ⟨H6, hH6⟩ : ∃ H6, H6 = scH k1q0 B2 tb' c.left c.text mv i' := ⟨_, rfl⟩
    have hS6 : Sub h H6 := by rw [hH6]; exact (hBs.trans hB2s).trans j1.above
    have e06 : H6 k0q1 = some ⟨[.int .i64 0, .int .i64 0, .int .i64 0], 0⟩ := by rw [hH6]; exact j1.other (hB2s _ _ hBk)
    rw [← hf] at hnext
    rw [hv6, hh6, ← hH6, ← hf]
    refine aOps_alloc ze28 (cs := [.int .i64 0, .int .i64 0, .int .i64 0]) (by rfl) fun k6q1 hk6q1 => ?_
    try have hf_6q1 : h k6q1 = none := by first | assumption | (simp only [AHeap.set_none] at hk6q1; simp only [hk6q1])
    refine aOps_store (by rfl) (by rfl) (by repeat (first | exact AHeap.set_same _ _ _ | assumption | refine (AHeap.set_ne _ _ (by first | assumption | exact Ne.symm (by assumption))).trans ?_)) sz28 (by rfl) (by rfl) (by first | exact Nat.le_refl _ | decide | (simp; done) | (simp; omega)) (Nat.zero_le _) (by rfl) ?_
    simp only [AHeap.set_set, AVal.cells]
    simp (decide := true) only [aOps_nil, ev, putD, Slots.put, Slots.get, Slots.keep, if_true, if_false, setAt, List.set_cons_zero, List.set_cons_succ, Nat.zero_add, Nat.reduceAdd, faultA]
    repeat (with_reducible refine And.intro ?_ ?_; · first | trivial | omega | (intro hg; simp only [Bool.and_eq_true, Bool.or_eq_true, Bool.not_eq_true', Bool.and_eq_false_iff, Bool.or_eq_false_iff, Bool.not_eq_false', decide_eq_true_eq, decide_eq_false_iff_not, eqNil] at hg; omega) )
    apply hK; clear hK K
    have hf6 := Sub.none hS6 hk6q1
    have ne_6q1_0q1 : k6q1 ≠ k0q1 := AHeap.ne_some hk6q1 e06
    -- region 7  tokens.go:228
    refine awp_rseq [3, 4, 7, 8, 9, 10, 20] (by rfl) fun K hK => ?_
    simp (decide := true) only [aOps_nil, ev, absV, absS, putD, Slots.put, Slots.get, Slots.keep, if_true, if_false, true_and, ↓ap_loadL, apL_mk, pLoad_agg ag28 sz28, ↓ap_build, ↓pop_buildL, bld28_, evP, List.map_nil, ↓ap_binOp, pop_binOp, isNilC_tmp, cond_false, pBinX_agg, ne28, rd_any, cellsAt, List.getD_cons_zero, List.getD_cons_succ, Nat.zero_add, Nat.reduceAdd, lv_int, allLive, Bool.and_true, faultA_eq]
    repeat (with_reducible refine And.intro ?_ ?_; · first | trivial | omega | (intro hg; simp only [Bool.and_eq_true, Bool.or_eq_true, Bool.not_eq_true', Bool.and_eq_false_iff, Bool.or_eq_false_iff, Bool.not_eq_false', decide_eq_true_eq, decide_eq_false_iff_not, eqNil] at hg; omega) )
    apply hK; clear hK K
    refine awp_cond (b := _) rfl (fun hb2 => ?_) (fun hb2 => ?_)
    · try simp only [decide_eq_false_iff_not, Bool.not_eq_true'] at hb2
      have hres : scanE cs = ([], f) := by rw [hnext, if_pos hb2]
      -- region 8  tokens.go:229
      refine awp_dseq_tail 2 [2, 3] mixed (by kernel_rfl) (by rfl) (by rfl) fun K hK => ?_
      simp (decide := true) only [ev, absV, absS, putD, Slots.put, Slots.get, if_true, if_false, true_and, ↓ap_loadL, apL_mk, pLoad_agg ag28 sz28, ↓ap_assign, pop_assign, rd_any, cellsAt, List.getD_cons_zero, List.getD_cons_succ, Nat.zero_add, Nat.reduceAdd, lv_int, allLive, Bool.and_true]
      repeat (with_reducible refine And.intro ?_ ?_; · first | trivial | omega | (intro hg; simp only [Bool.and_eq_true, Bool.or_eq_true, Bool.not_eq_true', Bool.and_eq_false_iff, Bool.or_eq_false_iff, Bool.not_eq_false', decide_eq_true_eq, decide_eq_false_iff_not, eqNil] at hg; omega) )
      refine aOps_store (by rfl) (by rfl) (by repeat (first | exact AHeap.set_same _ _ _ | assumption | refine (AHeap.set_ne _ _ (by first | assumption | exact Ne.symm (by assumption))).trans ?_)) sz28 (by rfl) (by rfl) (by first | exact Nat.le_refl _ | decide | (simp; done) | (simp; omega)) (Nat.zero_le _) (by rfl) ?_
      simp only [AVal.cells]
      simp (decide := true) only [aOps_nil, ev, putD, Slots.get, Slots.keep, if_true, if_false, setAt, List.set_cons_zero, List.set_cons_succ, Nat.zero_add, Nat.reduceAdd]
      repeat (with_reducible refine And.intro ?_ ?_; · first | trivial | omega | (intro hg; simp only [Bool.and_eq_true, Bool.or_eq_true, Bool.not_eq_true', Bool.and_eq_false_iff, Bool.or_eq_false_iff, Bool.not_eq_false', decide_eq_true_eq, decide_eq_false_iff_not, eqNil] at hg; omega) )
      apply hK; clear hK K
      refine awp_ret ?_
      try simp only [thenA_ret, inBlockA_ret]
      refine retA_ret h (by repeat (first | exact Sub.refl _ | assumption | refine Sub.set_both ?_ _ _ | refine Sub.trans_set ?_ (by repeat (first | assumption | refine (AHeap.set_ne _ _ (by first | assumption | exact Ne.symm (by assumption))).trans ?_)))) (?_) ?_
      · simp (decide := true) only [resPre, resV_tmp, resV_cell, Slots.get, if_true, if_false, and_true, resV_tmp, resV_cell, pLoad_agg ag28 sz28, rd_set, cellsAt, List.getD_cons_zero, List.getD_cons_succ, Nat.zero_add, Nat.reduceAdd, lv_int, allLive, Bool.and_true, cellsAt, List.getD_cons_zero, List.getD_cons_succ, Nat.zero_add, Nat.reduceAdd, lv_int, allLive, Bool.and_true]
      
      simp (decide := true) only [Slots.get, if_true, if_false, resOfG_two, resV_tmp, resV_cell, pLoad_agg ag28 sz28, rd_set, cellsAt, List.getD_cons_zero, List.getD_cons_succ, Nat.zero_add, Nat.reduceAdd, lv_int, allLive, Bool.and_true, cellsAt, List.getD_cons_zero, List.getD_cons_succ, Nat.zero_add, Nat.reduceAdd, lv_int, allLive, Bool.and_true]
      exact ⟨none, by rw [hres]; rfl, trivial, by rw [hres]; rfl, rfl⟩
    · try simp only [decide_eq_true_eq, Bool.not_eq_false'] at hb2
      have hres : scanE cs = scanGo (cs.drop (i + 1)) (cardT c l).1 := by rw [hnext, if_neg (by simpa using hb2)]
      refine awp_skip ?_
      change Awp _ _ _ _ _ _ _
      -- region 9  tokens.go:226
      refine awp_r [3, 4, 8, 9, 10] (by rfl) ?_
      simp (decide := true) only [aOps_nil, ev, absV, absS, putD, Slots.put, Slots.get, Slots.keep, if_true, if_false, true_and, ↓ap_binOp, pop_binOp, isNilC_int, cond_false, pBinX_int, pI_add, ↓ap_move, pop_move]
      try simp (disch := omega) only [wrap_i64]
      repeat (with_reducible refine And.intro ?_ ?_; · first | trivial | omega | (intro hg; simp only [Bool.and_eq_true, Bool.or_eq_true, Bool.not_eq_true', Bool.and_eq_false_iff, Bool.or_eq_false_iff, Bool.not_eq_false', decide_eq_true_eq, decide_eq_false_iff_not, eqNil] at hg; omega) )
      try simp only [thenA_normal]
      exact ⟨⟨i + 1, (cardT c l).1, tb', c.left, c.text, mv, i'⟩, rfl, (scH_sub hB2s).trans (by rw [← hH6]; exact Sub.set hk6q1), ⟨j1.down hB2s, hi, hres.symm, hl6⟩, by simp only; omega⟩
  · try simp only [decide_eq_false_iff_not] at hb1
    have hres : scanE cs = (l, okF) := by rw [← i3, List.drop_eq_nil_of_le (by omega)]; rfl
    have rx10 := fun o => rd_own w₀ (i1.at (lf := lf0) (s := s0) (mv := mv0) (i := at0)) o
    have hbl := bufV_live 5 tb
    have r0 := fun o => rd_own w₀ (i1.other (lf := lf0) (s := s0) (mv := mv0) (i := at0) hBk) o
    refine awp_exit ?_
    change Awp _ _ _ _ _ _ _
    -- region 10  tokens.go:232
    refine awp_rseq [2, 3] (by rfl) fun K hK => ?_
    simp (decide := true) only [ev, putD, Slots.put, Slots.get, if_true, if_false, true_and, ↓ap_fieldAddr, pop_fieldAddr, fa71_2, ↓ap_loadL, apL_mk, pLoad_one ag23, List.getD_cons_zero, List.getD_cons_succ, Nat.zero_add, rx10, hbl]
    repeat (with_reducible refine And.intro ?_ ?_; · first | trivial | omega | (intro hg; simp only [Bool.and_eq_true, Bool.or_eq_true, Bool.not_eq_true', Bool.and_eq_false_iff, Bool.or_eq_false_iff, Bool.not_eq_false', decide_eq_true_eq, decide_eq_false_iff_not, eqNil] at hg; omega) )
    refine aOps_callV (V := capL (bufV 5 tb)) (by rfl) (by rfl) (c_clipT w₀ _ _ _ (i1.toks _)) ?_
    simp (decide := true) only [ev, absV, absS, putD, Slots.put, Slots.get, if_true, if_false, true_and, ↓ap_build, ↓pop_buildL, bld28_, evP, List.map_nil, ↓ap_assign, pop_assign]
    repeat (with_reducible refine And.intro ?_ ?_; · first | trivial | omega | (intro hg; simp only [Bool.and_eq_true, Bool.or_eq_true, Bool.not_eq_true', Bool.and_eq_false_iff, Bool.or_eq_false_iff, Bool.not_eq_false', decide_eq_true_eq, decide_eq_false_iff_not, eqNil] at hg; omega) )
    refine aOps_store (v := .agg [.int .i64 0, .int .i64 0, .int .i64 0]) (by rfl) (by rfl) (i1.other hBk) sz28 (by rfl) (by rfl) (by simp []) (Nat.zero_le _) (by rfl) ?_
    simp only [setAt, AVal.cells, List.set_cons_zero, List.set_cons_succ, Nat.zero_add, Nat.reduceAdd]
    rw [set_same_self (i1.other hBk)]
    simp (decide := true) only [aOps_nil, putD, Slots.keep, if_true, if_false]
    repeat (with_reducible refine And.intro ?_ ?_; · first | trivial | omega | (intro hg; simp only [Bool.and_eq_true, Bool.or_eq_true, Bool.not_eq_true', Bool.and_eq_false_iff, Bool.or_eq_false_iff, Bool.not_eq_false', decide_eq_true_eq, decide_eq_false_iff_not, eqNil] at hg; omega) )
    apply hK; clear hK K
    refine awp_ret ?_
    try simp only [thenA_ret, inBlockA_ret]
    refine retA_retE (?_) ?_
    · simp (decide := true) only [resPre, resV_tmp, resV_cell, Slots.get, if_true, if_false, and_true, resV_tmp, resV_cell, pLoad_agg ag28 sz28, cellsAt, List.getD_cons_zero, List.getD_cons_succ, Nat.zero_add, Nat.reduceAdd, lv_int, allLive, Bool.and_true, cellsAt, List.getD_cons_zero, List.getD_cons_succ, Nat.zero_add, Nat.reduceAdd, lv_int, allLive, Bool.and_true, r0]
    
    simp (decide := true) only [Slots.get, if_true, if_false, resOfG_two, resV_tmp, resV_cell, pLoad_agg ag28 sz28, cellsAt, List.getD_cons_zero, List.getD_cons_succ, Nat.zero_add, Nat.reduceAdd, lv_int, allLive, Bool.and_true, cellsAt, List.getD_cons_zero, List.getD_cons_succ, Nat.zero_add, Nat.reduceAdd, lv_int, allLive, Bool.and_true, r0]
    have hsx : Sub h (B.set k1q0 ⟨[.bool lf0, .str s0, mv0, .int .i64 at0, bufV 5 tb], 0⟩) := hBs.trans (Sub.set i1.hk)
    exact ⟨bufH h tb, Sub.bufBoth hsx, tb, by rw [hres]; rfl, (i1.ok _).sub hsx, by rw [hres]; exact i1.eq, rfl⟩
end Go.Proofs.YtmadddihphkmoaaDoor

/-
  Contracts: Source of the package tokens; bounds of what is read.
  Conditions: none.
-/
namespace Go.Proofs.YtmadddihphkmoaaDoor
open Go.AM
open Go.Proofs
open Go.Col
open Go.Tok
open Go.RowKit (Below)
set_option maxRecDepth 100000

theorem readL_smallT (dbg : Bool) : ∀ (ls : List Str) (n : Int) (x : Rd) (N : Nat), RdSm N x → RdSm (N + ls.length) (readL dbg ls n x).1
  | [], _, x, N, h => h
  | s :: ls, n, x, N, h => by
    have hl := (lineE_small (s := s) (line := n) (dbg := dbg)).1
    have e : N + (s :: ls).length = (N + 1) + ls.length := by rw [List.length_cons]; omega
    have up : ∀ k {y : Rd}, RdSm (N + 1) y → RdSm (N + 1 + k) y := fun k y hy => by
      induction k with
      | zero => exact hy
      | succ k ih => exact ih.next
    rw [readL]
    cases hp : lineE s n dbg with
    | mk r q =>
      obtain ⟨cn, f⟩ := q
      rw [hp] at hl
      simp only
      split
      · rw [e]; exact readL_smallT dbg ls _ x (N + 1) h.next
      · split
        · split
          · rw [e]; exact readL_smallT dbg ls _ _ (N + 1) (takeE_small h (by have : r.text.length ≤ 65 := hl; omega))
          · rw [e]; exact up _ (takeE_small h (by have : r.text.length ≤ 65 := hl; omega))
        · rw [e]; exact up _ h.next
theorem readE_smallT (text : Str) (dbg : Bool) : (readE text dbg).1.length ≤ 1048577 ∧ ∀ c ∈ (readE text dbg).1, c.text.length ≤ 83886160 ∧ c.marks.length ≤ 1048577 := by
  have h := readL_smallT dbg (splitNL (trimNL text)) 1 .start 0 ⟨Nat.zero_le _, fun c hc => by cases hc⟩
  have h1 := splitNL_len (trimNL text)
  have h2 := trimNL_len text
  unfold readE
  split
  · exact ⟨Nat.zero_le _, fun c hc => by cases hc⟩
  · simp only
    split
    · exact ⟨Nat.zero_le _, fun c hc => by cases hc⟩
    · split
      · exact ⟨Nat.zero_le _, fun c hc => by cases hc⟩
      · exact ⟨by have := h.many; simp only; omega, fun c hc => by have := h.small c hc; omega⟩
theorem source_small (text : Str) (dbg : Bool) : (sourceE text dbg).1.length ≤ 65536 ∧ ∀ t ∈ (sourceE text dbg).1, t.text.length ≤ 83886162 := by
  obtain ⟨z1, z2⟩ := readE_smallT text dbg
  unfold sourceE
  split
  · exact ⟨Nat.zero_le _, fun t ht => by cases ht⟩
  · refine ⟨scanGo_many _ _ (Nat.zero_le _), scanGo_inv _ _ (fun c hc j l hv hj h32 he => ?_) _ (fun t ht => by cases ht)⟩
    have := (z2 c hc).1
    have := next_text c.text j l hj
    show (nextE c.text j l).text.length ≤ _
    omega
theorem c_Source (w₀ : World) (hm : MaxL w₀) (h : AHeap) (text : Str) (dbg : Bool) (hl : text.length ≤ 9223372036854775807) : ACall Tryd.prog w₀ 7 [.str text, .bool dbg] h (ScanR h (sourceE text dbg)) := by
  obtain ⟨z1, z2⟩ := readE_smallT text dbg
  refine acall_intro (n := 22) (rs := [.tmp 4, .cell 5 28]) Tryd.func7 rfl rfl rfl rfl (Nat.le_of_ble_eq_true rfl) ?_
  simp only [initSlots]
  -- region 0  tokens.go:236
  refine awp_rseq [0, 1, 5] (by rfl) fun K hK => ?_
  simp (decide := true) only [ev, absV, absS, putD, Slots.put, if_false, true_and, ↓ap_assign, pop_assign, Nat.zero_add]
  repeat (with_reducible refine And.intro ?_ ?_; · first | trivial | omega | (intro hg; simp only [Bool.and_eq_true, Bool.or_eq_true, Bool.not_eq_true', Bool.and_eq_false_iff, Bool.or_eq_false_iff, Bool.not_eq_false', decide_eq_true_eq, decide_eq_false_iff_not, eqNil] at hg; omega) )
  refine aOps_alloc ze28 (cs := [.int .i64 0, .int .i64 0, .int .i64 0]) (by rfl) fun k0q1 hk0q1 => ?_
  try have hf_0q1 : h k0q1 = none := by first | assumption | (simp only [AHeap.set_none] at hk0q1; simp only [hk0q1])
  simp (decide := true) only [aOps_nil, putD, Slots.put, Slots.keep, if_true, if_false]
  repeat (with_reducible refine And.intro ?_ ?_; · first | trivial | omega | (intro hg; simp only [Bool.and_eq_true, Bool.or_eq_true, Bool.not_eq_true', Bool.and_eq_false_iff, Bool.or_eq_false_iff, Bool.not_eq_false', decide_eq_true_eq, decide_eq_false_iff_not, eqNil] at hg; omega) )
  apply hK; clear hK K
  -- region 1  tokens.go:237
  refine awp_rseq [5, 6, 7] (by rfl) fun K hK => ?_
  simp (decide := true) only [ev, putD, Slots.put, Slots.get, if_true, if_false, true_and, ↓ap_move, pop_move]
  repeat (with_reducible refine And.intro ?_ ?_; · first | trivial | omega | (intro hg; simp only [Bool.and_eq_true, Bool.or_eq_true, Bool.not_eq_true', Bool.and_eq_false_iff, Bool.or_eq_false_iff, Bool.not_eq_false', decide_eq_true_eq, decide_eq_false_iff_not, eqNil] at hg; omega) )
  refine aOps_call (by rfl) (by rfl) (c_Read w₀ hm _ text dbg hl) fun x1q2 h1q2 hx1q2 => ?_
  obtain ⟨cv, rfl, hc, hs1⟩ := hx1q2
  have hlv := hc.liveT
  obtain ⟨cs, hcs⟩ : ∃ cs, cs = (readE text dbg).1 := ⟨_, rfl⟩
  obtain ⟨f, hf⟩ : ∃ f, f = (readE text dbg).2 := ⟨_, rfl⟩
  have hso : sourceE text dbg = if f ≠ okF then ([], f) else scanE cs := by rw [hf, hcs]; rfl
  rw [← hcs] at hc z1 z2
  rw [← hf]
  have hs_h1q2 : Sub h h1q2 := Sub.trans (by repeat (first | exact Sub.refl _ | assumption | refine Sub.trans_set ?_ (by assumption))) hs1
  have hr_h1q2 := hs_h1q2
  have eb_0q1 := hs1 k0q1 _ (by repeat (first | exact AHeap.set_same _ _ _ | assumption | refine (AHeap.set_ne _ _ (by first | assumption | exact Ne.symm (by assumption))).trans ?_))
  simp (decide := true) only [ev, putD, Slots.put, Slots.get, if_true, if_false, true_and, ↓ap_move, pop_move, ↓ap_extract, pop_extract, pExt_tuple, List.length_cons, List.length_nil, List.getD_cons_zero, List.getD_cons_succ, List.getD_cons_zero, List.getD_cons_succ, Nat.zero_add, Nat.reduceAdd, faultA]
  repeat (with_reducible refine And.intro ?_ ?_; · first | trivial | omega | (intro hg; simp only [Bool.and_eq_true, Bool.or_eq_true, Bool.not_eq_true', Bool.and_eq_false_iff, Bool.or_eq_false_iff, Bool.not_eq_false', decide_eq_true_eq, decide_eq_false_iff_not, eqNil] at hg; omega) )
  refine aOps_alloc ze28 (cs := [.int .i64 0, .int .i64 0, .int .i64 0]) (by rfl) fun k1q6 hk1q6 => ?_
  have hn_1q6 : h1q2 k1q6 = none := by first | assumption | (simp only [AHeap.set_none] at hk1q6; simp only [hk1q6])
  have hf_1q6 : h k1q6 = none := Sub.none hs_h1q2 hn_1q6
  have ne_1q6_0q1 : k1q6 ≠ k0q1 := AHeap.ne_some hn_1q6 eb_0q1
  simp (decide := true) only [ev, putD, Slots.put, Slots.get, if_true, if_false, true_and, ↓ap_assign, pop_assign]
  repeat (with_reducible refine And.intro ?_ ?_; · first | trivial | omega | (intro hg; simp only [Bool.and_eq_true, Bool.or_eq_true, Bool.not_eq_true', Bool.and_eq_false_iff, Bool.or_eq_false_iff, Bool.not_eq_false', decide_eq_true_eq, decide_eq_false_iff_not, eqNil] at hg; omega) )
  refine aOps_store (by rfl) (by rfl) (by repeat (first | exact AHeap.set_same _ _ _ | assumption | refine (AHeap.set_ne _ _ (by first | assumption | exact Ne.symm (by assumption))).trans ?_)) sz28 (by rfl) (by rfl) (by first | exact Nat.le_refl _ | decide | (simp; done) | (simp; omega)) (Nat.zero_le _) (by rfl) ?_
  simp only [AHeap.set_set, AVal.cells]
  simp (decide := true) only [aOps_nil, ev, putD, Slots.get, Slots.keep, if_true, if_false, setAt, List.set_cons_zero, List.set_cons_succ, Nat.zero_add, Nat.reduceAdd]
  repeat (with_reducible refine And.intro ?_ ?_; · first | trivial | omega | (intro hg; simp only [Bool.and_eq_true, Bool.or_eq_true, Bool.not_eq_true', Bool.and_eq_false_iff, Bool.or_eq_false_iff, Bool.not_eq_false', decide_eq_true_eq, decide_eq_false_iff_not, eqNil] at hg; omega) )
  apply hK; clear hK K
  refine awp_seq ?_
  -- region 2  tokens.go:238
  refine awp_rseq [5, 6, 7, 16] (by rfl) fun K hK => ?_
  simp (decide := true) only [aOps_nil, ev, absV, absS, putD, Slots.put, Slots.get, Slots.keep, if_true, if_false, true_and, ↓ap_loadL, apL_mk, pLoad_agg ag28 sz28, ↓ap_build, ↓pop_buildL, bld28_, evP, List.map_nil, ↓ap_binOp, pop_binOp, isNilC_tmp, cond_false, pBinX_agg, ne28, rd_any, cellsAt, List.getD_cons_zero, List.getD_cons_succ, Nat.zero_add, Nat.reduceAdd, lv_int, allLive, Bool.and_true, faultA_eq]
  repeat (with_reducible refine And.intro ?_ ?_; · first | trivial | omega | (intro hg; simp only [Bool.and_eq_true, Bool.or_eq_true, Bool.not_eq_true', Bool.and_eq_false_iff, Bool.or_eq_false_iff, Bool.not_eq_false', decide_eq_true_eq, decide_eq_false_iff_not, eqNil] at hg; omega) )
  apply hK; clear hK K
  refine awp_cond (b := _) rfl (fun hb1 => ?_) (fun hb1 => ?_)
  · try simp only [decide_eq_false_iff_not, Bool.not_eq_true'] at hb1
    rw [if_pos hb1] at hso
    -- region 3  tokens.go:239
    refine awp_dseq_tail 2 [4, 5] mixed (by kernel_rfl) (by rfl) (by rfl) fun K hK => ?_
    simp (decide := true) only [ev, absV, absS, putD, Slots.put, Slots.get, if_true, if_false, true_and, ↓ap_loadL, apL_mk, pLoad_agg ag28 sz28, ↓ap_assign, pop_assign, rd_any, cellsAt, List.getD_cons_zero, List.getD_cons_succ, Nat.zero_add, Nat.reduceAdd, lv_int, allLive, Bool.and_true]
    repeat (with_reducible refine And.intro ?_ ?_; · first | trivial | omega | (intro hg; simp only [Bool.and_eq_true, Bool.or_eq_true, Bool.not_eq_true', Bool.and_eq_false_iff, Bool.or_eq_false_iff, Bool.not_eq_false', decide_eq_true_eq, decide_eq_false_iff_not, eqNil] at hg; omega) )
    refine aOps_store (by rfl) (by rfl) (by repeat (first | exact AHeap.set_same _ _ _ | assumption | refine (AHeap.set_ne _ _ (by first | assumption | exact Ne.symm (by assumption))).trans ?_)) sz28 (by rfl) (by rfl) (by first | exact Nat.le_refl _ | decide | (simp; done) | (simp; omega)) (Nat.zero_le _) (by rfl) ?_
    simp only [AVal.cells]
    simp (decide := true) only [aOps_nil, ev, putD, Slots.get, Slots.keep, if_true, if_false, setAt, List.set_cons_zero, List.set_cons_succ, Nat.zero_add, Nat.reduceAdd]
    repeat (with_reducible refine And.intro ?_ ?_; · first | trivial | omega | (intro hg; simp only [Bool.and_eq_true, Bool.or_eq_true, Bool.not_eq_true', Bool.and_eq_false_iff, Bool.or_eq_false_iff, Bool.not_eq_false', decide_eq_true_eq, decide_eq_false_iff_not, eqNil] at hg; omega) )
    apply hK; clear hK K
    refine awp_ret ?_
    try simp only [thenA_ret]
    refine retA_ret h (by repeat (first | exact Sub.refl _ | assumption | refine Sub.set_both ?_ _ _ | refine Sub.trans_set ?_ (by repeat (first | assumption | refine (AHeap.set_ne _ _ (by first | assumption | exact Ne.symm (by assumption))).trans ?_)))) (?_) ?_
    · simp (decide := true) only [resPre, resV_tmp, resV_cell, Slots.get, if_true, if_false, and_true, resV_tmp, resV_cell, pLoad_agg ag28 sz28, rd_set, cellsAt, List.getD_cons_zero, List.getD_cons_succ, Nat.zero_add, Nat.reduceAdd, lv_int, allLive, Bool.and_true, cellsAt, List.getD_cons_zero, List.getD_cons_succ, Nat.zero_add, Nat.reduceAdd, lv_int, allLive, Bool.and_true]
    
    simp (decide := true) only [Slots.get, if_true, if_false, resOfG_two, resV_tmp, resV_cell, pLoad_agg ag28 sz28, rd_set, cellsAt, List.getD_cons_zero, List.getD_cons_succ, Nat.zero_add, Nat.reduceAdd, lv_int, allLive, Bool.and_true, cellsAt, List.getD_cons_zero, List.getD_cons_succ, Nat.zero_add, Nat.reduceAdd, lv_int, allLive, Bool.and_true]
    exact ⟨none, by rw [hso]; rfl, trivial, by rw [hso]; rfl, rfl⟩
  · try simp only [decide_eq_true_eq, Bool.not_eq_false'] at hb1
    rw [if_neg (by simpa using hb1)] at hso
    refine awp_skip ?_
    change Awp _ _ _ _ _ _ _
    -- region 4  tokens.go:241
    refine awp_rseq [4, 5] (by rfl) fun K hK => ?_
    simp (decide := true) only [ev, putD, Slots.put, Slots.get, if_true, if_false, true_and, ↓ap_move, pop_move]
    repeat (with_reducible refine And.intro ?_ ?_; · first | trivial | omega | (intro hg; simp only [Bool.and_eq_true, Bool.or_eq_true, Bool.not_eq_true', Bool.and_eq_false_iff, Bool.or_eq_false_iff, Bool.not_eq_false', decide_eq_true_eq, decide_eq_false_iff_not, eqNil] at hg; omega) )
    refine aOps_call (by rfl) (by rfl) (c_Scan w₀ _ cv cs (hc.mono (by repeat (first | exact Sub.refl _ | assumption | refine Sub.set_both ?_ _ _ | refine Sub.trans_set ?_ (by repeat (first | assumption | refine (AHeap.set_ne _ _ (by first | assumption | exact Ne.symm (by assumption))).trans ?_))))) (by omega) (fun c hcm => by have := z2 c hcm; omega)) fun x4q1 h4q1 hx4q1 => ?_
    obtain ⟨tb, rfl, o1, o2, rfl⟩ := hx4q1
    have hat := ((by repeat (first | exact AHeap.set_same _ _ _ | assumption | refine (AHeap.set_ne _ _ (by first | assumption | exact Ne.symm (by assumption))).trans ?_)) : (h1q2.set k1q6 ⟨[.int .i64 f.e, .int .i64 f.line, .int .i64 f.col], 0⟩) k0q1 = some ⟨[.int .i64 0, .int .i64 0, .int .i64 0], 0⟩)
    have hlb := bufV_live 5 tb
    simp (decide := true) only [ev, putD, Slots.put, Slots.get, if_true, if_false, true_and, ↓ap_extract, pop_extract, pExt_tuple, List.length_cons, List.length_nil, List.getD_cons_zero, List.getD_cons_succ, ↓ap_assign, pop_assign, List.getD_cons_zero, List.getD_cons_succ, Nat.zero_add, Nat.reduceAdd, faultA]
    repeat (with_reducible refine And.intro ?_ ?_; · first | trivial | omega | (intro hg; simp only [Bool.and_eq_true, Bool.or_eq_true, Bool.not_eq_true', Bool.and_eq_false_iff, Bool.or_eq_false_iff, Bool.not_eq_false', decide_eq_true_eq, decide_eq_false_iff_not, eqNil] at hg; omega) )
    refine aOps_store (v := faultA (scanE cs).2) (by rfl) (by rfl) (bufAt o1 hat) sz28 (by rfl) (by rfl) (by simp []) (Nat.zero_le _) (by rfl) ?_
    simp only [setAt, AVal.cells, faultA, List.set_cons_zero, List.set_cons_succ, Nat.zero_add, Nat.reduceAdd]
    rw [bufSet o1 hat]
    have r0 := fun o => rd_own w₀ (bufAt (bufOkSet o1 hat ⟨[.int .i64 (scanE cs).2.e, .int .i64 (scanE cs).2.line, .int .i64 (scanE cs).2.col], 0⟩) (AHeap.set_same _ _ _)) o
    simp (decide := true) only [aOps_nil, putD, Slots.keep, if_true, if_false]
    repeat (with_reducible refine And.intro ?_ ?_; · first | trivial | omega | (intro hg; simp only [Bool.and_eq_true, Bool.or_eq_true, Bool.not_eq_true', Bool.and_eq_false_iff, Bool.or_eq_false_iff, Bool.not_eq_false', decide_eq_true_eq, decide_eq_false_iff_not, eqNil] at hg; omega) )
    apply hK; clear hK K
    refine awp_ret ?_
    try simp only [thenA_ret, inBlockA_ret]
    refine retA_retE (?_) ?_
    · simp (decide := true) only [resPre, resV_tmp, resV_cell, Slots.get, if_true, if_false, and_true, resV_tmp, resV_cell, pLoad_agg ag28 sz28, cellsAt, List.getD_cons_zero, List.getD_cons_succ, Nat.zero_add, Nat.reduceAdd, lv_int, allLive, Bool.and_true, cellsAt, List.getD_cons_zero, List.getD_cons_succ, Nat.zero_add, Nat.reduceAdd, lv_int, allLive, Bool.and_true, r0]
    
    simp (decide := true) only [Slots.get, if_true, if_false, resOfG_two, resV_tmp, resV_cell, pLoad_agg ag28 sz28, cellsAt, List.getD_cons_zero, List.getD_cons_succ, Nat.zero_add, Nat.reduceAdd, lv_int, allLive, Bool.and_true, cellsAt, List.getD_cons_zero, List.getD_cons_succ, Nat.zero_add, Nat.reduceAdd, lv_int, allLive, Bool.and_true, r0]
    refine ⟨bufH h tb, ?_, tb, by rw [hso]; rfl, o1.sub (by repeat (first | exact Sub.refl _ | assumption | refine Sub.set_both ?_ _ _ | refine Sub.trans_set ?_ (by repeat (first | assumption | refine (AHeap.set_ne _ _ (by first | assumption | exact Ne.symm (by assumption))).trans ?_)))), by rw [hso]; exact o2, rfl⟩
    exact Sub.bufBoth (by repeat (first | exact Sub.refl _ | assumption | refine Sub.set_both ?_ _ _ | refine Sub.trans_set ?_ (by repeat (first | assumption | refine (AHeap.set_ne _ _ (by first | assumption | exact Ne.symm (by assumption))).trans ?_))))
end Go.Proofs.YtmadddihphkmoaaDoor

/-
  Contracts: show, lives of the laws.
  Conditions: none.
-/
namespace Go.Proofs.YtmadddihphkmoaaDoor
open Go.AM
open Go.Proofs
open Go.Col
open Go.Tok
open Go.RowKit (Below)
set_option maxRecDepth 100000

def lettE : Str := [63, 87, 78, 81, 80, 83, 46, 61]
def showGo : List TokC → Str → Str
  | [], out => out
  | t :: r, out => if 7 < t.kind.toNat then [63] else showGo r (out ++ [lettE.getD t.kind.toNat 0] ++ t.text ++ [124])
def showE (s : Str) : Str × FaultC := (showGo (sourceE (sp 11 ++ s) false).1 [], (sourceE (sp 11 ++ s) false).2)
theorem showGo_next {l : List TokC} {i : Nat} (hi : i < l.length) (out : Str) : showGo (l.drop i) out = if 7 < (l.getD i badT).kind.toNat then [63] else showGo (l.drop (i + 1)) (out ++ [lettE.getD (l.getD i badT).kind.toNat 0] ++ (l.getD i badT).text ++ [124]) := by
  rw [List.drop_eq_getElem_cons hi, showGo]
  simp [List.getD, hi]
theorem lett_cut (k : Nat) (h : k ≤ 7) : (lettE.drop k).take (k + 1 - k) = [lettE.getD k 0] := by
  have : k = 0 ∨ k = 1 ∨ k = 2 ∨ k = 3 ∨ k = 4 ∨ k = 5 ∨ k = 6 ∨ k = 7 := by omega
  rcases this with q | q | q | q | q | q | q | q <;> subst q <;> rfl
theorem tok_at {w₀ : World} {h : AHeap} {lc : AM.Loc} {o : Nat} {c : Cap} {l : List TokC} (ht : IsL w₀ h 5 (.slice lc o l.length c) (l.map tokC)) {i : Nat} (hi : i < l.length) :
    rd w₀ h lc (o + i * 5) = .int .u8 (l.getD i badT).kind.toNat ∧ rd w₀ h lc (o + i * 5 + 1) = .str (l.getD i badT).text ∧ rd w₀ h lc (o + i * 5 + 2) = .int .i64 (l.getD i badT).line ∧ rd w₀ h lc (o + i * 5 + 3) = .int .i64 (l.getD i badT).col ∧ rd w₀ h lc (o + i * 5 + 4) = .bool (l.getD i badT).left := by
  have he := ht.elem (i := i) (by rw [List.length_map]; exact hi)
  rw [getD_map badT hi] at he
  simp only [cellsAt, tokC, List.cons.injEq, and_true] at he
  exact he
theorem tok_open {w₀ : World} {h : AHeap} {v : AVal} {l : List TokC} (ht : IsL w₀ h 5 v (l.map tokC)) (hn : 0 < l.length) : ∃ lc o c, v = .slice lc o l.length c := by
  obtain ⟨lc, o, c, e⟩ := ht.open (fun e => by rw [List.map_eq_nil_iff] at e; subst e; simp at hn)
  rw [List.length_map] at e
  exact ⟨lc, o, c, e⟩
theorem tok_len {w₀ : World} {h : AHeap} {v : AVal} {l : List TokC} (ht : IsL w₀ h 5 v (l.map tokC)) : pLen Tryd.prog 23 v = ⟨True, .int .i64 l.length⟩ := by
  have := ht.len Tryd.underlying23
  rwa [List.length_map] at this
structure ShG where
  i : Nat
  out : Str
theorem c_show (w₀ : World) (hm : MaxL w₀) (h : AHeap) (s : Str) (hl : s.length ≤ 1000000) : ACall Tryd.prog w₀ 12 [.str s] h (fun v h' => v = .tuple [.str (showE s).1, faultA (showE s).2] ∧ h' = h) := by
  have hsp : (sp 11 ++ s).length ≤ 9223372036854775807 := by simp [sp]; omega
  obtain ⟨z1, z2⟩ := source_small (sp 11 ++ s) false
  refine acall_intro (n := 50) (rs := [.tmp 2, .cell 3 28]) Tryd.func12 rfl rfl rfl rfl (Nat.le_of_ble_eq_true rfl) ?_
  simp only [initSlots]
  -- region 0  law.go:58
  refine awp_rseq [0, 3] (by rfl) fun K hK => ?_
  simp (decide := true) only [ev, absV, absS, putD, Slots.put, if_false, true_and, ↓ap_assign, pop_assign]
  repeat (with_reducible refine And.intro ?_ ?_; · first | trivial | omega | (intro hg; simp only [Bool.and_eq_true, Bool.or_eq_true, Bool.not_eq_true', Bool.and_eq_false_iff, Bool.or_eq_false_iff, Bool.not_eq_false', decide_eq_true_eq, decide_eq_false_iff_not, eqNil] at hg; omega) | (simp only [List.length_append, List.length_map, List.length_range, List.length_replicate, List.length_take, List.length_drop, List.length_cons, List.length_nil, List.length_set, List.length_reverse]; omega))
  refine aOps_alloc ze28 (cs := [.int .i64 0, .int .i64 0, .int .i64 0]) (by rfl) fun k0q1 hk0q1 => ?_
  try have hf_0q1 : h k0q1 = none := by first | assumption | (simp only [AHeap.set_none] at hk0q1; simp only [hk0q1])
  simp (decide := true) only [aOps_nil, putD, Slots.put, Slots.keep, if_true, if_false]
  repeat (with_reducible refine And.intro ?_ ?_; · first | trivial | omega | (intro hg; simp only [Bool.and_eq_true, Bool.or_eq_true, Bool.not_eq_true', Bool.and_eq_false_iff, Bool.or_eq_false_iff, Bool.not_eq_false', decide_eq_true_eq, decide_eq_false_iff_not, eqNil] at hg; omega) | (simp only [List.length_append, List.length_map, List.length_range, List.length_replicate, List.length_take, List.length_drop, List.length_cons, List.length_nil, List.length_set, List.length_reverse]; omega))
  apply hK; clear hK K
  -- region 1  law.go:59
  refine awp_rseq [3, 4, 5] (by rfl) fun K hK => ?_
  simp (decide := true) only [ev, absV, absS, putD, Slots.put, Slots.get, if_true, if_false, true_and, ↓ap_move, pop_move, ↓ap_binOp, pop_binOp, isNilC_tmp, cond_false, pBinX_str, pS_add]
  repeat (with_reducible refine And.intro ?_ ?_; · first | trivial | omega | (intro hg; simp only [Bool.and_eq_true, Bool.or_eq_true, Bool.not_eq_true', Bool.and_eq_false_iff, Bool.or_eq_false_iff, Bool.not_eq_false', decide_eq_true_eq, decide_eq_false_iff_not, eqNil] at hg; omega) | (simp only [List.length_cons, List.length_nil]; omega))
  refine aOps_call (by rfl) (by rfl) (c_Source w₀ hm _ (sp 11 ++ s) false hsp) fun x1q2 h1q2 hx1q2 => ?_
  obtain ⟨tv, hv1, htv, hs1⟩ := hx1q2.toks (w₀ := w₀)
  obtain ⟨R, hR⟩ : ∃ R, R = sourceE (sp 11 ++ s) false := ⟨_, rfl⟩
  have hsE : showE s = (showGo R.1 [], R.2) := by rw [hR]; rfl
  rw [← hR] at htv hv1 z1 z2
  obtain ⟨l, hl'⟩ : ∃ l, l = R.1 := ⟨_, rfl⟩
  obtain ⟨v, hv⟩ : ∃ v, v = capL tv := ⟨_, rfl⟩
  rw [← hl'] at htv hsE z1 z2
  rw [← hv] at htv hv1
  rw [hv1]
  have hs_h1q2 : Sub h h1q2 := Sub.trans (by repeat (first | exact Sub.refl _ | assumption | refine Sub.trans_set ?_ (by assumption))) hs1
  have hr_h1q2 := hs_h1q2
  have eb_0q1 := hs1 k0q1 _ (by repeat (first | exact AHeap.set_same _ _ _ | assumption | refine (AHeap.set_ne _ _ (by first | assumption | exact Ne.symm (by assumption))).trans ?_))
  simp (decide := true) only [ev, putD, Slots.put, Slots.get, if_true, if_false, true_and, ↓ap_move, pop_move, ↓ap_extract, pop_extract, pExt_tuple, List.length_cons, List.length_nil, List.getD_cons_zero, List.getD_cons_succ, List.getD_cons_zero, List.getD_cons_succ, Nat.zero_add, Nat.reduceAdd, faultA]
  repeat (with_reducible refine And.intro ?_ ?_; · first | trivial | omega | (intro hg; simp only [Bool.and_eq_true, Bool.or_eq_true, Bool.not_eq_true', Bool.and_eq_false_iff, Bool.or_eq_false_iff, Bool.not_eq_false', decide_eq_true_eq, decide_eq_false_iff_not, eqNil] at hg; omega) | (simp only [List.length_append, List.length_map, List.length_range, List.length_replicate, List.length_take, List.length_drop, List.length_cons, List.length_nil, List.length_set, List.length_reverse]; omega))
  refine aOps_alloc ze28 (cs := [.int .i64 0, .int .i64 0, .int .i64 0]) (by rfl) fun k1q6 hk1q6 => ?_
  have hn_1q6 : h1q2 k1q6 = none := by first | assumption | (simp only [AHeap.set_none] at hk1q6; simp only [hk1q6])
  have hf_1q6 : h k1q6 = none := Sub.none hs_h1q2 hn_1q6
  have ne_1q6_0q1 : k1q6 ≠ k0q1 := AHeap.ne_some hn_1q6 eb_0q1
  simp (decide := true) only [ev, putD, Slots.put, Slots.get, if_true, if_false, true_and, ↓ap_assign, pop_assign]
  repeat (with_reducible refine And.intro ?_ ?_; · first | trivial | omega | (intro hg; simp only [Bool.and_eq_true, Bool.or_eq_true, Bool.not_eq_true', Bool.and_eq_false_iff, Bool.or_eq_false_iff, Bool.not_eq_false', decide_eq_true_eq, decide_eq_false_iff_not, eqNil] at hg; omega) | (simp only [List.length_append, List.length_map, List.length_range, List.length_replicate, List.length_take, List.length_drop, List.length_cons, List.length_nil, List.length_set, List.length_reverse]; omega))
  refine aOps_store (by rfl) (by rfl) (by repeat (first | exact AHeap.set_same _ _ _ | assumption | refine (AHeap.set_ne _ _ (by first | assumption | exact Ne.symm (by assumption))).trans ?_)) sz28 (by rfl) (by rfl) (by first | exact Nat.le_refl _ | decide | (simp; done) | (simp; omega)) (Nat.zero_le _) (by rfl) ?_
  simp only [AHeap.set_set, AVal.cells]
  simp (decide := true) only [aOps_nil, ev, putD, Slots.get, Slots.keep, if_true, if_false, setAt, List.set_cons_zero, List.set_cons_succ, Nat.zero_add, Nat.reduceAdd]
  repeat (with_reducible refine And.intro ?_ ?_; · first | trivial | omega | (intro hg; simp only [Bool.and_eq_true, Bool.or_eq_true, Bool.not_eq_true', Bool.and_eq_false_iff, Bool.or_eq_false_iff, Bool.not_eq_false', decide_eq_true_eq, decide_eq_false_iff_not, eqNil] at hg; omega) | (simp only [List.length_append, List.length_map, List.length_range, List.length_replicate, List.length_take, List.length_drop, List.length_cons, List.length_nil, List.length_set, List.length_reverse]; omega))
  apply hK; clear hK K
  -- region 2  law.go:60
  refine awp_rseq [3, 4, 5, 6] (by rfl) fun K hK => ?_
  simp (decide := true) only [aOps_nil, ev, absV, absS, putD, Slots.put, Slots.keep, if_true, if_false, true_and, ↓ap_assign, pop_assign]
  repeat (with_reducible refine And.intro ?_ ?_; · first | trivial | omega | (intro hg; simp only [Bool.and_eq_true, Bool.or_eq_true, Bool.not_eq_true', Bool.and_eq_false_iff, Bool.or_eq_false_iff, Bool.not_eq_false', decide_eq_true_eq, decide_eq_false_iff_not, eqNil] at hg; omega) | (simp only [List.length_append, List.length_map, List.length_range, List.length_replicate, List.length_take, List.length_drop, List.length_cons, List.length_nil, List.length_set, List.length_reverse]; omega))
  apply hK; clear hK K
  refine awp_seq ?_
  -- region 3  law.go:61
  refine awp_rseq [3, 4, 5, 6, 7] (by rfl) fun K hK => ?_
  simp (decide := true) only [aOps_nil, ev, absV, absS, putD, Slots.put, Slots.keep, if_true, if_false, true_and, ↓ap_assign, pop_assign]
  repeat (with_reducible refine And.intro ?_ ?_; · first | trivial | omega | (intro hg; simp only [Bool.and_eq_true, Bool.or_eq_true, Bool.not_eq_true', Bool.and_eq_false_iff, Bool.or_eq_false_iff, Bool.not_eq_false', decide_eq_true_eq, decide_eq_false_iff_not, eqNil] at hg; omega) | (simp only [List.length_append, List.length_map, List.length_range, List.length_replicate, List.length_take, List.length_drop, List.length_cons, List.length_nil, List.length_set, List.length_reverse]; omega))
  apply hK; clear hK K
  refine awp_block ?_
  refine awp_loopG [3, 4, 5, 6, 7] (fun g : ShG => [(3, .ptr (.own k0q1) 0), (4, v), (5, .ptr (.own k1q6) 0), (6, .str g.out), (7, .int .i64 g.i)]) (fun g : ShG => h1q2.set k1q6 ⟨[.int .i64 R.2.e, .int .i64 R.2.line, .int .i64 R.2.col], 0⟩) (fun g : ShG => g.i ≤ l.length ∧ showGo (l.drop g.i) g.out = showGo l [] ∧ g.out.length ≤ g.i * 83886170) (fun g : ShG => l.length - g.i) ⟨0, []⟩ (by rfl) (Sub.refl _) ⟨Nat.zero_le _, rfl, Nat.zero_le _⟩ ?_
  rintro ⟨i, out⟩ ⟨i1, i2, i3⟩
  simp only at i1 i2 i3 ⊢
  have hlv := htv.live
  have hlen := tok_len htv
  refine awp_seq ?_
  -- region 4  law.go:61
  refine awp_rseq [3, 4, 5, 6, 7, 17] (by rfl) fun K hK => ?_
  simp (decide := true) only [aOps_nil, ev, putD, Slots.put, Slots.get, Slots.keep, if_true, if_false, true_and, ↓ap_move, pop_move, ↓ap_len, pop_len, ↓ap_binOp, pop_binOp, isNilC_tmp, cond_false, pBinX_int, pI_lss, hlen]
  repeat (with_reducible refine And.intro ?_ ?_; · first | trivial | omega | (intro hg; simp only [Bool.and_eq_true, Bool.or_eq_true, Bool.not_eq_true', Bool.and_eq_false_iff, Bool.or_eq_false_iff, Bool.not_eq_false', decide_eq_true_eq, decide_eq_false_iff_not, eqNil] at hg; omega) | (simp only [List.length_append, List.length_map, List.length_range, List.length_replicate, List.length_take, List.length_drop, List.length_cons, List.length_nil, List.length_set, List.length_reverse]; omega))
  apply hK; clear hK K
  refine awp_cond (b := _) rfl (fun hb1 => ?_) (fun hb1 => ?_)
  · try simp only [decide_eq_true_eq] at hb1
    have hi : i < l.length := by omega
    obtain ⟨lc, o, c, rfl⟩ := tok_open htv (by omega)
    have hS : Sub h1q2 (h1q2.set k1q6 ⟨[.int .i64 R.2.e, .int .i64 R.2.line, .int .i64 R.2.col], 0⟩) := Sub.set hn_1q6
    obtain ⟨e0, e1, _, _, _⟩ := tok_at (htv.mono hS) hi
    obtain ⟨t, ht⟩ : ∃ t, t = l.getD i badT := ⟨_, rfl⟩
    have hnx := showGo_next hi out
    have htb := z2 t (by rw [ht, List.getD, List.getElem?_eq_getElem hi]; exact List.getElem_mem hi)
    have hob : out.length ≤ 65536 * 83886170 := Nat.le_trans i3 (Nat.mul_le_mul_right _ (by omega))
    rw [← ht] at e0 e1 hnx
    rw [i2] at hnx
    refine awp_skip ?_
    change Awp _ _ _ _ _ _ _
    refine awp_seq ?_
    refine awp_block ?_
    refine awp_seq ?_
    -- region 6  law.go:62
    refine awp_rseq [3, 4, 5, 6, 7, 25] (by rfl) fun K hK => ?_
    simp (decide := true) only [aOps_nil, ev, absV, absS, putD, Slots.put, Slots.get, Slots.keep, if_true, if_false, true_and, ↓ap_move, pop_move, ↓ap_indexAddrL, apL_mk, pIndexAddr_slice Tryd.underlying23 sz35, ↓ap_fieldAddr, pop_fieldAddr, fa35_0, ↓ap_loadL, pLoad_one ag33, ↓ap_binOp, pop_binOp, isNilC_int, cond_false, pBinX_int, pI_gtr, lv_int, Int.toNat_natCast, Nat.add_zero, e0]
    repeat (with_reducible refine And.intro ?_ ?_; · first | trivial | omega | (intro hg; simp only [Bool.and_eq_true, Bool.or_eq_true, Bool.not_eq_true', Bool.and_eq_false_iff, Bool.or_eq_false_iff, Bool.not_eq_false', decide_eq_true_eq, decide_eq_false_iff_not, eqNil] at hg; omega) | (simp only [List.length_append, List.length_map, List.length_range, List.length_replicate, List.length_take, List.length_drop, List.length_cons, List.length_nil, List.length_set, List.length_reverse]; omega))
    apply hK; clear hK K
    refine awp_cond (b := _) rfl (fun hb2 => ?_) (fun hb2 => ?_)
    · try simp only [decide_eq_true_eq] at hb2
      rw [if_pos (by omega)] at hnx
      -- region 7  law.go:63
      refine awp_dseq_tail 2 [2, 3] mixed (by kernel_rfl) (by rfl) (by rfl) fun K hK => ?_
      simp (decide := true) only [ev, absV, absS, putD, Slots.put, Slots.get, if_true, if_false, true_and, ↓ap_loadL, apL_mk, pLoad_agg ag28 sz28, ↓ap_assign, pop_assign, rd_any, cellsAt, List.getD_cons_zero, List.getD_cons_succ, Nat.zero_add, Nat.reduceAdd, lv_int, allLive, Bool.and_true]
      repeat (with_reducible refine And.intro ?_ ?_; · first | trivial | omega | (intro hg; simp only [Bool.and_eq_true, Bool.or_eq_true, Bool.not_eq_true', Bool.and_eq_false_iff, Bool.or_eq_false_iff, Bool.not_eq_false', decide_eq_true_eq, decide_eq_false_iff_not, eqNil] at hg; omega) | (simp only [List.length_append, List.length_map, List.length_range, List.length_replicate, List.length_take, List.length_drop, List.length_cons, List.length_nil, List.length_set, List.length_reverse]; omega))
      refine aOps_store (by rfl) (by rfl) (by repeat (first | exact AHeap.set_same _ _ _ | assumption | refine (AHeap.set_ne _ _ (by first | assumption | exact Ne.symm (by assumption))).trans ?_)) sz28 (by rfl) (by rfl) (by first | exact Nat.le_refl _ | decide | (simp; done) | (simp; omega)) (Nat.zero_le _) (by rfl) ?_
      simp only [AVal.cells]
      simp (decide := true) only [aOps_nil, ev, putD, Slots.get, Slots.keep, if_true, if_false, setAt, List.set_cons_zero, List.set_cons_succ, Nat.zero_add, Nat.reduceAdd]
      repeat (with_reducible refine And.intro ?_ ?_; · first | trivial | omega | (intro hg; simp only [Bool.and_eq_true, Bool.or_eq_true, Bool.not_eq_true', Bool.and_eq_false_iff, Bool.or_eq_false_iff, Bool.not_eq_false', decide_eq_true_eq, decide_eq_false_iff_not, eqNil] at hg; omega) | (simp only [List.length_append, List.length_map, List.length_range, List.length_replicate, List.length_take, List.length_drop, List.length_cons, List.length_nil, List.length_set, List.length_reverse]; omega))
      apply hK; clear hK K
      refine awp_ret ?_
      try simp only [thenA_ret, inBlockA_ret]
      refine retA_ret h (by repeat (first | exact Sub.refl _ | assumption | refine Sub.trans_set ?_ (by assumption))) (?_) ?_
      · simp (decide := true) only [resPre, resV_tmp, resV_cell, Slots.get, if_true, if_false, and_true, resV_tmp, resV_cell, pLoad_agg ag28 sz28, rd_set, cellsAt, List.getD_cons_zero, List.getD_cons_succ, Nat.zero_add, Nat.reduceAdd, lv_int, allLive, Bool.and_true, cellsAt, List.getD_cons_zero, List.getD_cons_succ, Nat.zero_add, Nat.reduceAdd, lv_int, allLive, Bool.and_true]
      
      simp (decide := true) only [Slots.get, if_true, if_false, and_true, resOfG_two, resV_tmp, resV_cell, pLoad_agg ag28 sz28, rd_set, cellsAt, List.getD_cons_zero, List.getD_cons_succ, Nat.zero_add, Nat.reduceAdd, lv_int, allLive, Bool.and_true, cellsAt, List.getD_cons_zero, List.getD_cons_succ, Nat.zero_add, Nat.reduceAdd, lv_int, allLive, Bool.and_true, faultA]
      rw [hsE, hnx]
    · try simp only [decide_eq_false_iff_not] at hb2
      have hk7 : t.kind.toNat ≤ 7 := by omega
      rw [if_neg (by omega)] at hnx
      have hcut : (List.drop t.kind.toNat ([63, 87, 78, 81, 80, 83, 46, 61] : Str)).take (((t.kind.toNat : Int) + 1).toNat - t.kind.toNat) = [lettE.getD t.kind.toNat 0] := by
        rw [show ((t.kind.toNat : Int) + 1).toNat = t.kind.toNat + 1 by omega]
        exact lett_cut _ hk7
      refine awp_skip ?_
      change Awp _ _ _ _ _ _ _
      -- region 8  law.go:65
      refine awp_draw_all mixed (by kernel_rfl) (by rfl) (by rfl) ?_
      simp (decide := true) only [ev, absV, absS, putD, Slots.put, Slots.get, if_true, if_false, true_and, ↓ap_move, pop_move, ↓ap_indexAddrL, apL_mk, pIndexAddr_slice Tryd.underlying23 sz35, ↓ap_fieldAddr, pop_fieldAddr, fa35_0, ↓ap_loadL, pLoad_one ag33, ↓ap_binOp, pop_binOp, isNilC_int, cond_false, pBinX_int, pI_add, lv_int, faultA, Int.toNat_natCast, Nat.add_zero, e0]
      try simp (disch := omega) only [wrap_u8]
      try simp (decide := true) only [aOps_nil, ev, absV, absS, putD, Slots.put, Slots.get, if_true, if_false, true_and, ↓ap_slice, pop_slice, evO, pSliceS_ii Tryd.underlying9, pSliceS, bndA_int, ↓ap_binOp, pop_binOp, isNilC_tmp, cond_false, pBinX_str, pS_add, ↓ap_move, pop_move, ↓ap_indexAddrL, apL_mk, pIndexAddr_slice Tryd.underlying23 sz35, ↓ap_fieldAddr, pop_fieldAddr, fa35_1, ↓ap_loadL, pLoad_one ag9, isNilC_str, ↓ap_assign, pop_assign, lv_str, Int.toNat_natCast, e1]
      rw [hcut]
      repeat (with_reducible refine And.intro ?_ ?_; · first | trivial | omega | (simp only [List.length_append, List.length_cons, List.length_nil]; omega))
      change Awp _ _ _ _ _ _ _
      -- region 5  law.go:61
      refine awp_r [3, 4, 5, 6, 7] (by rfl) ?_
      simp (decide := true) only [aOps_nil, ev, absV, absS, putD, Slots.put, Slots.get, Slots.keep, if_true, if_false, true_and, ↓ap_move, pop_move, ↓ap_binOp, pop_binOp, isNilC_int, cond_false, pBinX_int, pI_add, ↓ap_assign, pop_assign]
      try simp (disch := omega) only [wrap_i64]
      repeat (with_reducible refine And.intro ?_ ?_; · first | trivial | omega | (intro hg; simp only [Bool.and_eq_true, Bool.or_eq_true, Bool.not_eq_true', Bool.and_eq_false_iff, Bool.or_eq_false_iff, Bool.not_eq_false', decide_eq_true_eq, decide_eq_false_iff_not, eqNil] at hg; omega) | (simp only [List.length_append, List.length_map, List.length_range, List.length_replicate, List.length_take, List.length_drop, List.length_cons, List.length_nil, List.length_set, List.length_reverse]; omega))
      try simp only [thenA_normal]
      exact ⟨⟨i + 1, out ++ [lettE.getD t.kind.toNat 0] ++ t.text ++ [124]⟩, rfl, Sub.refl _, ⟨hi, hnx.symm, by simp only [List.length_append, List.length_cons, List.length_nil]; omega⟩, by simp only; omega⟩
  · try simp only [decide_eq_false_iff_not] at hb1
    refine awp_exit ?_
    change Awp _ _ _ _ _ _ _
    -- region 9  law.go:67
    refine awp_dseq_tail 3 [2, 3] mixed (by kernel_rfl) (by rfl) (by rfl) fun K hK => ?_
    simp (decide := true) only [ev, putD, Slots.put, Slots.get, if_true, if_false, true_and, ↓ap_move, pop_move, ↓ap_loadL, apL_mk, pLoad_agg ag28 sz28, ↓ap_assign, pop_assign, rd_any, cellsAt, List.getD_cons_zero, List.getD_cons_succ, Nat.zero_add, Nat.reduceAdd, lv_int, allLive, Bool.and_true]
    repeat (with_reducible refine And.intro ?_ ?_; · first | trivial | omega | (intro hg; simp only [Bool.and_eq_true, Bool.or_eq_true, Bool.not_eq_true', Bool.and_eq_false_iff, Bool.or_eq_false_iff, Bool.not_eq_false', decide_eq_true_eq, decide_eq_false_iff_not, eqNil] at hg; omega) | (simp only [List.length_append, List.length_map, List.length_range, List.length_replicate, List.length_take, List.length_drop, List.length_cons, List.length_nil, List.length_set, List.length_reverse]; omega))
    refine aOps_store (by rfl) (by rfl) (by repeat (first | exact AHeap.set_same _ _ _ | assumption | refine (AHeap.set_ne _ _ (by first | assumption | exact Ne.symm (by assumption))).trans ?_)) sz28 (by rfl) (by rfl) (by first | exact Nat.le_refl _ | decide | (simp; done) | (simp; omega)) (Nat.zero_le _) (by rfl) ?_
    simp only [AVal.cells]
    simp (decide := true) only [aOps_nil, ev, putD, Slots.get, Slots.keep, if_true, if_false, setAt, List.set_cons_zero, List.set_cons_succ, Nat.zero_add, Nat.reduceAdd]
    repeat (with_reducible refine And.intro ?_ ?_; · first | trivial | omega | (intro hg; simp only [Bool.and_eq_true, Bool.or_eq_true, Bool.not_eq_true', Bool.and_eq_false_iff, Bool.or_eq_false_iff, Bool.not_eq_false', decide_eq_true_eq, decide_eq_false_iff_not, eqNil] at hg; omega) | (simp only [List.length_append, List.length_map, List.length_range, List.length_replicate, List.length_take, List.length_drop, List.length_cons, List.length_nil, List.length_set, List.length_reverse]; omega))
    apply hK; clear hK K
    refine awp_ret ?_
    try simp only [thenA_ret, inBlockA_ret]
    refine retA_ret h (by repeat (first | exact Sub.refl _ | assumption | refine Sub.trans_set ?_ (by assumption))) (?_) ?_
    · simp (decide := true) only [resPre, resV_tmp, resV_cell, Slots.get, if_true, if_false, and_true, resV_tmp, resV_cell, pLoad_agg ag28 sz28, rd_set, cellsAt, List.getD_cons_zero, List.getD_cons_succ, Nat.zero_add, Nat.reduceAdd, lv_int, allLive, Bool.and_true, cellsAt, List.getD_cons_zero, List.getD_cons_succ, Nat.zero_add, Nat.reduceAdd, lv_int, allLive, Bool.and_true]
    
    simp (decide := true) only [Slots.get, if_true, if_false, and_true, resOfG_two, resV_tmp, resV_cell, pLoad_agg ag28 sz28, rd_set, cellsAt, List.getD_cons_zero, List.getD_cons_succ, Nat.zero_add, Nat.reduceAdd, lv_int, allLive, Bool.and_true, cellsAt, List.getD_cons_zero, List.getD_cons_succ, Nat.zero_add, Nat.reduceAdd, lv_int, allLive, Bool.and_true, faultA]
    rw [hsE, ← i2, List.drop_eq_nil_of_le (by omega)]
    rfl
theorem sh1 : showE [109, 111, 118, 101, 32, 45, 49, 46, 53, 48, 32, 116, 111, 32, 65, 45, 49, 44, 32, 98, 40, 50, 41, 46] = ([87, 77, 79, 86, 69, 124, 78, 45, 49, 46, 53, 48, 124, 87, 84, 79, 124, 87, 65, 45, 49, 124, 87, 66, 124, 83, 40, 124, 78, 50, 124, 83, 41, 124, 46, 46, 124], ⟨0, 0, 0⟩) := by kernel_rfl
theorem sh2 : showE [48, 53, 32, 88, 32, 80, 73, 67, 32, 57, 40, 51, 41, 118, 57, 57, 46] = ([78, 48, 53, 124, 87, 88, 124, 87, 80, 73, 67, 124, 80, 57, 40, 51, 41, 86, 57, 57, 124, 46, 46, 124], ⟨0, 0, 0⟩) := by kernel_rfl
theorem sh3 : showE [65, 32, 45, 32, 49, 32, 42, 42, 32, 46, 53, 32, 60, 61, 32, 34, 66, 34, 34, 67, 34] = ([87, 65, 124, 83, 45, 124, 78, 49, 124, 83, 42, 42, 124, 78, 46, 53, 124, 83, 60, 61, 124, 81, 66, 34, 67, 124], ⟨0, 0, 0⟩) := by kernel_rfl
theorem sh4 : showE [61, 61, 49, 65, 61, 61, 32, 66, 89, 32, 55, 46] = ([61, 61, 61, 124, 87, 49, 65, 124, 61, 61, 61, 124, 87, 66, 89, 124, 78, 55, 124, 46, 46, 124], ⟨0, 0, 0⟩) := by kernel_rfl
theorem sh5 : (showE [88, 32, 65, 45, 44, 32, 89]).2 = ⟨4, 1, 14⟩ := by kernel_rfl
theorem sh6 : (showE [34, 34]).2 = ⟨4, 1, 12⟩ := by kernel_rfl
theorem sh7 : (showE [49, 45, 50]).2 = ⟨4, 1, 12⟩ := by kernel_rfl
theorem sh8 : (showE [80, 73, 67, 32, 46]).2 = ⟨4, 1, 16⟩ := by kernel_rfl
theorem sh9 : (showE [80, 73, 67, 32, 65, 34, 66, 34]).2 = ⟨4, 1, 16⟩ := by kernel_rfl
theorem c_showV (w₀ : World) (hm : MaxL w₀) (h : AHeap) (s : Str) (hl : s.length ≤ 1000000) {a : Str} {f : FaultC} (hs : showE s = (a, f)) : ACall Tryd.prog w₀ 12 [.str s] h (fun v h' => v = .tuple [.str a, faultA f] ∧ h' = h) := by
  have := c_show w₀ hm h s hl
  rw [hs] at this
  exact this
theorem c_showF (w₀ : World) (hm : MaxL w₀) (h : AHeap) (s : Str) (hl : s.length ≤ 1000000) {f : FaultC} (hs : (showE s).2 = f) : ACall Tryd.prog w₀ 12 [.str s] h (fun v h' => v = .tuple [.str (showE s).1, faultA f] ∧ h' = h) := by
  have := c_show w₀ hm h s hl
  rw [hs] at this
  exact this
set_option maxHeartbeats 2000000 in
theorem c_lives03 (w₀ : World) (hm : MaxL w₀) (h : AHeap) : ACall Tryd.prog w₀ 6 [] h (fun v h' => v = .bool true ∧ h' = h) := by
  refine acall_intro (n := 117) (rs := [.tmp 0]) Tryd.func6 rfl rfl rfl rfl (Nat.le_of_ble_eq_true rfl) ?_
  simp only [initSlots]
  -- region 0  law.go:71
  refine awp_rseq [] (by rfl) fun K hK => ?_
  simp (decide := true) only [aOps_nil, ev, absV, absS, putD, Slots.put, Slots.keep, if_false, true_and, ↓ap_assign, pop_assign]
  repeat (with_reducible refine And.intro ?_ ?_; · first | trivial | omega | (intro hg; simp only [Bool.and_eq_true, Bool.or_eq_true, Bool.not_eq_true', Bool.and_eq_false_iff, Bool.or_eq_false_iff, Bool.not_eq_false', decide_eq_true_eq, decide_eq_false_iff_not, eqNil] at hg; omega) )
  apply hK; clear hK K
  -- region 1  law.go:72
  refine awp_rseq [1, 2] (by rfl) fun K hK => ?_
  refine aOps_callV (V := .tuple [.str [87, 77, 79, 86, 69, 124, 78, 45, 49, 46, 53, 48, 124, 87, 84, 79, 124, 87, 65, 45, 49, 124, 87, 66, 124, 83, 40, 124, 78, 50, 124, 83, 41, 124, 46, 46, 124], faultA ⟨0, 0, 0⟩]) (by rfl) (by rfl) (c_showV w₀ hm _ _ (by decide) sh1) ?_
  simp (decide := true) only [ev, putD, Slots.put, Slots.get, if_true, if_false, true_and, ↓ap_move, pop_move, ↓ap_extract, pop_extract, pExt_tuple, List.getD_cons_zero, List.getD_cons_succ, List.getD_cons_zero, List.getD_cons_succ, faultA]
  repeat (with_reducible refine And.intro ?_ ?_; · first | trivial | omega | (intro hg; simp only [Bool.and_eq_true, Bool.or_eq_true, Bool.not_eq_true', Bool.and_eq_false_iff, Bool.or_eq_false_iff, Bool.not_eq_false', decide_eq_true_eq, decide_eq_false_iff_not, eqNil] at hg; omega) )
  refine aOps_alloc ze28 (cs := [.int .i64 0, .int .i64 0, .int .i64 0]) (by rfl) fun k1q4 hk1q4 => ?_
  try have hf_1q4 : h k1q4 = none := by first | assumption | (simp only [AHeap.set_none] at hk1q4; simp only [hk1q4])
  simp (decide := true) only [ev, putD, Slots.put, Slots.get, if_true, if_false, true_and, ↓ap_assign, pop_assign]
  repeat (with_reducible refine And.intro ?_ ?_; · first | trivial | omega | (intro hg; simp only [Bool.and_eq_true, Bool.or_eq_true, Bool.not_eq_true', Bool.and_eq_false_iff, Bool.or_eq_false_iff, Bool.not_eq_false', decide_eq_true_eq, decide_eq_false_iff_not, eqNil] at hg; omega) )
  refine aOps_store (by rfl) (by rfl) (by repeat (first | exact AHeap.set_same _ _ _ | assumption | refine (AHeap.set_ne _ _ (by first | assumption | exact Ne.symm (by assumption))).trans ?_)) sz28 (by rfl) (by rfl) (by first | exact Nat.le_refl _ | decide | (simp; done) | (simp; omega)) (Nat.zero_le _) (by rfl) ?_
  simp only [AHeap.set_set, AVal.cells]
  simp (decide := true) only [aOps_nil, ev, putD, Slots.get, Slots.keep, if_true, if_false, setAt, List.set_cons_zero, List.set_cons_succ, Nat.zero_add, Nat.reduceAdd]
  repeat (with_reducible refine And.intro ?_ ?_; · first | trivial | omega | (intro hg; simp only [Bool.and_eq_true, Bool.or_eq_true, Bool.not_eq_true', Bool.and_eq_false_iff, Bool.or_eq_false_iff, Bool.not_eq_false', decide_eq_true_eq, decide_eq_false_iff_not, eqNil] at hg; omega) )
  apply hK; clear hK K
  -- region 2  law.go:73
  refine awp_rseq [1, 2, 3, 4] (by rfl) fun K hK => ?_
  refine aOps_callV (V := .tuple [.str [78, 48, 53, 124, 87, 88, 124, 87, 80, 73, 67, 124, 80, 57, 40, 51, 41, 86, 57, 57, 124, 46, 46, 124], faultA ⟨0, 0, 0⟩]) (by rfl) (by rfl) (c_showV w₀ hm _ _ (by decide) sh2) ?_
  simp (decide := true) only [ev, putD, Slots.put, Slots.get, if_true, if_false, true_and, ↓ap_move, pop_move, ↓ap_extract, pop_extract, pExt_tuple, List.getD_cons_zero, List.getD_cons_succ, List.getD_cons_zero, List.getD_cons_succ, faultA]
  repeat (with_reducible refine And.intro ?_ ?_; · first | trivial | omega | (intro hg; simp only [Bool.and_eq_true, Bool.or_eq_true, Bool.not_eq_true', Bool.and_eq_false_iff, Bool.or_eq_false_iff, Bool.not_eq_false', decide_eq_true_eq, decide_eq_false_iff_not, eqNil] at hg; omega) )
  refine aOps_alloc ze28 (cs := [.int .i64 0, .int .i64 0, .int .i64 0]) (by rfl) fun k2q4 hk2q4 => ?_
  have ne_2q4_1q4 : k2q4 ≠ k1q4 := by simp only [AHeap.set_none] at hk2q4; simp only [hk2q4, ne_eq, not_false_eq_true]
  try have hf_2q4 : h k2q4 = none := by first | assumption | (simp only [AHeap.set_none] at hk2q4; simp only [hk2q4])
  simp (decide := true) only [ev, putD, Slots.put, Slots.get, if_true, if_false, true_and, ↓ap_assign, pop_assign]
  repeat (with_reducible refine And.intro ?_ ?_; · first | trivial | omega | (intro hg; simp only [Bool.and_eq_true, Bool.or_eq_true, Bool.not_eq_true', Bool.and_eq_false_iff, Bool.or_eq_false_iff, Bool.not_eq_false', decide_eq_true_eq, decide_eq_false_iff_not, eqNil] at hg; omega) )
  refine aOps_store (by rfl) (by rfl) (by repeat (first | exact AHeap.set_same _ _ _ | assumption | refine (AHeap.set_ne _ _ (by first | assumption | exact Ne.symm (by assumption))).trans ?_)) sz28 (by rfl) (by rfl) (by first | exact Nat.le_refl _ | decide | (simp; done) | (simp; omega)) (Nat.zero_le _) (by rfl) ?_
  simp only [AHeap.set_set, AVal.cells]
  simp (decide := true) only [aOps_nil, ev, putD, Slots.get, Slots.keep, if_true, if_false, setAt, List.set_cons_zero, List.set_cons_succ, Nat.zero_add, Nat.reduceAdd]
  repeat (with_reducible refine And.intro ?_ ?_; · first | trivial | omega | (intro hg; simp only [Bool.and_eq_true, Bool.or_eq_true, Bool.not_eq_true', Bool.and_eq_false_iff, Bool.or_eq_false_iff, Bool.not_eq_false', decide_eq_true_eq, decide_eq_false_iff_not, eqNil] at hg; omega) )
  apply hK; clear hK K
  -- region 3  law.go:74
  refine awp_rseq [1, 2, 3, 4, 5, 6] (by rfl) fun K hK => ?_
  refine aOps_callV (V := .tuple [.str [87, 65, 124, 83, 45, 124, 78, 49, 124, 83, 42, 42, 124, 78, 46, 53, 124, 83, 60, 61, 124, 81, 66, 34, 67, 124], faultA ⟨0, 0, 0⟩]) (by rfl) (by rfl) (c_showV w₀ hm _ _ (by decide) sh3) ?_
  simp (decide := true) only [ev, putD, Slots.put, Slots.get, if_true, if_false, true_and, ↓ap_move, pop_move, ↓ap_extract, pop_extract, pExt_tuple, List.getD_cons_zero, List.getD_cons_succ, List.getD_cons_zero, List.getD_cons_succ, faultA]
  repeat (with_reducible refine And.intro ?_ ?_; · first | trivial | omega | (intro hg; simp only [Bool.and_eq_true, Bool.or_eq_true, Bool.not_eq_true', Bool.and_eq_false_iff, Bool.or_eq_false_iff, Bool.not_eq_false', decide_eq_true_eq, decide_eq_false_iff_not, eqNil] at hg; omega) )
  refine aOps_alloc ze28 (cs := [.int .i64 0, .int .i64 0, .int .i64 0]) (by rfl) fun k3q4 hk3q4 => ?_
  have ne_3q4_1q4 : k3q4 ≠ k1q4 := by simp only [AHeap.set_none] at hk3q4; simp only [hk3q4, ne_eq, not_false_eq_true]
  have ne_3q4_2q4 : k3q4 ≠ k2q4 := by simp only [AHeap.set_none] at hk3q4; simp only [hk3q4, ne_eq, not_false_eq_true]
  try have hf_3q4 : h k3q4 = none := by first | assumption | (simp only [AHeap.set_none] at hk3q4; simp only [hk3q4])
  simp (decide := true) only [ev, putD, Slots.put, Slots.get, if_true, if_false, true_and, ↓ap_assign, pop_assign]
  repeat (with_reducible refine And.intro ?_ ?_; · first | trivial | omega | (intro hg; simp only [Bool.and_eq_true, Bool.or_eq_true, Bool.not_eq_true', Bool.and_eq_false_iff, Bool.or_eq_false_iff, Bool.not_eq_false', decide_eq_true_eq, decide_eq_false_iff_not, eqNil] at hg; omega) )
  refine aOps_store (by rfl) (by rfl) (by repeat (first | exact AHeap.set_same _ _ _ | assumption | refine (AHeap.set_ne _ _ (by first | assumption | exact Ne.symm (by assumption))).trans ?_)) sz28 (by rfl) (by rfl) (by first | exact Nat.le_refl _ | decide | (simp; done) | (simp; omega)) (Nat.zero_le _) (by rfl) ?_
  simp only [AHeap.set_set, AVal.cells]
  simp (decide := true) only [aOps_nil, ev, putD, Slots.get, Slots.keep, if_true, if_false, setAt, List.set_cons_zero, List.set_cons_succ, Nat.zero_add, Nat.reduceAdd]
  repeat (with_reducible refine And.intro ?_ ?_; · first | trivial | omega | (intro hg; simp only [Bool.and_eq_true, Bool.or_eq_true, Bool.not_eq_true', Bool.and_eq_false_iff, Bool.or_eq_false_iff, Bool.not_eq_false', decide_eq_true_eq, decide_eq_false_iff_not, eqNil] at hg; omega) )
  apply hK; clear hK K
  -- region 4  law.go:75
  refine awp_rseq [1, 2, 3, 4, 5, 6, 7, 8] (by rfl) fun K hK => ?_
  refine aOps_callV (V := .tuple [.str [61, 61, 61, 124, 87, 49, 65, 124, 61, 61, 61, 124, 87, 66, 89, 124, 78, 55, 124, 46, 46, 124], faultA ⟨0, 0, 0⟩]) (by rfl) (by rfl) (c_showV w₀ hm _ _ (by decide) sh4) ?_
  simp (decide := true) only [ev, putD, Slots.put, Slots.get, if_true, if_false, true_and, ↓ap_move, pop_move, ↓ap_extract, pop_extract, pExt_tuple, List.getD_cons_zero, List.getD_cons_succ, List.getD_cons_zero, List.getD_cons_succ, faultA]
  repeat (with_reducible refine And.intro ?_ ?_; · first | trivial | omega | (intro hg; simp only [Bool.and_eq_true, Bool.or_eq_true, Bool.not_eq_true', Bool.and_eq_false_iff, Bool.or_eq_false_iff, Bool.not_eq_false', decide_eq_true_eq, decide_eq_false_iff_not, eqNil] at hg; omega) )
  refine aOps_alloc ze28 (cs := [.int .i64 0, .int .i64 0, .int .i64 0]) (by rfl) fun k4q4 hk4q4 => ?_
  have ne_4q4_1q4 : k4q4 ≠ k1q4 := by simp only [AHeap.set_none] at hk4q4; simp only [hk4q4, ne_eq, not_false_eq_true]
  have ne_4q4_2q4 : k4q4 ≠ k2q4 := by simp only [AHeap.set_none] at hk4q4; simp only [hk4q4, ne_eq, not_false_eq_true]
  have ne_4q4_3q4 : k4q4 ≠ k3q4 := by simp only [AHeap.set_none] at hk4q4; simp only [hk4q4, ne_eq, not_false_eq_true]
  try have hf_4q4 : h k4q4 = none := by first | assumption | (simp only [AHeap.set_none] at hk4q4; simp only [hk4q4])
  simp (decide := true) only [ev, putD, Slots.put, Slots.get, if_true, if_false, true_and, ↓ap_assign, pop_assign]
  repeat (with_reducible refine And.intro ?_ ?_; · first | trivial | omega | (intro hg; simp only [Bool.and_eq_true, Bool.or_eq_true, Bool.not_eq_true', Bool.and_eq_false_iff, Bool.or_eq_false_iff, Bool.not_eq_false', decide_eq_true_eq, decide_eq_false_iff_not, eqNil] at hg; omega) )
  refine aOps_store (by rfl) (by rfl) (by repeat (first | exact AHeap.set_same _ _ _ | assumption | refine (AHeap.set_ne _ _ (by first | assumption | exact Ne.symm (by assumption))).trans ?_)) sz28 (by rfl) (by rfl) (by first | exact Nat.le_refl _ | decide | (simp; done) | (simp; omega)) (Nat.zero_le _) (by rfl) ?_
  simp only [AHeap.set_set, AVal.cells]
  simp (decide := true) only [aOps_nil, ev, putD, Slots.get, Slots.keep, if_true, if_false, setAt, List.set_cons_zero, List.set_cons_succ, Nat.zero_add, Nat.reduceAdd]
  repeat (with_reducible refine And.intro ?_ ?_; · first | trivial | omega | (intro hg; simp only [Bool.and_eq_true, Bool.or_eq_true, Bool.not_eq_true', Bool.and_eq_false_iff, Bool.or_eq_false_iff, Bool.not_eq_false', decide_eq_true_eq, decide_eq_false_iff_not, eqNil] at hg; omega) )
  apply hK; clear hK K
  -- region 5  law.go:76
  refine awp_rseq [1, 2, 3, 4, 5, 6, 7, 8, 10] (by rfl) fun K hK => ?_
  refine aOps_callV (V := .tuple [.str (showE [88, 32, 65, 45, 44, 32, 89]).1, faultA ⟨4, 1, 14⟩]) (by rfl) (by rfl) (c_showF w₀ hm _ _ (by decide) sh5) ?_
  simp (decide := true) only [ev, putD, Slots.put, Slots.get, if_true, if_false, true_and, ↓ap_move, pop_move, ↓ap_extract, pop_extract, pExt_tuple, List.getD_cons_zero, List.getD_cons_succ, List.getD_cons_zero, List.getD_cons_succ, faultA]
  repeat (with_reducible refine And.intro ?_ ?_; · first | trivial | omega | (intro hg; simp only [Bool.and_eq_true, Bool.or_eq_true, Bool.not_eq_true', Bool.and_eq_false_iff, Bool.or_eq_false_iff, Bool.not_eq_false', decide_eq_true_eq, decide_eq_false_iff_not, eqNil] at hg; omega) )
  refine aOps_alloc ze28 (cs := [.int .i64 0, .int .i64 0, .int .i64 0]) (by rfl) fun k5q4 hk5q4 => ?_
  have ne_5q4_1q4 : k5q4 ≠ k1q4 := by simp only [AHeap.set_none] at hk5q4; simp only [hk5q4, ne_eq, not_false_eq_true]
  have ne_5q4_2q4 : k5q4 ≠ k2q4 := by simp only [AHeap.set_none] at hk5q4; simp only [hk5q4, ne_eq, not_false_eq_true]
  have ne_5q4_3q4 : k5q4 ≠ k3q4 := by simp only [AHeap.set_none] at hk5q4; simp only [hk5q4, ne_eq, not_false_eq_true]
  have ne_5q4_4q4 : k5q4 ≠ k4q4 := by simp only [AHeap.set_none] at hk5q4; simp only [hk5q4, ne_eq, not_false_eq_true]
  try have hf_5q4 : h k5q4 = none := by first | assumption | (simp only [AHeap.set_none] at hk5q4; simp only [hk5q4])
  simp (decide := true) only [ev, putD, Slots.put, Slots.get, if_true, if_false, true_and, ↓ap_assign, pop_assign]
  repeat (with_reducible refine And.intro ?_ ?_; · first | trivial | omega | (intro hg; simp only [Bool.and_eq_true, Bool.or_eq_true, Bool.not_eq_true', Bool.and_eq_false_iff, Bool.or_eq_false_iff, Bool.not_eq_false', decide_eq_true_eq, decide_eq_false_iff_not, eqNil] at hg; omega) )
  refine aOps_store (by rfl) (by rfl) (by repeat (first | exact AHeap.set_same _ _ _ | assumption | refine (AHeap.set_ne _ _ (by first | assumption | exact Ne.symm (by assumption))).trans ?_)) sz28 (by rfl) (by rfl) (by first | exact Nat.le_refl _ | decide | (simp; done) | (simp; omega)) (Nat.zero_le _) (by rfl) ?_
  simp only [AHeap.set_set, AVal.cells]
  simp (decide := true) only [aOps_nil, ev, putD, Slots.get, Slots.keep, if_true, if_false, setAt, List.set_cons_zero, List.set_cons_succ, Nat.zero_add, Nat.reduceAdd]
  repeat (with_reducible refine And.intro ?_ ?_; · first | trivial | omega | (intro hg; simp only [Bool.and_eq_true, Bool.or_eq_true, Bool.not_eq_true', Bool.and_eq_false_iff, Bool.or_eq_false_iff, Bool.not_eq_false', decide_eq_true_eq, decide_eq_false_iff_not, eqNil] at hg; omega) )
  apply hK; clear hK K
  -- region 6  law.go:77
  refine awp_rseq [1, 2, 3, 4, 5, 6, 7, 8, 10, 12] (by rfl) fun K hK => ?_
  refine aOps_callV (V := .tuple [.str (showE [34, 34]).1, faultA ⟨4, 1, 12⟩]) (by rfl) (by rfl) (c_showF w₀ hm _ _ (by decide) sh6) ?_
  simp (decide := true) only [ev, putD, Slots.put, Slots.get, if_true, if_false, true_and, ↓ap_move, pop_move, ↓ap_extract, pop_extract, pExt_tuple, List.getD_cons_zero, List.getD_cons_succ, List.getD_cons_zero, List.getD_cons_succ, faultA]
  repeat (with_reducible refine And.intro ?_ ?_; · first | trivial | omega | (intro hg; simp only [Bool.and_eq_true, Bool.or_eq_true, Bool.not_eq_true', Bool.and_eq_false_iff, Bool.or_eq_false_iff, Bool.not_eq_false', decide_eq_true_eq, decide_eq_false_iff_not, eqNil] at hg; omega) )
  refine aOps_alloc ze28 (cs := [.int .i64 0, .int .i64 0, .int .i64 0]) (by rfl) fun k6q4 hk6q4 => ?_
  have ne_6q4_1q4 : k6q4 ≠ k1q4 := by simp only [AHeap.set_none] at hk6q4; simp only [hk6q4, ne_eq, not_false_eq_true]
  have ne_6q4_2q4 : k6q4 ≠ k2q4 := by simp only [AHeap.set_none] at hk6q4; simp only [hk6q4, ne_eq, not_false_eq_true]
  have ne_6q4_3q4 : k6q4 ≠ k3q4 := by simp only [AHeap.set_none] at hk6q4; simp only [hk6q4, ne_eq, not_false_eq_true]
  have ne_6q4_4q4 : k6q4 ≠ k4q4 := by simp only [AHeap.set_none] at hk6q4; simp only [hk6q4, ne_eq, not_false_eq_true]
  have ne_6q4_5q4 : k6q4 ≠ k5q4 := by simp only [AHeap.set_none] at hk6q4; simp only [hk6q4, ne_eq, not_false_eq_true]
  try have hf_6q4 : h k6q4 = none := by first | assumption | (simp only [AHeap.set_none] at hk6q4; simp only [hk6q4])
  simp (decide := true) only [ev, putD, Slots.put, Slots.get, if_true, if_false, true_and, ↓ap_assign, pop_assign]
  repeat (with_reducible refine And.intro ?_ ?_; · first | trivial | omega | (intro hg; simp only [Bool.and_eq_true, Bool.or_eq_true, Bool.not_eq_true', Bool.and_eq_false_iff, Bool.or_eq_false_iff, Bool.not_eq_false', decide_eq_true_eq, decide_eq_false_iff_not, eqNil] at hg; omega) )
  refine aOps_store (by rfl) (by rfl) (by repeat (first | exact AHeap.set_same _ _ _ | assumption | refine (AHeap.set_ne _ _ (by first | assumption | exact Ne.symm (by assumption))).trans ?_)) sz28 (by rfl) (by rfl) (by first | exact Nat.le_refl _ | decide | (simp; done) | (simp; omega)) (Nat.zero_le _) (by rfl) ?_
  simp only [AHeap.set_set, AVal.cells]
  simp (decide := true) only [aOps_nil, ev, putD, Slots.get, Slots.keep, if_true, if_false, setAt, List.set_cons_zero, List.set_cons_succ, Nat.zero_add, Nat.reduceAdd]
  repeat (with_reducible refine And.intro ?_ ?_; · first | trivial | omega | (intro hg; simp only [Bool.and_eq_true, Bool.or_eq_true, Bool.not_eq_true', Bool.and_eq_false_iff, Bool.or_eq_false_iff, Bool.not_eq_false', decide_eq_true_eq, decide_eq_false_iff_not, eqNil] at hg; omega) )
  apply hK; clear hK K
  -- region 7  law.go:78
  refine awp_rseq [1, 2, 3, 4, 5, 6, 7, 8, 10, 12, 14] (by rfl) fun K hK => ?_
  refine aOps_callV (V := .tuple [.str (showE [49, 45, 50]).1, faultA ⟨4, 1, 12⟩]) (by rfl) (by rfl) (c_showF w₀ hm _ _ (by decide) sh7) ?_
  simp (decide := true) only [ev, putD, Slots.put, Slots.get, if_true, if_false, true_and, ↓ap_move, pop_move, ↓ap_extract, pop_extract, pExt_tuple, List.getD_cons_zero, List.getD_cons_succ, List.getD_cons_zero, List.getD_cons_succ, faultA]
  repeat (with_reducible refine And.intro ?_ ?_; · first | trivial | omega | (intro hg; simp only [Bool.and_eq_true, Bool.or_eq_true, Bool.not_eq_true', Bool.and_eq_false_iff, Bool.or_eq_false_iff, Bool.not_eq_false', decide_eq_true_eq, decide_eq_false_iff_not, eqNil] at hg; omega) )
  refine aOps_alloc ze28 (cs := [.int .i64 0, .int .i64 0, .int .i64 0]) (by rfl) fun k7q4 hk7q4 => ?_
  have ne_7q4_1q4 : k7q4 ≠ k1q4 := by simp only [AHeap.set_none] at hk7q4; simp only [hk7q4, ne_eq, not_false_eq_true]
  have ne_7q4_2q4 : k7q4 ≠ k2q4 := by simp only [AHeap.set_none] at hk7q4; simp only [hk7q4, ne_eq, not_false_eq_true]
  have ne_7q4_3q4 : k7q4 ≠ k3q4 := by simp only [AHeap.set_none] at hk7q4; simp only [hk7q4, ne_eq, not_false_eq_true]
  have ne_7q4_4q4 : k7q4 ≠ k4q4 := by simp only [AHeap.set_none] at hk7q4; simp only [hk7q4, ne_eq, not_false_eq_true]
  have ne_7q4_5q4 : k7q4 ≠ k5q4 := by simp only [AHeap.set_none] at hk7q4; simp only [hk7q4, ne_eq, not_false_eq_true]
  have ne_7q4_6q4 : k7q4 ≠ k6q4 := by simp only [AHeap.set_none] at hk7q4; simp only [hk7q4, ne_eq, not_false_eq_true]
  try have hf_7q4 : h k7q4 = none := by first | assumption | (simp only [AHeap.set_none] at hk7q4; simp only [hk7q4])
  simp (decide := true) only [ev, putD, Slots.put, Slots.get, if_true, if_false, true_and, ↓ap_assign, pop_assign]
  repeat (with_reducible refine And.intro ?_ ?_; · first | trivial | omega | (intro hg; simp only [Bool.and_eq_true, Bool.or_eq_true, Bool.not_eq_true', Bool.and_eq_false_iff, Bool.or_eq_false_iff, Bool.not_eq_false', decide_eq_true_eq, decide_eq_false_iff_not, eqNil] at hg; omega) )
  refine aOps_store (by rfl) (by rfl) (by repeat (first | exact AHeap.set_same _ _ _ | assumption | refine (AHeap.set_ne _ _ (by first | assumption | exact Ne.symm (by assumption))).trans ?_)) sz28 (by rfl) (by rfl) (by first | exact Nat.le_refl _ | decide | (simp; done) | (simp; omega)) (Nat.zero_le _) (by rfl) ?_
  simp only [AHeap.set_set, AVal.cells]
  simp (decide := true) only [aOps_nil, ev, putD, Slots.get, Slots.keep, if_true, if_false, setAt, List.set_cons_zero, List.set_cons_succ, Nat.zero_add, Nat.reduceAdd]
  repeat (with_reducible refine And.intro ?_ ?_; · first | trivial | omega | (intro hg; simp only [Bool.and_eq_true, Bool.or_eq_true, Bool.not_eq_true', Bool.and_eq_false_iff, Bool.or_eq_false_iff, Bool.not_eq_false', decide_eq_true_eq, decide_eq_false_iff_not, eqNil] at hg; omega) )
  apply hK; clear hK K
  -- region 8  law.go:79
  refine awp_rseq [1, 2, 3, 4, 5, 6, 7, 8, 10, 12, 14, 16] (by rfl) fun K hK => ?_
  refine aOps_callV (V := .tuple [.str (showE [80, 73, 67, 32, 46]).1, faultA ⟨4, 1, 16⟩]) (by rfl) (by rfl) (c_showF w₀ hm _ _ (by decide) sh8) ?_
  simp (decide := true) only [ev, putD, Slots.put, Slots.get, if_true, if_false, true_and, ↓ap_move, pop_move, ↓ap_extract, pop_extract, pExt_tuple, List.getD_cons_zero, List.getD_cons_succ, List.getD_cons_zero, List.getD_cons_succ, faultA]
  repeat (with_reducible refine And.intro ?_ ?_; · first | trivial | omega | (intro hg; simp only [Bool.and_eq_true, Bool.or_eq_true, Bool.not_eq_true', Bool.and_eq_false_iff, Bool.or_eq_false_iff, Bool.not_eq_false', decide_eq_true_eq, decide_eq_false_iff_not, eqNil] at hg; omega) )
  refine aOps_alloc ze28 (cs := [.int .i64 0, .int .i64 0, .int .i64 0]) (by rfl) fun k8q4 hk8q4 => ?_
  have ne_8q4_1q4 : k8q4 ≠ k1q4 := by simp only [AHeap.set_none] at hk8q4; simp only [hk8q4, ne_eq, not_false_eq_true]
  have ne_8q4_2q4 : k8q4 ≠ k2q4 := by simp only [AHeap.set_none] at hk8q4; simp only [hk8q4, ne_eq, not_false_eq_true]
  have ne_8q4_3q4 : k8q4 ≠ k3q4 := by simp only [AHeap.set_none] at hk8q4; simp only [hk8q4, ne_eq, not_false_eq_true]
  have ne_8q4_4q4 : k8q4 ≠ k4q4 := by simp only [AHeap.set_none] at hk8q4; simp only [hk8q4, ne_eq, not_false_eq_true]
  have ne_8q4_5q4 : k8q4 ≠ k5q4 := by simp only [AHeap.set_none] at hk8q4; simp only [hk8q4, ne_eq, not_false_eq_true]
  have ne_8q4_6q4 : k8q4 ≠ k6q4 := by simp only [AHeap.set_none] at hk8q4; simp only [hk8q4, ne_eq, not_false_eq_true]
  have ne_8q4_7q4 : k8q4 ≠ k7q4 := by simp only [AHeap.set_none] at hk8q4; simp only [hk8q4, ne_eq, not_false_eq_true]
  try have hf_8q4 : h k8q4 = none := by first | assumption | (simp only [AHeap.set_none] at hk8q4; simp only [hk8q4])
  simp (decide := true) only [ev, putD, Slots.put, Slots.get, if_true, if_false, true_and, ↓ap_assign, pop_assign]
  repeat (with_reducible refine And.intro ?_ ?_; · first | trivial | omega | (intro hg; simp only [Bool.and_eq_true, Bool.or_eq_true, Bool.not_eq_true', Bool.and_eq_false_iff, Bool.or_eq_false_iff, Bool.not_eq_false', decide_eq_true_eq, decide_eq_false_iff_not, eqNil] at hg; omega) )
  refine aOps_store (by rfl) (by rfl) (by repeat (first | exact AHeap.set_same _ _ _ | assumption | refine (AHeap.set_ne _ _ (by first | assumption | exact Ne.symm (by assumption))).trans ?_)) sz28 (by rfl) (by rfl) (by first | exact Nat.le_refl _ | decide | (simp; done) | (simp; omega)) (Nat.zero_le _) (by rfl) ?_
  simp only [AHeap.set_set, AVal.cells]
  simp (decide := true) only [aOps_nil, ev, putD, Slots.get, Slots.keep, if_true, if_false, setAt, List.set_cons_zero, List.set_cons_succ, Nat.zero_add, Nat.reduceAdd]
  repeat (with_reducible refine And.intro ?_ ?_; · first | trivial | omega | (intro hg; simp only [Bool.and_eq_true, Bool.or_eq_true, Bool.not_eq_true', Bool.and_eq_false_iff, Bool.or_eq_false_iff, Bool.not_eq_false', decide_eq_true_eq, decide_eq_false_iff_not, eqNil] at hg; omega) )
  apply hK; clear hK K
  -- region 9  law.go:80
  refine awp_rseq [1, 2, 3, 4, 5, 6, 7, 8, 10, 12, 14, 16, 18] (by rfl) fun K hK => ?_
  refine aOps_callV (V := .tuple [.str (showE [80, 73, 67, 32, 65, 34, 66, 34]).1, faultA ⟨4, 1, 16⟩]) (by rfl) (by rfl) (c_showF w₀ hm _ _ (by decide) sh9) ?_
  simp (decide := true) only [ev, putD, Slots.put, Slots.get, if_true, if_false, true_and, ↓ap_move, pop_move, ↓ap_extract, pop_extract, pExt_tuple, List.getD_cons_zero, List.getD_cons_succ, List.getD_cons_zero, List.getD_cons_succ, faultA]
  repeat (with_reducible refine And.intro ?_ ?_; · first | trivial | omega | (intro hg; simp only [Bool.and_eq_true, Bool.or_eq_true, Bool.not_eq_true', Bool.and_eq_false_iff, Bool.or_eq_false_iff, Bool.not_eq_false', decide_eq_true_eq, decide_eq_false_iff_not, eqNil] at hg; omega) )
  refine aOps_alloc ze28 (cs := [.int .i64 0, .int .i64 0, .int .i64 0]) (by rfl) fun k9q4 hk9q4 => ?_
  have ne_9q4_1q4 : k9q4 ≠ k1q4 := by simp only [AHeap.set_none] at hk9q4; simp only [hk9q4, ne_eq, not_false_eq_true]
  have ne_9q4_2q4 : k9q4 ≠ k2q4 := by simp only [AHeap.set_none] at hk9q4; simp only [hk9q4, ne_eq, not_false_eq_true]
  have ne_9q4_3q4 : k9q4 ≠ k3q4 := by simp only [AHeap.set_none] at hk9q4; simp only [hk9q4, ne_eq, not_false_eq_true]
  have ne_9q4_4q4 : k9q4 ≠ k4q4 := by simp only [AHeap.set_none] at hk9q4; simp only [hk9q4, ne_eq, not_false_eq_true]
  have ne_9q4_5q4 : k9q4 ≠ k5q4 := by simp only [AHeap.set_none] at hk9q4; simp only [hk9q4, ne_eq, not_false_eq_true]
  have ne_9q4_6q4 : k9q4 ≠ k6q4 := by simp only [AHeap.set_none] at hk9q4; simp only [hk9q4, ne_eq, not_false_eq_true]
  have ne_9q4_7q4 : k9q4 ≠ k7q4 := by simp only [AHeap.set_none] at hk9q4; simp only [hk9q4, ne_eq, not_false_eq_true]
  have ne_9q4_8q4 : k9q4 ≠ k8q4 := by simp only [AHeap.set_none] at hk9q4; simp only [hk9q4, ne_eq, not_false_eq_true]
  try have hf_9q4 : h k9q4 = none := by first | assumption | (simp only [AHeap.set_none] at hk9q4; simp only [hk9q4])
  simp (decide := true) only [ev, putD, Slots.put, Slots.get, if_true, if_false, true_and, ↓ap_assign, pop_assign]
  repeat (with_reducible refine And.intro ?_ ?_; · first | trivial | omega | (intro hg; simp only [Bool.and_eq_true, Bool.or_eq_true, Bool.not_eq_true', Bool.and_eq_false_iff, Bool.or_eq_false_iff, Bool.not_eq_false', decide_eq_true_eq, decide_eq_false_iff_not, eqNil] at hg; omega) )
  refine aOps_store (by rfl) (by rfl) (by repeat (first | exact AHeap.set_same _ _ _ | assumption | refine (AHeap.set_ne _ _ (by first | assumption | exact Ne.symm (by assumption))).trans ?_)) sz28 (by rfl) (by rfl) (by first | exact Nat.le_refl _ | decide | (simp; done) | (simp; omega)) (Nat.zero_le _) (by rfl) ?_
  simp only [AHeap.set_set, AVal.cells]
  simp (decide := true) only [aOps_nil, ev, putD, Slots.get, Slots.keep, if_true, if_false, setAt, List.set_cons_zero, List.set_cons_succ, Nat.zero_add, Nat.reduceAdd]
  repeat (with_reducible refine And.intro ?_ ?_; · first | trivial | omega | (intro hg; simp only [Bool.and_eq_true, Bool.or_eq_true, Bool.not_eq_true', Bool.and_eq_false_iff, Bool.or_eq_false_iff, Bool.not_eq_false', decide_eq_true_eq, decide_eq_false_iff_not, eqNil] at hg; omega) )
  apply hK; clear hK K
  -- region 10  law.go:81
  refine awp_rseq [1, 2, 3, 4, 5, 6, 7, 8, 10, 12, 14, 16, 18, 19] (by rfl) fun K hK => ?_
  simp (decide := true) only [ev, absV, absS, putD, Slots.put, Slots.get, if_false, true_and, ↓ap_build, ↓pop_buildL, bld28_, evP, List.map_nil]
  repeat (with_reducible refine And.intro ?_ ?_; · first | trivial | omega | (intro hg; simp only [Bool.and_eq_true, Bool.or_eq_true, Bool.not_eq_true', Bool.and_eq_false_iff, Bool.or_eq_false_iff, Bool.not_eq_false', decide_eq_true_eq, decide_eq_false_iff_not, eqNil] at hg; omega) )
  refine aOps_alloc ze28 (cs := [.int .i64 0, .int .i64 0, .int .i64 0]) (by rfl) fun k10q1 hk10q1 => ?_
  have ne_10q1_1q4 : k10q1 ≠ k1q4 := by simp only [AHeap.set_none] at hk10q1; simp only [hk10q1, ne_eq, not_false_eq_true]
  have ne_10q1_2q4 : k10q1 ≠ k2q4 := by simp only [AHeap.set_none] at hk10q1; simp only [hk10q1, ne_eq, not_false_eq_true]
  have ne_10q1_3q4 : k10q1 ≠ k3q4 := by simp only [AHeap.set_none] at hk10q1; simp only [hk10q1, ne_eq, not_false_eq_true]
  have ne_10q1_4q4 : k10q1 ≠ k4q4 := by simp only [AHeap.set_none] at hk10q1; simp only [hk10q1, ne_eq, not_false_eq_true]
  have ne_10q1_5q4 : k10q1 ≠ k5q4 := by simp only [AHeap.set_none] at hk10q1; simp only [hk10q1, ne_eq, not_false_eq_true]
  have ne_10q1_6q4 : k10q1 ≠ k6q4 := by simp only [AHeap.set_none] at hk10q1; simp only [hk10q1, ne_eq, not_false_eq_true]
  have ne_10q1_7q4 : k10q1 ≠ k7q4 := by simp only [AHeap.set_none] at hk10q1; simp only [hk10q1, ne_eq, not_false_eq_true]
  have ne_10q1_8q4 : k10q1 ≠ k8q4 := by simp only [AHeap.set_none] at hk10q1; simp only [hk10q1, ne_eq, not_false_eq_true]
  have ne_10q1_9q4 : k10q1 ≠ k9q4 := by simp only [AHeap.set_none] at hk10q1; simp only [hk10q1, ne_eq, not_false_eq_true]
  try have hf_10q1 : h k10q1 = none := by first | assumption | (simp only [AHeap.set_none] at hk10q1; simp only [hk10q1])
  refine aOps_store (by rfl) (by rfl) (by repeat (first | exact AHeap.set_same _ _ _ | assumption | refine (AHeap.set_ne _ _ (by first | assumption | exact Ne.symm (by assumption))).trans ?_)) sz28 (by rfl) (by rfl) (by first | exact Nat.le_refl _ | decide | (simp; done) | (simp; omega)) (Nat.zero_le _) (by rfl) ?_
  simp only [AHeap.set_set, AVal.cells]
  simp (decide := true) only [aOps_nil, ev, putD, Slots.put, Slots.get, Slots.keep, if_true, if_false, setAt, List.set_cons_zero, List.set_cons_succ, Nat.zero_add, Nat.reduceAdd]
  repeat (with_reducible refine And.intro ?_ ?_; · first | trivial | omega | (intro hg; simp only [Bool.and_eq_true, Bool.or_eq_true, Bool.not_eq_true', Bool.and_eq_false_iff, Bool.or_eq_false_iff, Bool.not_eq_false', decide_eq_true_eq, decide_eq_false_iff_not, eqNil] at hg; omega) )
  apply hK; clear hK K
  refine awp_seq ?_
  -- region 11  law.go:82
  refine awp_rseq [10, 12, 14, 16, 18, 90] (by kernel_rfl) fun K hK => ?_
  try simp only [List.append_eq, List.cons_append, List.nil_append]
  simp (decide := true) only [aOps_nil, ev, absV, absS, putD, Slots.put, Slots.get, Slots.keep, if_true, if_false, true_and, ↓ap_loadL, apL_mk, pLoad_agg ag28 sz28, ↓ap_binOp, pop_binOp, isNilC_tmp, cond_false, pBinX_agg, ne28, ↓ap_move, pop_move, ↓ag_loadL, agQL_some, agL_mk, agP, agQ_some, nthDst, gKnown_bool, guardB_bool_false, implies_true, decide_true, Bool.not_false, Bool.not_true, condV_true, Bool.and_true, ↓ag_binOp, ↓ap_pick, pop_pick, pPick_bool, pickV_and, ↓ag_move, isNilC_str, pBinX_str, pS_neq, rd_ne', ne_eq, not_false_eq_true, ne_2q4_1q4.symm, ne_3q4_1q4.symm, ne_3q4_2q4.symm, ne_4q4_1q4.symm, ne_4q4_2q4.symm, ne_4q4_3q4.symm, ne_5q4_1q4.symm, ne_5q4_2q4.symm, ne_5q4_3q4.symm, ne_5q4_4q4.symm, ne_6q4_1q4.symm, ne_6q4_2q4.symm, ne_6q4_3q4.symm, ne_6q4_4q4.symm, ne_7q4_1q4.symm, ne_7q4_2q4.symm, ne_7q4_3q4.symm, ne_7q4_4q4.symm, ne_8q4_1q4.symm, ne_8q4_2q4.symm, ne_8q4_3q4.symm, ne_8q4_4q4.symm, ne_9q4_1q4.symm, ne_9q4_2q4.symm, ne_9q4_3q4.symm, ne_9q4_4q4.symm, ne_10q1_1q4.symm, ne_10q1_2q4.symm, ne_10q1_3q4.symm, ne_10q1_4q4.symm, rd_any, cellsAt, List.getD_cons_zero, List.getD_cons_succ, Nat.zero_add, Nat.reduceAdd, lv_int, allLive, Bool.and_true]
  repeat (with_reducible refine And.intro ?_ ?_; · first | trivial | omega | (intro hg; simp only [Bool.and_eq_true, Bool.or_eq_true, Bool.not_eq_true', Bool.and_eq_false_iff, Bool.or_eq_false_iff, Bool.not_eq_false', decide_eq_true_eq, decide_eq_false_iff_not, eqNil] at hg; omega) )
  apply hK; clear hK K
  refine awp_cond (b := _) rfl (fun hb1 => ?_) (fun hb1 => ?_)
  · exact absurd hb1 (by decide)
  · try simp only at hb1
    refine awp_skip ?_
    change Awp _ _ _ _ _ _ _
    -- region 13  law.go:85
    refine awp_rseq [0] (by kernel_rfl) fun K hK => ?_
    simp (decide := true) only [aOps_nil, ev, absV, absS, putD, Slots.put, Slots.get, Slots.keep, if_true, if_false, true_and, ↓ap_loadL, apL_mk, pLoad_agg ag28 sz28, ↓ap_build, ↓pop_buildL, bld26_0_1, evP, List.map_cons, List.map_nil, bld28_0_1, ↓ap_binOp, pop_binOp, isNilC_tmp, cond_false, pBinX_agg, eq28, ↓ap_move, pop_move, ↓ag_loadL, agQL_some, agL_mk, agP, agQ_some, nthDst, gKnown_bool, guardB_bool_true, implies_true, decide_true, condV_true, Bool.and_true, ↓ag_build, ↓ag_binOp, ↓ap_pick, pop_pick, pPick_bool, pickV_and, ↓ap_assign, pop_assign, rd_ne', ne_eq, not_false_eq_true, ne_6q4_5q4.symm, ne_7q4_5q4.symm, ne_7q4_6q4.symm, ne_8q4_5q4.symm, ne_8q4_6q4.symm, ne_8q4_7q4.symm, ne_9q4_5q4.symm, ne_9q4_6q4.symm, ne_9q4_7q4.symm, ne_9q4_8q4.symm, ne_10q1_5q4.symm, ne_10q1_6q4.symm, ne_10q1_7q4.symm, ne_10q1_8q4.symm, ne_10q1_9q4.symm, rd_any, cellsAt, List.getD_cons_zero, List.getD_cons_succ, Nat.zero_add, Nat.reduceAdd, lv_int, allLive, Bool.and_true]
    repeat (with_reducible refine And.intro ?_ ?_; · first | trivial | omega | (intro hg; simp only [Bool.and_eq_true, Bool.or_eq_true, Bool.not_eq_true', Bool.and_eq_false_iff, Bool.or_eq_false_iff, Bool.not_eq_false', decide_eq_true_eq, decide_eq_false_iff_not, eqNil] at hg; omega) )
    apply hK; clear hK K
    refine awp_ret ?_
    try simp only [thenA_ret, inBlockA_ret]
    refine retA_ret h (by repeat (first | exact Sub.refl _ | assumption | refine Sub.trans_set ?_ (by assumption))) (resPre_tmp (resPre_nil)) ?_
    simp (decide := true) only [Slots.get, if_true, and_true, resOf_one]
    all_goals first | rfl | exact ⟨rfl, rfl⟩ | (simp (decide := true) only [if_true, if_false, *]; done) | (trace_state; fail)
end Go.Proofs.YtmadddihphkmoaaDoor

/-
  Contracts: space of the package columns; Printable of the package chars.
  Conditions: none.
-/
namespace Go.Proofs.YtmadddihphkmoaaDoor
open Go.AM
open Go.Proofs
open Go.Col
set_option maxRecDepth 100000

/-! ### Printable -/
end Go.Proofs.YtmadddihphkmoaaDoor

/-
  Contracts: the writer of the package columns.
  Conditions: none.
-/
namespace Go.Proofs.YtmadddihphkmoaaDoor
open Go.AM
open Go.Proofs
open Go.Col
set_option maxRecDepth 100000

end Go.Proofs.YtmadddihphkmoaaDoor

/-
  Contracts: Len of strings.Builder; Write of the package columns.
  Conditions: none.
-/
namespace Go.Proofs.YtmadddihphkmoaaDoor
open Go.AM
open Go.Proofs
open Go.Col
set_option maxRecDepth 100000

end Go.Proofs.YtmadddihphkmoaaDoor

/-
  Contracts: spaces, right, plain, digits, divide of the laws; Open, Squeeze of the reference.
  Conditions: none.
-/
namespace Go.Proofs.YtmadddihphkmoaaDoor
open Go.AM
open Go.Proofs
open Go.Col
set_option maxRecDepth 100000

end Go.Proofs.YtmadddihphkmoaaDoor

/-
  Contracts: read of the laws.
  Conditions: none.
-/
namespace Go.Proofs.YtmadddihphkmoaaDoor
open Go.AM
open Go.Proofs
open Go.Col
set_option maxRecDepth 100000

theorem IsCards.live {w₀ : World} {h : AHeap} {v : AVal} {cs : List CardC} (hc : IsCards w₀ h v cs) : v.live = true := by
  obtain ⟨ps, rfl, h2, h3⟩ := hc
  exact h2.live
theorem IsCards.len {w₀ : World} {h : AHeap} {v : AVal} {cs : List CardC} (hc : IsCards w₀ h v cs) : pLen Tryd.prog 44 v = ⟨True, .int .i64 cs.length⟩ := by
  obtain ⟨ps, rfl, h2, h3⟩ := hc
  have := h2.len Tryd.underlying44
  rw [List.length_map] at this ⊢
  exact this
theorem IsCards.open {w₀ : World} {h : AHeap} {v : AVal} {cs : List CardC} (hc : IsCards w₀ h v cs) (hn : 0 < cs.length) : ∃ l o c, v = .slice l o cs.length c := by
  obtain ⟨ps, rfl, h2, h3⟩ := hc
  obtain ⟨l, o, c, e⟩ := h2.open (fun e => by rw [List.map_eq_nil_iff] at e; subst e; simp at hn)
  rw [List.length_map] at e ⊢
  exact ⟨l, o, c, e⟩
end Go.Proofs.YtmadddihphkmoaaDoor

/-
  Contracts: lives of the laws.
  Conditions: none.
-/
namespace Go.Proofs.YtmadddihphkmoaaDoor
open Go.AM
open Go.Proofs
open Go.Col
set_option maxRecDepth 100000

end Go.Proofs.YtmadddihphkmoaaDoor

/-
  The statement ColumnsLayout, walked.
  Conditions: none.
-/
namespace Go.Proofs.YtmadddihphkmoaaDoor
open Go.AM
open Go.Proofs
open Go.Col
set_option maxRecDepth 100000

theorem trimL_split (s : Str) : ∃ k, s = List.replicate k 32 ++ trimL s ∧ (trimL s).head? ≠ some 32 := by
  induction s with
  | nil => exact ⟨0, rfl, by simp [trimL]⟩
  | cons b s ih =>
    by_cases h : b = 32
    · obtain ⟨k, h1, h2⟩ := ih
      refine ⟨k + 1, ?_, ?_⟩
      · subst h
        rw [List.replicate_succ, List.cons_append]
        have : trimL (32 :: s) = trimL s := by simp [trimL]
        rw [this, ← h1]
      · have : trimL (b :: s) = trimL s := by simp [trimL, h]
        rw [this]; exact h2
    · have : trimL (b :: s) = b :: s := by simp [trimL, h]
      rw [this]
      exact ⟨0, rfl, by simpa using h⟩
end Go.Proofs.YtmadddihphkmoaaDoor

