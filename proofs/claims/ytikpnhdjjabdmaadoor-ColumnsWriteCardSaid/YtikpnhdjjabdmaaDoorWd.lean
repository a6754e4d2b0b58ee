/-
  Texts of this proof, joined: CoJ, CoK, LbA, LbB, CoL, CoM, CoN.
  Conditions: none.
-/
import Derived.Test.YtikpnhdjjabdmaaDoorWc
import Derived.Test.YtikpnhdjjabdmaaDoorWb
set_option linter.unusedSimpArgs false
set_option linter.unnecessarySimpa false
set_option linter.unusedVariables false
/-
  Contracts: Read of the package columns: its lines.
  Conditions: none.
-/
namespace Go.Proofs.YtikpnhdjjabdmaaDoor
open Go.AM
open Go.Proofs
open Go.Col
set_option maxRecDepth 100000

/-- The lines, one after the other. -/
theorem readLoop (w₀ : World) (hm : MaxL w₀) (h B0 : AHeap) (hs0 : Sub h B0) (kr kx ks : Nat) (text : Str) (dbg : Bool) (lines : List Str) (hln : lines = splitNL (trimNL text)) (hl : text.length ≤ 1048576)
    (er : B0 kr = some ⟨[.int .i64 0, .int .i64 0, .int .i64 0], 0⟩) (hr : h kr = none) (es : B0 ks = some ⟨lines.map AVal.str, 0⟩) (hi : RdInv w₀ B0 kx B0 (fun _ => none) none none .start) :
    Awp Tryd.prog w₀ 82 (dropSeq 4 (unScope (dropSeq 1 (bodyOf Tryd.f11)))) (noGotoA (retA Tryd.prog w₀ [.tmp 4, .cell 5 34] (ReadR w₀ h text dbg))) [(1, .bool dbg), (5, .ptr (.own kr) 0), (6, .ptr (.own kx) 0), (7, .slice (.own ks) 0 lines.length (.exact lines.length))] (rdH kx B0 none none .start) := by
  have hnl : lines.length ≤ 1048577 := by
    rw [hln]
    have := splitNL_len (trimNL text)
    have := trimNL_len text
    omega
  change Awp _ _ _ (Code.seq _ _) _ _ _
  refine awp_seq ?_
  -- region 5  columns.go:129
  refine awp_rseq [1, 5, 6, 21, 22, 23] (by rfl) fun K hK => ?_
  simp (decide := true) only [aOps_nil, ev, absV, absS, putD, Slots.put, Slots.get, Slots.keep, if_true, if_false, true_and, ↓ap_move, pop_move, ↓ap_len, pop_len, pLen_slice Tryd.underlying40]
  repeat (with_reducible refine And.intro ?_ ?_; · first | trivial | omega | (intro hg; simp only [Bool.and_eq_true, Bool.or_eq_true, Bool.not_eq_true', Bool.and_eq_false_iff, Bool.or_eq_false_iff, Bool.not_eq_false', decide_eq_true_eq, decide_eq_false_iff_not, eqNil] at hg; omega) )
  apply hK; clear hK K
  refine awp_block ?_
  refine awp_loopG [1, 5, 6, 21, 22, 23] (fun g : RdL => [(1, .bool dbg), (5, .ptr (.own kr) 0), (6, .ptr (.own kx) 0), (21, .slice (.own ks) 0 lines.length (.exact lines.length)), (22, .int .i64 lines.length), (23, .int .i64 g.i)]) (fun g : RdL => rdH kx g.B g.cb g.mb g.x) (fun g : RdL => RdInv w₀ B0 kx g.B g.M g.cb g.mb g.x ∧ g.i ≤ lines.length ∧ RdSm g.i g.x ∧ readL dbg (lines.drop g.i) (g.i + 1) g.x = readL dbg lines 1 .start) (fun g : RdL => lines.length - g.i) ⟨0, B0, fun _ => none, none, none, .start⟩ (by rfl) (Sub.refl _) ⟨hi, Nat.zero_le _, ⟨by simp [Rd.start], by simp [Rd.start]⟩, rfl⟩ ?_
  rintro ⟨i, B, M, cb, mb, x⟩ ⟨ri, hin, hsm, hrl⟩
  simp only at ri hin hsm hrl ⊢
  have rix := fun o => rd_own w₀ ri.at o
  -- region 6  columns.go:129
  refine awp_rseq [1, 5, 6, 21, 22, 23, 24] (by rfl) fun K hK => ?_
  simp (decide := true) only [aOps_nil, ev, putD, Slots.put, Slots.get, Slots.keep, if_true, if_false, true_and, ↓ap_binOp, pop_binOp, isNilC_tmp, cond_false, pBinX_int, pI_lss]
  repeat (with_reducible refine And.intro ?_ ?_; · first | trivial | omega | (intro hg; simp only [Bool.and_eq_true, Bool.or_eq_true, Bool.not_eq_true', Bool.and_eq_false_iff, Bool.or_eq_false_iff, Bool.not_eq_false', decide_eq_true_eq, decide_eq_false_iff_not, eqNil] at hg; omega) )
  apply hK; clear hK K
  refine awp_seq (awp_cond (b := _) rfl (fun hb1 => ?_) (fun hb1 => ?_))
  · try simp only [decide_eq_true_eq] at hb1
    have hi' : i < lines.length := by omega
    have eks := ri.above _ _ es
    have rks := fun o => rd_own w₀ eks o
    have eg : (lines.map AVal.str).getD i .dead = .str (lines.getD i []) := by simp [List.getD, hi']
    obtain ⟨r, cn, f, hp⟩ : ∃ r cn f, lineE (lines.getD i []) ((i : Int) + 1) dbg = (r, cn, f) := ⟨_, _, _, rfl⟩
    have hsl := lineE_small (s := lines.getD i []) (line := (i : Int) + 1) (dbg := dbg)
    rw [hp] at hsl
    simp only at hsl
    have hlm : (lines.getD i []).length ≤ 1048576 := by
      have h1 := splitNL_mem (trimNL text) (lines.getD i []) (by rw [← hln, List.getD, List.getElem?_eq_getElem hi']; exact List.getElem_mem hi')
      have h2 := trimNL_len text
      omega
    have hdrop : lines.drop i = lines.getD i [] :: lines.drop (i + 1) := by rw [List.drop_eq_getElem_cons hi']; simp [List.getD, hi']
    refine awp_skip ?_
    change Awp _ _ _ _ _ _ _
    refine awp_seq ?_
    refine awp_block ?_
    -- region 7  columns.go:129
    refine awp_rseq [1, 5, 6, 8, 9, 21, 22, 23] (by rfl) fun K hK => ?_
    simp (decide := true) only [aOps_nil, ev, putD, Slots.put, Slots.get, Slots.keep, if_true, if_false, true_and, ↓ap_move, pop_move, ↓ap_indexAddrL, apL_mk, pIndexAddr_slice Tryd.underlying40 sz9, ↓ap_loadL, pLoad_one ag9, ↓ap_assign, pop_assign, Nat.zero_add, lv_str, rks, eg, Int.toNat_natCast, Nat.mul_one]
    repeat (with_reducible refine And.intro ?_ ?_; · first | trivial | omega | (intro hg; simp only [Bool.and_eq_true, Bool.or_eq_true, Bool.not_eq_true', Bool.and_eq_false_iff, Bool.or_eq_false_iff, Bool.not_eq_false', decide_eq_true_eq, decide_eq_false_iff_not, eqNil] at hg; omega) )
    apply hK; clear hK K
    -- region 8  columns.go:130
    refine awp_rseq [1, 5, 6, 10, 11, 12, 21, 22, 23] (by rfl) fun K hK => ?_
    simp (decide := true) only [ev, absV, absS, putD, Slots.put, Slots.get, if_true, if_false, true_and, ↓ap_move, pop_move, ↓ap_binOp, pop_binOp, isNilC_int, cond_false, pBinX_int, pI_add]
    try simp (disch := omega) only [wrap_i64]
    repeat (with_reducible refine And.intro ?_ ?_; · first | trivial | omega | (intro hg; simp only [Bool.and_eq_true, Bool.or_eq_true, Bool.not_eq_true', Bool.and_eq_false_iff, Bool.or_eq_false_iff, Bool.not_eq_false', decide_eq_true_eq, decide_eq_false_iff_not, eqNil] at hg; omega) )
    refine aOps_callV (V := .tuple [rowA r, .bool cn, faultA f]) (by rfl) (by rfl) ((c_read w₀ _ (lines.getD i []) ((i : Int) + 1) dbg (by omega) (by omega) (by omega)).val (by rw [hp])) ?_
    simp (decide := true) only [ev, putD, Slots.put, Slots.get, if_true, if_false, true_and, ↓ap_move, pop_move, ↓ap_extract, pop_extract, pExt_tuple, List.length_cons, List.length_nil, List.getD_cons_zero, List.getD_cons_succ, List.getD_cons_zero, List.getD_cons_succ, Nat.zero_add, Nat.reduceAdd, faultA, rowA]
    repeat (with_reducible refine And.intro ?_ ?_; · first | trivial | omega | (intro hg; simp only [Bool.and_eq_true, Bool.or_eq_true, Bool.not_eq_true', Bool.and_eq_false_iff, Bool.or_eq_false_iff, Bool.not_eq_false', decide_eq_true_eq, decide_eq_false_iff_not, eqNil] at hg; omega) )
    refine aOps_alloc ze73 (cs := [.int .i64 0, .bool false, .str [], .int .i64 0]) (by rfl) fun k8q9 hk8q9 => ?_
    try have hf_8q9 : (rdH kx B0 none none .start) k8q9 = none := by first | assumption | (simp only [AHeap.set_none] at hk8q9; simp only [hk8q9])
    refine aOps_alloc ze34 (cs := [.int .i64 0, .int .i64 0, .int .i64 0]) (by rfl) fun k8q10 hk8q10 => ?_
    have ne_8q10_8q9 : k8q10 ≠ k8q9 := by simp only [AHeap.set_none] at hk8q10; simp only [hk8q10, ne_eq, not_false_eq_true]
    try have hf_8q10 : (rdH kx B0 none none .start) k8q10 = none := by first | assumption | (simp only [AHeap.set_none] at hk8q10; simp only [hk8q10])
    refine aOps_store (by rfl) (by rfl) (by repeat (first | exact AHeap.set_same _ _ _ | assumption | refine (AHeap.set_ne _ _ (by first | assumption | exact Ne.symm (by assumption))).trans ?_)) sz73 (by rfl) (by rfl) (by first | exact Nat.le_refl _ | decide | (simp; done) | (simp; omega)) (Nat.zero_le _) (by rfl) ?_
    simp only [AVal.cells]
    simp (decide := true) only [ev, putD, Slots.put, Slots.get, if_true, if_false, true_and, ↓ap_assign, pop_assign, setAt, List.set_cons_zero, List.set_cons_succ, Nat.zero_add, Nat.reduceAdd]
    repeat (with_reducible refine And.intro ?_ ?_; · first | trivial | omega | (intro hg; simp only [Bool.and_eq_true, Bool.or_eq_true, Bool.not_eq_true', Bool.and_eq_false_iff, Bool.or_eq_false_iff, Bool.not_eq_false', decide_eq_true_eq, decide_eq_false_iff_not, eqNil] at hg; omega) )
    refine aOps_store (by rfl) (by rfl) (by repeat (first | exact AHeap.set_same _ _ _ | assumption | refine (AHeap.set_ne _ _ (by first | assumption | exact Ne.symm (by assumption))).trans ?_)) sz34 (by rfl) (by rfl) (by first | exact Nat.le_refl _ | decide | (simp; done) | (simp; omega)) (Nat.zero_le _) (by rfl) ?_
    simp only [AVal.cells]
    simp (decide := true) only [aOps_nil, ev, putD, Slots.get, Slots.keep, if_true, if_false, setAt, List.set_cons_zero, List.set_cons_succ, Nat.zero_add, Nat.reduceAdd]
    repeat (with_reducible refine And.intro ?_ ?_; · first | trivial | omega | (intro hg; simp only [Bool.and_eq_true, Bool.or_eq_true, Bool.not_eq_true', Bool.and_eq_false_iff, Bool.or_eq_false_iff, Bool.not_eq_false', decide_eq_true_eq, decide_eq_false_iff_not, eqNil] at hg; omega) )
    apply hK; clear hK K
    refine awp_seq ?_
    have hnorm : ((((rdH kx B cb mb x).set k8q9 ⟨[.int .i64 0, .bool false, .str [], .int .i64 0], 0⟩).set k8q10 ⟨[.int .i64 0, .int .i64 0, .int .i64 0], 0⟩).set k8q9 ⟨[.int .i64 r.line, .bool r.more, .str r.text, .int .i64 r.col], 0⟩).set k8q10 ⟨[.int .i64 f.e, .int .i64 f.line, .int .i64 f.col], 0⟩ = ((rdH kx B cb mb x).set k8q9 ⟨[.int .i64 r.line, .bool r.more, .str r.text, .int .i64 r.col], 0⟩).set k8q10 ⟨[.int .i64 f.e, .int .i64 f.line, .int .i64 f.col], 0⟩ := by
      rw [AHeap.set_comm ((rdH kx B cb mb x).set k8q9 ⟨[.int .i64 0, .bool false, .str [], .int .i64 0], 0⟩) _ _ ne_8q10_8q9.symm, AHeap.set_set, AHeap.set_set]
    rw [hnorm]
    obtain ⟨a1, a2, a3, a4⟩ := rdH_new ri hk8q9 ⟨[.int .i64 r.line, .bool r.more, .str r.text, .int .i64 r.col], 0⟩
    have hk2 : rdH kx (B.set k8q9 ⟨[.int .i64 r.line, .bool r.more, .str r.text, .int .i64 r.col], 0⟩) cb mb x k8q10 = none := by
      rw [← a1, AHeap.set_ne _ _ ne_8q10_8q9]
      rwa [AHeap.set_ne _ _ ne_8q10_8q9] at hk8q10
    obtain ⟨b1, b2, b3, b4⟩ := rdH_new a2 hk2 ⟨[.int .i64 f.e, .int .i64 f.line, .int .i64 f.col], 0⟩
    rw [a1, b1]
    obtain ⟨B₁, hB₁⟩ : ∃ B₁, B₁ = (B.set k8q9 ⟨[.int .i64 r.line, .bool r.more, .str r.text, .int .i64 r.col], 0⟩).set k8q10 ⟨[.int .i64 f.e, .int .i64 f.line, .int .i64 f.col], 0⟩ := ⟨_, rfl⟩
    rw [← hB₁] at b2 ⊢
    have e0 : B₁ k8q9 = some ⟨[.int .i64 r.line, .bool r.more, .str r.text, .int .i64 r.col], 0⟩ := by rw [hB₁, AHeap.set_ne _ _ ne_8q10_8q9.symm, AHeap.set_same]
    have e1 : B₁ k8q10 = some ⟨[.int .i64 f.e, .int .i64 f.line, .int .i64 f.col], 0⟩ := by rw [hB₁, AHeap.set_same]
    have hB8 : B k8q10 = none := by rwa [AHeap.set_ne _ _ ne_8q10_8q9] at b4
    have s0 := fun o => rd_own w₀ (b2.other e0) o
    have s1 := fun o => rd_own w₀ (b2.other e1) o
    -- region 9  columns.go:131
    refine awp_rseq [1, 5, 6, 10, 12, 21, 22, 23, 43] (by rfl) fun K hK => ?_
    simp (decide := true) only [aOps_nil, ev, absV, absS, putD, Slots.put, Slots.get, Slots.keep, if_true, if_false, true_and, ↓ap_loadL, apL_mk, pLoad_agg ag34 sz34, ↓ap_build, ↓pop_buildL, bld34_, evP, List.map_nil, ↓ap_binOp, pop_binOp, isNilC_tmp, cond_false, pBinX_agg, eq34, ↓ap_move, pop_move, ↓ag_move, agP, agQ_some, nthDst, gKnown_bool, guardB_bool_true, implies_true, Bool.and_true, ↓ag_unOp, pop_unOp, pU_not, cv_un, cp_un, ↓ap_pick, pop_pick, pPick_bool, pickV_cond_l, pickV_and, cellsAt, List.getD_cons_zero, List.getD_cons_succ, Nat.zero_add, Nat.reduceAdd, lv_int, allLive, Bool.and_true, s1, faultA_eq]
    try simp (disch := omega) only [wrap_i64, wrap_u8]
    repeat (with_reducible refine And.intro ?_ ?_; · first | trivial | omega | (intro hg; simp only [Bool.and_eq_true, Bool.or_eq_true, Bool.not_eq_true', Bool.and_eq_false_iff, Bool.or_eq_false_iff, Bool.not_eq_false', decide_eq_true_eq, decide_eq_false_iff_not, eqNil] at hg; omega) )
    apply hK; clear hK K
    refine awp_cond (b := _) rfl (fun hb2 => ?_) (fun hb2 => ?_)
    · try simp only [decide_eq_true_eq, Bool.not_eq_true', Bool.and_eq_true] at hb2
      have iz := b2
      have gz := hsm.next
      have lz : readL dbg (lines.drop (i + 1)) (((i + 1 : Nat) : Int) + 1) x = readL dbg lines 1 .start := by
        rw [← hrl, hdrop, readL_skip (by rw [hp, hb2.2]) hb2.1]
        rfl
      refine awp_exit ?_
      change Awp _ _ _ _ _ _ _
      -- region 14  columns.go:129
      refine awp_r [1, 5, 6, 21, 22, 23] (by rfl) ?_
      simp (decide := true) only [aOps_nil, ev, absV, absS, putD, Slots.put, Slots.get, Slots.keep, if_true, if_false, true_and, ↓ap_binOp, pop_binOp, isNilC_int, cond_false, pBinX_int, pI_add, ↓ap_move, pop_move]
      try simp (disch := omega) only [wrap_i64]
      repeat (with_reducible refine And.intro ?_ ?_; · first | trivial | omega | (intro hg; simp only [Bool.and_eq_true, Bool.or_eq_true, Bool.not_eq_true', Bool.and_eq_false_iff, Bool.or_eq_false_iff, Bool.not_eq_false', decide_eq_true_eq, decide_eq_false_iff_not, eqNil] at hg; omega) )
      try simp only [thenA_normal]
      exact ⟨⟨i + 1, _, _, _, _, _⟩, rfl, Sub.refl _, ⟨iz, by simp only; omega, gz, lz⟩, by simp only; omega⟩
    · try simp only [decide_eq_false_iff_not, Bool.not_eq_false', Bool.and_eq_false_iff] at hb2
      refine awp_skip ?_
      change Awp _ _ _ _ _ _ _
      refine awp_seq ?_
      -- region 10  columns.go:134
      refine awp_rseq [1, 5, 6, 10, 12, 21, 22, 23, 46] (by rfl) fun K hK => ?_
      simp (decide := true) only [aOps_nil, ev, absV, absS, putD, Slots.put, Slots.get, Slots.keep, if_true, if_false, true_and, ↓ap_loadL, apL_mk, pLoad_agg ag34 sz34, ↓ap_build, ↓pop_buildL, bld34_, evP, List.map_nil, ↓ap_binOp, pop_binOp, isNilC_tmp, cond_false, pBinX_agg, eq34, cellsAt, List.getD_cons_zero, List.getD_cons_succ, Nat.zero_add, Nat.reduceAdd, lv_int, allLive, Bool.and_true, s1, faultA_eq]
      repeat (with_reducible refine And.intro ?_ ?_; · first | trivial | omega | (intro hg; simp only [Bool.and_eq_true, Bool.or_eq_true, Bool.not_eq_true', Bool.and_eq_false_iff, Bool.or_eq_false_iff, Bool.not_eq_false', decide_eq_true_eq, decide_eq_false_iff_not, eqNil] at hg; omega) )
      apply hK; clear hK K
      refine awp_cond (b := _) rfl (fun hb3 => ?_) (fun hb3 => ?_)
      · try simp only [decide_eq_true_eq] at hb3
        have hcn : cn = true := by
          cases hcn : cn with
          | true => rfl
          | false =>
            rcases hb2 with e | e
            · exact absurd hb3 e
            · rw [hcn] at e
              cases e
        subst hcn
        -- region 11  columns.go:135
        refine awp_r [1, 5, 6, 12, 21, 22, 23] (by rfl) ?_
        simp (decide := true) only [ev, putD, Slots.put, Slots.get, if_true, if_false, true_and, ↓ap_loadL, apL_mk, pLoad_agg ag73 sz73, cellsAt, List.getD_cons_zero, List.getD_cons_succ, Nat.zero_add, Nat.reduceAdd, lv_bool, lv_int, lv_str, allLive, Bool.and_true, s0]
        repeat (with_reducible refine And.intro ?_ ?_; · first | trivial | omega | (intro hg; simp only [Bool.and_eq_true, Bool.or_eq_true, Bool.not_eq_true', Bool.and_eq_false_iff, Bool.or_eq_false_iff, Bool.not_eq_false', decide_eq_true_eq, decide_eq_false_iff_not, eqNil] at hg; omega) )
        refine aOps_call (by rfl) (by rfl) (c_take w₀ B0 kx B₁ M cb mb x b2 r (fun c hc => by have := hsm.small c hc; omega) (by have := hsm.many; omega) (by omega) (hsl.2 rfl).1 (hsl.2 rfl).2.1 (by have := (hsl.2 rfl).2.2; omega)) fun x11q1 h11q1 hx11q1 => ?_
        obtain ⟨ex, B', M', cb', mb', rfl, i2, s2, m2⟩ := hx11q1
        obtain ⟨fz, hfz⟩ : ∃ fz, fz = (takeE x r).2 := ⟨_, rfl⟩
        rw [← hfz] at ex
        subst ex
        have hM8 : M' k8q10 = none := m2 _ (by rw [e1]; simp) (ri.subM.none hB8)
        obtain ⟨c1, iz⟩ := i2.put (s2 _ _ e1) (ri.sub.none hB8) hM8 ⟨[.int .i64 fz.e, .int .i64 fz.line, .int .i64 fz.col], 0⟩
        have gz := takeE_small hsm (r := r) (by omega)
        refine aOps_store (v := .agg [.int .i64 fz.e, .int .i64 fz.line, .int .i64 fz.col]) (by rfl) (by rfl) (i2.other (s2 _ _ e1)) sz34 (by rfl) (by rfl) (by simp []) (Nat.zero_le _) (by rfl) ?_
        simp only [setAt, AVal.cells, List.set_cons_zero, List.set_cons_succ, Nat.zero_add, Nat.reduceAdd]
        rw [c1]
        have ez := AHeap.set_same B' k8q10 ⟨[.int .i64 fz.e, .int .i64 fz.line, .int .i64 fz.col], 0⟩
        simp (decide := true) only [aOps_nil, putD, Slots.put, Slots.keep, if_true, if_false, faultA]
        repeat (with_reducible refine And.intro ?_ ?_; · first | trivial | omega | (intro hg; simp only [Bool.and_eq_true, Bool.or_eq_true, Bool.not_eq_true', Bool.and_eq_false_iff, Bool.or_eq_false_iff, Bool.not_eq_false', decide_eq_true_eq, decide_eq_false_iff_not, eqNil] at hg; omega) )
        change Awp _ _ _ _ _ _ _
        -- region 12  columns.go:137
        refine awp_rseq [1, 5, 6, 12, 21, 22, 23, 51] (by rfl) fun K hK => ?_
        simp (decide := true) only [aOps_nil, ev, absV, absS, putD, Slots.put, Slots.get, Slots.keep, if_true, if_false, true_and, ↓ap_loadL, apL_mk, pLoad_agg ag34 sz34, ↓ap_build, ↓pop_buildL, bld34_, evP, List.map_nil, ↓ap_binOp, pop_binOp, isNilC_tmp, cond_false, pBinX_agg, ne34, cellsAt, List.getD_cons_zero, List.getD_cons_succ, Nat.zero_add, Nat.reduceAdd, lv_int, allLive, Bool.and_true, rd_own w₀ (iz.other ez), faultA_eq]
        repeat (with_reducible refine And.intro ?_ ?_; · first | trivial | omega | (intro hg; simp only [Bool.and_eq_true, Bool.or_eq_true, Bool.not_eq_true', Bool.and_eq_false_iff, Bool.or_eq_false_iff, Bool.not_eq_false', decide_eq_true_eq, decide_eq_false_iff_not, eqNil] at hg; omega) )
        apply hK; clear hK K
        refine awp_cond (b := _) rfl (fun hb4 => ?_) (fun hb4 => ?_)
        · try simp only [decide_eq_false_iff_not, Bool.not_eq_true'] at hb4
          have hres := readE_fault (text := text) (dbg := dbg) hl (by rw [← hln, ← hrl, hdrop, readL_bad hp hb3 (by rw [← hfz]; exact hb4)]) (by rw [← hfz]; exact hb4)
          rw [← hfz] at hres
          -- region 13  columns.go:138
          refine awp_dseq_tail 2 [4, 5] mixed (by kernel_rfl) (by rfl) (by rfl) fun K hK => ?_
          simp (decide := true) only [ev, absV, absS, putD, Slots.put, Slots.get, if_true, if_false, true_and, ↓ap_loadL, apL_mk, pLoad_agg ag34 sz34, ↓ap_assign, pop_assign, cellsAt, List.getD_cons_zero, List.getD_cons_succ, Nat.zero_add, Nat.reduceAdd, lv_int, allLive, Bool.and_true, rd_own w₀ (iz.other ez)]
          repeat (with_reducible refine And.intro ?_ ?_; · first | trivial | omega | (intro hg; simp only [Bool.and_eq_true, Bool.or_eq_true, Bool.not_eq_true', Bool.and_eq_false_iff, Bool.or_eq_false_iff, Bool.not_eq_false', decide_eq_true_eq, decide_eq_false_iff_not, eqNil] at hg; omega) )
          refine aOps_store (v := .agg [.int .i64 fz.e, .int .i64 fz.line, .int .i64 fz.col]) (by rfl) (by rfl) (iz.other (iz.sub _ _ er)) sz34 (by rfl) (by rfl) (by simp []) (Nat.zero_le _) (by rfl) ?_
          simp only [setAt, AVal.cells, List.set_cons_zero, List.set_cons_succ, Nat.zero_add, Nat.reduceAdd]
          simp (decide := true) only [aOps_nil, putD, Slots.keep, if_true, if_false]
          repeat (with_reducible refine And.intro ?_ ?_; · first | trivial | omega | (intro hg; simp only [Bool.and_eq_true, Bool.or_eq_true, Bool.not_eq_true', Bool.and_eq_false_iff, Bool.or_eq_false_iff, Bool.not_eq_false', decide_eq_true_eq, decide_eq_false_iff_not, eqNil] at hg; omega) )
          apply hK; clear hK K
          refine awp_ret ?_
          try simp only [thenA_ret, inBlockA_ret, noGotoA_ret]
          refine retA_ret h (Sub.trans_set (hs0.trans iz.above) hr) (?_) ?_
          · simp (decide := true) only [resPre, resV_tmp, resV_cell, Slots.get, if_true, if_false, and_true, resV_tmp, resV_cell, pLoad_agg ag34 sz34, rd_set, cellsAt, List.getD_cons_zero, List.getD_cons_succ, Nat.zero_add, Nat.reduceAdd, lv_int, allLive, Bool.and_true, cellsAt, List.getD_cons_zero, List.getD_cons_succ, Nat.zero_add, Nat.reduceAdd, lv_int, allLive, Bool.and_true]
          
          simp (decide := true) only [Slots.get, if_true, if_false, resOfG_two, resV_tmp, resV_cell, pLoad_agg ag34 sz34, rd_set, cellsAt, List.getD_cons_zero, List.getD_cons_succ, Nat.zero_add, Nat.reduceAdd, lv_int, allLive, Bool.and_true, cellsAt, List.getD_cons_zero, List.getD_cons_succ, Nat.zero_add, Nat.reduceAdd, lv_int, allLive, Bool.and_true]
          exact ⟨.nilSlice, by rw [hres]; rfl, by rw [hres]; exact ⟨[], rfl, .nil, by simp⟩, Sub.refl _⟩
        · try simp only [decide_eq_true_eq, Bool.not_eq_false'] at hb4
          have lz : readL dbg (lines.drop (i + 1)) (((i + 1 : Nat) : Int) + 1) (takeE x r).1 = readL dbg lines 1 .start := by
            rw [← hrl, hdrop, readL_take hp hb3 (by rw [← hfz]; exact hb4)]
            rfl
          refine awp_skip ?_
          change Awp _ _ _ _ _ _ _
          -- region 14  columns.go:129
          refine awp_r [1, 5, 6, 21, 22, 23] (by rfl) ?_
          simp (decide := true) only [aOps_nil, ev, absV, absS, putD, Slots.put, Slots.get, Slots.keep, if_true, if_false, true_and, ↓ap_binOp, pop_binOp, isNilC_int, cond_false, pBinX_int, pI_add, ↓ap_move, pop_move]
          try simp (disch := omega) only [wrap_i64]
          repeat (with_reducible refine And.intro ?_ ?_; · first | trivial | omega | (intro hg; simp only [Bool.and_eq_true, Bool.or_eq_true, Bool.not_eq_true', Bool.and_eq_false_iff, Bool.or_eq_false_iff, Bool.not_eq_false', decide_eq_true_eq, decide_eq_false_iff_not, eqNil] at hg; omega) )
          try simp only [thenA_normal]
          exact ⟨⟨i + 1, _, _, _, _, _⟩, rfl, Sub.refl _, ⟨iz, by simp only; omega, gz, lz⟩, by simp only; omega⟩
      · try simp only [decide_eq_false_iff_not] at hb3
        have iz := b2
        have ez := e1
        obtain ⟨fz, hfz⟩ : ∃ fz, fz = f := ⟨_, rfl⟩
        subst hfz
        refine awp_skip ?_
        change Awp _ _ _ _ _ _ _
        -- region 12  columns.go:137
        refine awp_rseq [1, 5, 6, 12, 21, 22, 23, 51] (by rfl) fun K hK => ?_
        simp (decide := true) only [aOps_nil, ev, absV, absS, putD, Slots.put, Slots.get, Slots.keep, if_true, if_false, true_and, ↓ap_loadL, apL_mk, pLoad_agg ag34 sz34, ↓ap_build, ↓pop_buildL, bld34_, evP, List.map_nil, ↓ap_binOp, pop_binOp, isNilC_tmp, cond_false, pBinX_agg, ne34, cellsAt, List.getD_cons_zero, List.getD_cons_succ, Nat.zero_add, Nat.reduceAdd, lv_int, allLive, Bool.and_true, s1, faultA_eq]
        repeat (with_reducible refine And.intro ?_ ?_; · first | trivial | omega | (intro hg; simp only [Bool.and_eq_true, Bool.or_eq_true, Bool.not_eq_true', Bool.and_eq_false_iff, Bool.or_eq_false_iff, Bool.not_eq_false', decide_eq_true_eq, decide_eq_false_iff_not, eqNil] at hg; omega) )
        apply hK; clear hK K
        refine awp_cond (b := _) rfl (fun hb5 => ?_) (fun hb5 => ?_)
        · try simp only [decide_eq_false_iff_not, Bool.not_eq_true'] at hb5
          have hres := readE_fault (text := text) (dbg := dbg) hl (by rw [← hln, ← hrl, hdrop, readL_fault hp hb3]) hb3
          -- region 13  columns.go:138
          refine awp_dseq_tail 2 [4, 5] mixed (by kernel_rfl) (by rfl) (by rfl) fun K hK => ?_
          simp (decide := true) only [ev, absV, absS, putD, Slots.put, Slots.get, if_true, if_false, true_and, ↓ap_loadL, apL_mk, pLoad_agg ag34 sz34, ↓ap_assign, pop_assign, cellsAt, List.getD_cons_zero, List.getD_cons_succ, Nat.zero_add, Nat.reduceAdd, lv_int, allLive, Bool.and_true, s1]
          repeat (with_reducible refine And.intro ?_ ?_; · first | trivial | omega | (intro hg; simp only [Bool.and_eq_true, Bool.or_eq_true, Bool.not_eq_true', Bool.and_eq_false_iff, Bool.or_eq_false_iff, Bool.not_eq_false', decide_eq_true_eq, decide_eq_false_iff_not, eqNil] at hg; omega) )
          refine aOps_store (v := .agg [.int .i64 fz.e, .int .i64 fz.line, .int .i64 fz.col]) (by rfl) (by rfl) (iz.other (iz.sub _ _ er)) sz34 (by rfl) (by rfl) (by simp []) (Nat.zero_le _) (by rfl) ?_
          simp only [setAt, AVal.cells, List.set_cons_zero, List.set_cons_succ, Nat.zero_add, Nat.reduceAdd]
          simp (decide := true) only [aOps_nil, putD, Slots.keep, if_true, if_false]
          repeat (with_reducible refine And.intro ?_ ?_; · first | trivial | omega | (intro hg; simp only [Bool.and_eq_true, Bool.or_eq_true, Bool.not_eq_true', Bool.and_eq_false_iff, Bool.or_eq_false_iff, Bool.not_eq_false', decide_eq_true_eq, decide_eq_false_iff_not, eqNil] at hg; omega) )
          apply hK; clear hK K
          refine awp_ret ?_
          try simp only [thenA_ret, inBlockA_ret, noGotoA_ret]
          refine retA_ret h (Sub.trans_set (hs0.trans iz.above) hr) (?_) ?_
          · simp (decide := true) only [resPre, resV_tmp, resV_cell, Slots.get, if_true, if_false, and_true, resV_tmp, resV_cell, pLoad_agg ag34 sz34, rd_set, cellsAt, List.getD_cons_zero, List.getD_cons_succ, Nat.zero_add, Nat.reduceAdd, lv_int, allLive, Bool.and_true, cellsAt, List.getD_cons_zero, List.getD_cons_succ, Nat.zero_add, Nat.reduceAdd, lv_int, allLive, Bool.and_true]
          
          simp (decide := true) only [Slots.get, if_true, if_false, resOfG_two, resV_tmp, resV_cell, pLoad_agg ag34 sz34, rd_set, cellsAt, List.getD_cons_zero, List.getD_cons_succ, Nat.zero_add, Nat.reduceAdd, lv_int, allLive, Bool.and_true, cellsAt, List.getD_cons_zero, List.getD_cons_succ, Nat.zero_add, Nat.reduceAdd, lv_int, allLive, Bool.and_true]
          exact ⟨.nilSlice, by rw [hres]; rfl, by rw [hres]; exact ⟨[], rfl, .nil, by simp⟩, Sub.refl _⟩
        · try simp only [decide_eq_true_eq, Bool.not_eq_false'] at hb5
          exact absurd hb5 hb3
  · try simp only [decide_eq_false_iff_not] at hb1
    obtain rfl : i = lines.length := by omega
    have hdone : readL dbg (splitNL (trimNL text)) 1 .start = (x, okF) := by
      rw [← hln, ← hrl, List.drop_length]
      rfl
    refine awp_exit ?_
    change Awp _ _ _ _ _ _ _
    refine Awp.keep [5, 6] ?_
    exact readEnd w₀ h B0 hs0 kr kx text dbg hl er hr B M cb mb x ri (by have := hsm.many; omega) hdone

theorem readE_long {text : Str} {dbg : Bool} (hl : 1048576 < text.length) : readE text dbg = ([], ⟨3, 0, 0⟩) := by
  unfold readE
  rw [if_pos hl]
theorem c_Read (w₀ : World) (hm : MaxL w₀) (h : AHeap) (text : Str) (dbg : Bool) (hl : text.length ≤ 9223372036854775807) : ACall Tryd.prog w₀ 11 [.str text, .bool dbg] h (ReadR w₀ h text dbg) := by
  refine acall_intro (n := 82) (rs := [.tmp 4, .cell 5 34]) Tryd.func11 rfl rfl rfl rfl (Nat.le_of_ble_eq_true rfl) ?_
  simp only [initSlots]
  -- region 0  columns.go:122
  refine awp_rseq [0, 1, 5] (by rfl) fun K hK => ?_
  simp (decide := true) only [ev, absV, absS, putD, Slots.put, if_false, true_and, ↓ap_assign, pop_assign, Nat.zero_add]
  repeat (with_reducible refine And.intro ?_ ?_; · first | trivial | omega | (intro hg; simp only [Bool.and_eq_true, Bool.or_eq_true, Bool.not_eq_true', Bool.and_eq_false_iff, Bool.or_eq_false_iff, Bool.not_eq_false', decide_eq_true_eq, decide_eq_false_iff_not, eqNil] at hg; omega) )
  refine aOps_alloc ze34 (cs := [.int .i64 0, .int .i64 0, .int .i64 0]) (by rfl) fun k0q1 hk0q1 => ?_
  try have hf_0q1 : h k0q1 = none := by first | assumption | (simp only [AHeap.set_none] at hk0q1; simp only [hk0q1])
  simp (decide := true) only [aOps_nil, putD, Slots.put, Slots.keep, if_true, if_false]
  repeat (with_reducible refine And.intro ?_ ?_; · first | trivial | omega | (intro hg; simp only [Bool.and_eq_true, Bool.or_eq_true, Bool.not_eq_true', Bool.and_eq_false_iff, Bool.or_eq_false_iff, Bool.not_eq_false', decide_eq_true_eq, decide_eq_false_iff_not, eqNil] at hg; omega) )
  apply hK; clear hK K
  refine awp_scope ?_
  refine awp_seq ?_
  -- region 1  columns.go:123
  refine awp_rseq [0, 1, 5, 16] (by rfl) fun K hK => ?_
  simp (decide := true) only [aOps_nil, ev, absV, absS, putD, Slots.put, Slots.get, Slots.keep, if_true, if_false, true_and, ↓ap_move, pop_move, ↓ap_len, pop_len, pLen_str Tryd.underlying9, ↓ap_binOp, pop_binOp, isNilC_int, cond_false, pBinX_int, pI_gtr]
  repeat (with_reducible refine And.intro ?_ ?_; · first | trivial | omega | (intro hg; simp only [Bool.and_eq_true, Bool.or_eq_true, Bool.not_eq_true', Bool.and_eq_false_iff, Bool.or_eq_false_iff, Bool.not_eq_false', decide_eq_true_eq, decide_eq_false_iff_not, eqNil] at hg; omega) )
  apply hK; clear hK K
  refine awp_cond (b := _) rfl (fun hb1 => ?_) (fun hb1 => ?_)
  · try simp only [decide_eq_true_eq] at hb1
    -- region 2  columns.go:124
    refine awp_rseq [4, 5] (by rfl) fun K hK => ?_
    simp (decide := true) only [ev, absV, absS, putD, Slots.put, Slots.get, if_true, if_false, true_and, ↓ap_build, ↓pop_buildL, bld34_0, evP, List.map_cons, List.map_nil, ↓ap_assign, pop_assign]
    repeat (with_reducible refine And.intro ?_ ?_; · first | trivial | omega | (intro hg; simp only [Bool.and_eq_true, Bool.or_eq_true, Bool.not_eq_true', Bool.and_eq_false_iff, Bool.or_eq_false_iff, Bool.not_eq_false', decide_eq_true_eq, decide_eq_false_iff_not, eqNil] at hg; omega) )
    refine aOps_store (by rfl) (by rfl) (by repeat (first | exact AHeap.set_same _ _ _ | assumption | refine (AHeap.set_ne _ _ (by first | assumption | exact Ne.symm (by assumption))).trans ?_)) sz34 (by rfl) (by rfl) (by first | exact Nat.le_refl _ | decide | (simp; done) | (simp; omega)) (Nat.zero_le _) (by rfl) ?_
    simp only [AHeap.set_set, AVal.cells]
    simp (decide := true) only [aOps_nil, ev, putD, Slots.get, Slots.keep, if_true, if_false, setAt, List.set_cons_zero, List.set_cons_succ, Nat.zero_add, Nat.reduceAdd]
    repeat (with_reducible refine And.intro ?_ ?_; · first | trivial | omega | (intro hg; simp only [Bool.and_eq_true, Bool.or_eq_true, Bool.not_eq_true', Bool.and_eq_false_iff, Bool.or_eq_false_iff, Bool.not_eq_false', decide_eq_true_eq, decide_eq_false_iff_not, eqNil] at hg; omega) )
    apply hK; clear hK K
    refine awp_ret ?_
    try simp only [thenA_ret, noGotoA_ret]
    refine retA_ret h (by repeat (first | exact Sub.refl _ | assumption | refine Sub.trans_set ?_ (by assumption))) (?_) ?_
    · simp (decide := true) only [resPre, resV_tmp, resV_cell, Slots.get, if_true, if_false, and_true, resV_tmp, resV_cell, pLoad_agg ag34 sz34, rd_set, cellsAt, List.getD_cons_zero, List.getD_cons_succ, Nat.zero_add, Nat.reduceAdd, lv_int, allLive, Bool.and_true, cellsAt, List.getD_cons_zero, List.getD_cons_succ, Nat.zero_add, Nat.reduceAdd, lv_int, allLive, Bool.and_true]
    
    simp (decide := true) only [Slots.get, if_true, if_false, resOfG_two, resV_tmp, resV_cell, pLoad_agg ag34 sz34, rd_set, cellsAt, List.getD_cons_zero, List.getD_cons_succ, Nat.zero_add, Nat.reduceAdd, lv_int, allLive, Bool.and_true, cellsAt, List.getD_cons_zero, List.getD_cons_succ, Nat.zero_add, Nat.reduceAdd, lv_int, allLive, Bool.and_true]
    have hb : 1048576 < text.length := by omega
    exact ⟨.nilSlice, by rw [readE_long hb]; rfl, by rw [readE_long hb]; exact ⟨[], rfl, .nil, by simp⟩, Sub.refl _⟩
  · try simp only [decide_eq_false_iff_not] at hb1
    refine awp_skip ?_
    change Awp _ _ _ _ _ _ _
    -- region 3  columns.go:126
    refine awp_rseq [0, 1, 5, 6] (by rfl) fun K hK => ?_
    refine aOps_alloc ze71 (cs := [.nilSlice, .int .i64 0, .int .i64 0, .bool false]) (by rfl) fun k3q0 hk3q0 => ?_
    have ne_3q0_0q1 : k3q0 ≠ k0q1 := by simp only [AHeap.set_none] at hk3q0; simp only [hk3q0, ne_eq, not_false_eq_true]
    try have hf_3q0 : h k3q0 = none := by first | assumption | (simp only [AHeap.set_none] at hk3q0; simp only [hk3q0])
    simp (decide := true) only [aOps_nil, putD, Slots.put, Slots.keep, if_true, if_false]
    repeat (with_reducible refine And.intro ?_ ?_; · first | trivial | omega | (intro hg; simp only [Bool.and_eq_true, Bool.or_eq_true, Bool.not_eq_true', Bool.and_eq_false_iff, Bool.or_eq_false_iff, Bool.not_eq_false', decide_eq_true_eq, decide_eq_false_iff_not, eqNil] at hg; omega) )
    apply hK; clear hK K
    -- region 4  columns.go:127
    refine awp_rseq [1, 5, 6, 7] (by rfl) fun K hK => ?_
    simp (decide := true) only [ev, putD, Slots.put, Slots.get, if_true, if_false, true_and, ↓ap_move, pop_move]
    repeat (with_reducible refine And.intro ?_ ?_; · first | trivial | omega | (intro hg; simp only [Bool.and_eq_true, Bool.or_eq_true, Bool.not_eq_true', Bool.and_eq_false_iff, Bool.or_eq_false_iff, Bool.not_eq_false', decide_eq_true_eq, decide_eq_false_iff_not, eqNil] at hg; omega) )
    refine aOps_callV (V := .str (trimNL text)) (by rfl) (by rfl) (c_trimNL w₀ _ text hl) ?_
    refine aOps_call (by rfl) (by rfl) (c_split w₀ hm _ (trimNL text) (by have := trimNL_len text; omega)) fun x4q2 h4q2 hx4q2 => ?_
    obtain ⟨ks, hks, rfl, rfl⟩ := hx4q2
    simp (decide := true) only [aOps_nil, ev, putD, Slots.put, Slots.get, Slots.keep, if_true, if_false, true_and, ↓ap_assign, pop_assign]
    repeat (with_reducible refine And.intro ?_ ?_; · first | trivial | omega | (intro hg; simp only [Bool.and_eq_true, Bool.or_eq_true, Bool.not_eq_true', Bool.and_eq_false_iff, Bool.or_eq_false_iff, Bool.not_eq_false', decide_eq_true_eq, decide_eq_false_iff_not, eqNil] at hg; omega) )
    apply hK; clear hK K
    refine awp_seq ?_
    refine awp_label ?_
    change Awp _ _ _ _ _ _ _
    obtain ⟨nks, _, hks2⟩ := (AHeap.set_none _ _ _ _).mp hks
    obtain ⟨nkr, _, hks3⟩ := (AHeap.set_none _ _ _ _).mp hks2
    have nkx : k3q0 ≠ k0q1 := ((AHeap.set_none _ _ _ _).mp hk3q0).1
    have hcomm : ((h.set k0q1 ⟨[.int .i64 0, .int .i64 0, .int .i64 0], 0⟩).set k3q0 ⟨[.nilSlice, .int .i64 0, .int .i64 0, .bool false], 0⟩).set ks ⟨(splitNL (trimNL text)).map AVal.str, 0⟩ = rdH k3q0 ((h.set k0q1 ⟨[.int .i64 0, .int .i64 0, .int .i64 0], 0⟩).set ks ⟨(splitNL (trimNL text)).map AVal.str, 0⟩) none none .start := AHeap.set_comm _ _ _ nks
    rw [hcomm]
    exact readLoop w₀ hm h _ (by repeat (first | exact Sub.refl _ | assumption | refine Sub.set_both ?_ _ _ | refine Sub.trans_set ?_ (by repeat (first | assumption | refine (AHeap.set_ne _ _ (by first | assumption | exact Ne.symm (by assumption))).trans ?_)))) k0q1 k3q0 ks text dbg (splitNL (trimNL text)) rfl (by omega) ((AHeap.set_ne _ _ nkr.symm).trans (AHeap.set_same _ _ _)) hk0q1 (AHeap.set_same _ _ _) ⟨Sub.refl _, (fun _ _ e => by cases e), (AHeap.set_ne _ _ nks.symm).trans hk3q0, trivial, trivial, .inl ⟨rfl, rfl, rfl⟩⟩
end Go.Proofs.YtikpnhdjjabdmaaDoor

/-
  Contracts: space of the package columns; Printable of the package chars.
  Conditions: none.
-/
namespace Go.Proofs.YtikpnhdjjabdmaaDoor
open Go.AM
open Go.Proofs
open Go.Col
set_option maxRecDepth 100000

theorem c_space1 (w₀ : World) (h : AHeap) (k3 k5 k7 : Nat) (s : Str) (q : Bool) (i : Nat) (f : Nat) (h3 : h k3 = some ⟨[.str s], 0⟩) (h5 : h k5 = some ⟨[.bool q], 0⟩) (h7 : h k7 = some ⟨[.int .i64 f], 0⟩) (n53 : k5 ≠ k3) (n73 : k7 ≠ k3) (n75 : k7 ≠ k5) (hi : i < s.length) :
    ACall Tryd.prog w₀ 67 [.int .i64 i, .ptr (.own k3) 0, .ptr (.own k5) 0, .ptr (.own k7) 0] h
      (fun v h' => v = .tuple [] ∧ h' = (h.set k5 ⟨[.bool (if s.getD i 0 = 34 then !q else q)], 0⟩).set k7 ⟨[.int .i64 (if s.getD i 0 = 32 ∧ (if s.getD i 0 = 34 then !q else q) = false ∧ 0 < i then (i : Nat) else f : Nat)], 0⟩) := by
  have r3 := fun o => rd_own w₀ h3 o
  have r5 := fun o => rd_own w₀ h5 o
  have q3 : (h.set k5 ⟨[.bool (!q)], 0⟩) k3 = some ⟨[.str s], 0⟩ := (AHeap.set_ne _ _ n53.symm).trans h3
  have r3' := fun o => rd_own w₀ q3 o
  have hself5 := set_same_self h5
  have h7' := (AHeap.set_ne h ⟨[.bool (!q)], 0⟩ n75).trans h7
  have hself7 := set_same_self h7
  have hself7' := set_same_self h7'
  refine acall_intro (n := 24) (rs := []) Tryd.func67 rfl rfl rfl rfl (Nat.le_of_ble_eq_true rfl) ?_
  simp only [initSlots]
  refine awp_seq ?_
  -- region 0  columns.go:196
  refine awp_rseq [0, 1, 2, 3, 8] (by rfl) fun K hK => ?_
  simp (decide := true) only [aOps_nil, ev, absV, absS, putD, Slots.put, Slots.get, Slots.keep, if_true, if_false, true_and, ↓ap_loadL, apL_mk, pLoad_one ag9, ↓ap_move, pop_move, ↓ap_index, pop_index, pIndex_str Tryd.underlying9, ↓ap_binOp, pop_binOp, isNilC_int, cond_false, pBinX_int, pI_eql, List.getD_cons_zero, Nat.zero_add, Nat.reduceAdd, lv_str, r3, Int.toNat_natCast]
  repeat (with_reducible refine And.intro ?_ ?_; · first | trivial | omega | (intro hg; simp only [Bool.and_eq_true, Bool.or_eq_true, Bool.not_eq_true', Bool.and_eq_false_iff, Bool.or_eq_false_iff, Bool.not_eq_false', decide_eq_true_eq, decide_eq_false_iff_not, eqNil] at hg; omega) )
  apply hK; clear hK K
  refine awp_cond (b := _) rfl (fun hb1 => ?_) (fun hb1 => ?_)
  · try simp only [decide_eq_true_eq] at hb1
    have e34 : s.getD i 0 = 34 := (u8_eq _ 34).mp hb1
    -- region 1  columns.go:197
    refine awp_r [0, 1, 2, 3] (by rfl) ?_
    simp (decide := true) only [ev, putD, Slots.put, Slots.get, if_true, if_false, true_and, ↓ap_loadL, apL_mk, pLoad_one ag4, ↓ap_unOp, pop_unOp, pU_not, List.getD_cons_zero, lv_bool, r5]
    try simp (disch := omega) only [wrap_i64, wrap_u8]
    repeat (with_reducible refine And.intro ?_ ?_; · first | trivial | omega | (intro hg; simp only [Bool.and_eq_true, Bool.or_eq_true, Bool.not_eq_true', Bool.and_eq_false_iff, Bool.or_eq_false_iff, Bool.not_eq_false', decide_eq_true_eq, decide_eq_false_iff_not, eqNil] at hg; omega) )
    refine aOps_store (v := .bool (!q)) (by rfl) (by rfl) h5 sz4 (by rfl) (by rfl) (by simp) (Nat.zero_le _) (by rfl) ?_
    simp only [setAt, AVal.cells, List.set_cons_zero]
    simp (decide := true) only [aOps_nil, putD, Slots.keep, if_true, if_false]
    repeat (with_reducible refine And.intro ?_ ?_; · first | trivial | omega | (intro hg; simp only [Bool.and_eq_true, Bool.or_eq_true, Bool.not_eq_true', Bool.and_eq_false_iff, Bool.or_eq_false_iff, Bool.not_eq_false', decide_eq_true_eq, decide_eq_false_iff_not, eqNil] at hg; omega) )
    change Awp _ _ _ _ _ _ _
    -- region 2  columns.go:199
    refine awp_rseq [0, 3, 22] (by rfl) fun K hK => ?_
    simp (decide := true) only [aOps_nil, ev, absV, absS, putD, Slots.put, Slots.get, Slots.keep, if_true, if_false, true_and, ↓ap_loadL, apL_mk, pLoad_one ag9, ↓ap_move, pop_move, ↓ap_index, pop_index, pIndex_str Tryd.underlying9, ↓ap_binOp, pop_binOp, isNilC_int, cond_false, pBinX_int, pI_eql, ↓ag_loadL, agQL_some, agL_mk, agP, agQ_some, nthDst, gKnown_bool, guardB_bool_true, implies_true, Bool.not_not, pLoad_one ag4, ↓ag_unOp, pop_unOp, pU_not, cv_un, cp_un, ↓ap_pick, pop_pick, pPick_bool, pickV_cond_l, pickV_and, ↓ag_move, ↓ag_binOp, cv_binl, cp_binl, pI_gtr, rd_any, List.getD_cons_zero, lv_bool, lv_str, r3', Int.toNat_natCast]
    try simp (disch := omega) only [wrap_i64, wrap_u8]
    repeat (with_reducible refine And.intro ?_ ?_; · first | trivial | omega | (intro hg; simp only [Bool.and_eq_true, Bool.or_eq_true, Bool.not_eq_true', Bool.and_eq_false_iff, Bool.or_eq_false_iff, Bool.not_eq_false', decide_eq_true_eq, decide_eq_false_iff_not, eqNil] at hg; omega) )
    apply hK; clear hK K
    refine awp_cond (b := _) rfl (fun hb2 => ?_) (fun hb2 => ?_)
    · try simp only [decide_eq_true_eq, Bool.and_eq_true] at hb2
      -- region 3  columns.go:200
      refine awp_r [] (by rfl) ?_
      simp (decide := true) only [ev, putD, Slots.put, Slots.get, if_true, if_false, true_and, ↓ap_move, pop_move]
      repeat (with_reducible refine And.intro ?_ ?_; · first | trivial | omega | (intro hg; simp only [Bool.and_eq_true, Bool.or_eq_true, Bool.not_eq_true', Bool.and_eq_false_iff, Bool.or_eq_false_iff, Bool.not_eq_false', decide_eq_true_eq, decide_eq_false_iff_not, eqNil] at hg; omega) )
      skip
      first
      | refine aOps_store (v := .int .i64 i) (by rfl) (by rfl) h7 sz3 (by rfl) (by rfl) (by simp) (Nat.zero_le _) (by rfl) ?_
      | refine aOps_store (v := .int .i64 i) (by rfl) (by rfl) h7' sz3 (by rfl) (by rfl) (by simp) (Nat.zero_le _) (by rfl) ?_
      simp only [setAt, AVal.cells, List.set_cons_zero]
      simp (decide := true) only [aOps_nil, putD, Slots.keep, if_false]
      repeat (with_reducible refine And.intro ?_ ?_; · first | trivial | omega | (intro hg; simp only [Bool.and_eq_true, Bool.or_eq_true, Bool.not_eq_true', Bool.and_eq_false_iff, Bool.or_eq_false_iff, Bool.not_eq_false', decide_eq_true_eq, decide_eq_false_iff_not, eqNil] at hg; omega) )
      try simp only [thenA_ret, inBlockA_ret]
      refine retA_end _ (Sub.refl _) (resPre_nil) ?_
      simp (decide := true) only [true_and, resOf_nil]
      rw [if_pos e34, if_pos ⟨(u8_eq _ 32).mp hb2.1.1, by rw [hb2.1.2]; rfl, by omega⟩]
    · try simp only [decide_eq_false_iff_not, Bool.and_eq_false_iff] at hb2
      refine awp_skip ?_
      try simp only [thenA_ret, inBlockA_ret]
      refine retA_end _ (Sub.refl _) (resPre_nil) ?_
      simp (decide := true) only [true_and, resOf_nil]
      rw [if_pos e34, if_neg, hself7']
      rintro ⟨a, b, c⟩
      rcases hb2 with (e | e) | e
      · exact e ((u8_eq _ 32).mpr a)
      · rw [e] at b; cases b
      · omega
  · try simp only [decide_eq_false_iff_not] at hb1
    have e34 : ¬ s.getD i 0 = 34 := fun e => hb1 ((u8_eq _ 34).mpr e)
    refine awp_skip ?_
    change Awp _ _ _ _ _ _ _
    -- region 2  columns.go:199
    refine awp_rseq [0, 3, 22] (by rfl) fun K hK => ?_
    simp (decide := true) only [aOps_nil, ev, absV, absS, putD, Slots.put, Slots.get, Slots.keep, if_true, if_false, true_and, ↓ap_loadL, apL_mk, pLoad_one ag9, ↓ap_move, pop_move, ↓ap_index, pop_index, pIndex_str Tryd.underlying9, ↓ap_binOp, pop_binOp, isNilC_int, cond_false, pBinX_int, pI_eql, ↓ag_loadL, agQL_some, agL_mk, agP, agQ_some, nthDst, gKnown_bool, guardB_bool_true, implies_true, pLoad_one ag4, ↓ag_unOp, pop_unOp, pU_not, cv_un, cp_un, ↓ap_pick, pop_pick, pPick_bool, pickV_cond_l, pickV_and, ↓ag_move, ↓ag_binOp, cv_binl, cp_binl, pI_gtr, List.getD_cons_zero, lv_bool, lv_str, r3, r5, Int.toNat_natCast]
    try simp (disch := omega) only [wrap_i64, wrap_u8]
    repeat (with_reducible refine And.intro ?_ ?_; · first | trivial | omega | (intro hg; simp only [Bool.and_eq_true, Bool.or_eq_true, Bool.not_eq_true', Bool.and_eq_false_iff, Bool.or_eq_false_iff, Bool.not_eq_false', decide_eq_true_eq, decide_eq_false_iff_not, eqNil] at hg; omega) )
    apply hK; clear hK K
    refine awp_cond (b := _) rfl (fun hb3 => ?_) (fun hb3 => ?_)
    · try simp only [decide_eq_true_eq, Bool.not_eq_true', Bool.and_eq_true] at hb3
      -- region 3  columns.go:200
      refine awp_r [] (by rfl) ?_
      simp (decide := true) only [ev, putD, Slots.put, Slots.get, if_true, if_false, true_and, ↓ap_move, pop_move]
      repeat (with_reducible refine And.intro ?_ ?_; · first | trivial | omega | (intro hg; simp only [Bool.and_eq_true, Bool.or_eq_true, Bool.not_eq_true', Bool.and_eq_false_iff, Bool.or_eq_false_iff, Bool.not_eq_false', decide_eq_true_eq, decide_eq_false_iff_not, eqNil] at hg; omega) )
      skip
      first
      | refine aOps_store (v := .int .i64 i) (by rfl) (by rfl) h7 sz3 (by rfl) (by rfl) (by simp) (Nat.zero_le _) (by rfl) ?_
      | refine aOps_store (v := .int .i64 i) (by rfl) (by rfl) h7' sz3 (by rfl) (by rfl) (by simp) (Nat.zero_le _) (by rfl) ?_
      simp only [setAt, AVal.cells, List.set_cons_zero]
      simp (decide := true) only [aOps_nil, putD, Slots.keep, if_false]
      repeat (with_reducible refine And.intro ?_ ?_; · first | trivial | omega | (intro hg; simp only [Bool.and_eq_true, Bool.or_eq_true, Bool.not_eq_true', Bool.and_eq_false_iff, Bool.or_eq_false_iff, Bool.not_eq_false', decide_eq_true_eq, decide_eq_false_iff_not, eqNil] at hg; omega) )
      try simp only [thenA_ret, inBlockA_ret]
      refine retA_end _ (Sub.refl _) (resPre_nil) ?_
      simp (decide := true) only [true_and, resOf_nil]
      rw [if_neg e34, if_pos ⟨(u8_eq _ 32).mp hb3.1.1, hb3.1.2, by omega⟩, hself5]
    · try simp only [decide_eq_false_iff_not, Bool.not_eq_false', Bool.and_eq_false_iff] at hb3
      refine awp_skip ?_
      try simp only [thenA_ret, inBlockA_ret]
      refine retA_end _ (Sub.refl _) (resPre_nil) ?_
      simp (decide := true) only [true_and, resOf_nil]
      rw [if_neg e34, if_neg, hself5, hself7]
      rintro ⟨a, b, c⟩
      rcases hb3 with (e | e) | e
      · exact e ((u8_eq _ 32).mpr a)
      · rw [e] at b; cases b
      · omega

theorem spaceGo_step {s : Str} {i n : Nat} {q : Bool} {f : Nat} (hi : i < s.length) (hn : i ≤ n) : spaceGo (s.drop i) i n q f = spaceGo (s.drop (i + 1)) (i + 1) n (if s.getD i 0 = 34 then !q else q) (if s.getD i 0 = 32 ∧ (if s.getD i 0 = 34 then !q else q) = false ∧ 0 < i then i else f) := by
  rw [List.drop_eq_getElem_cons hi, spaceGo, if_neg (by omega)]
  simp only [List.getD, List.getElem?_eq_getElem hi, Option.getD_some]
theorem spaceGo_stop {s : Str} {i n : Nat} {q : Bool} {f : Nat} (h : n < i ∨ s.length ≤ i) : spaceGo (s.drop i) i n q f = f := by
  rcases h with h | h
  · cases s.drop i with
    | nil => rfl
    | cons b l => rw [spaceGo, if_pos h]
  · rw [List.drop_of_length_le h]
    rfl
structure SpG where
  i : Nat
  q : Bool
  f : Nat
theorem c_space (w₀ : World) (h : AHeap) (s : Str) (n : Nat) (q : Bool) (hl : s.length ≤ 4611686018427387904) (hn : n ≤ 1099511627776) : ACall Tryd.prog w₀ 48 [.str s, .int .i64 n, .bool q] h (fun v h' => v = .int .i64 (spaceE s n q) ∧ h' = h) := by
  refine acall_intro (n := 26) (rs := [.tmp 6]) Tryd.func48 rfl rfl rfl rfl (Nat.le_of_ble_eq_true rfl) ?_
  simp only [initSlots]
  -- region 0  columns.go:193
  refine awp_rseq [1, 3, 5] (by rfl) fun K hK => ?_
  refine aOps_box (by rfl) (by rfl) (by rfl) fun k0q0 hk0q0 => ?_
  try have hf_0q0 : h k0q0 = none := by first | assumption | (simp only [AHeap.set_none] at hk0q0; simp only [hk0q0])
  skip
  refine aOps_box (by rfl) (by rfl) (by rfl) fun k0q1 hk0q1 => ?_
  have ne_0q1_0q0 : k0q1 ≠ k0q0 := by simp only [AHeap.set_none] at hk0q1; simp only [hk0q1, ne_eq, not_false_eq_true]
  try have hf_0q1 : h k0q1 = none := by first | assumption | (simp only [AHeap.set_none] at hk0q1; simp only [hk0q1])
  skip
  simp (decide := true) only [aOps_nil, ev, absV, absS, putD, Slots.put, Slots.get, Slots.keep, if_true, if_false, true_and, ↓ap_assign, pop_assign, AVal.cells, Nat.zero_add, Nat.reduceAdd]
  repeat (with_reducible refine And.intro ?_ ?_; · first | trivial | omega | (intro hg; simp only [Bool.and_eq_true, Bool.or_eq_true, Bool.not_eq_true', Bool.and_eq_false_iff, Bool.or_eq_false_iff, Bool.not_eq_false', decide_eq_true_eq, decide_eq_false_iff_not, eqNil] at hg; omega) )
  apply hK; clear hK K
  -- region 1  columns.go:194
  refine awp_rseq [1, 3, 5, 7] (by rfl) fun K hK => ?_
  refine aOps_alloc ze3 (cs := [.int .i64 0]) (by rfl) fun k1q0 hk1q0 => ?_
  have ne_1q0_0q0 : k1q0 ≠ k0q0 := by simp only [AHeap.set_none] at hk1q0; simp only [hk1q0, ne_eq, not_false_eq_true]
  have ne_1q0_0q1 : k1q0 ≠ k0q1 := by simp only [AHeap.set_none] at hk1q0; simp only [hk1q0, ne_eq, not_false_eq_true]
  try have hf_1q0 : h k1q0 = none := by first | assumption | (simp only [AHeap.set_none] at hk1q0; simp only [hk1q0])
  refine aOps_store (by rfl) (by rfl) (by repeat (first | exact AHeap.set_same _ _ _ | assumption | refine (AHeap.set_ne _ _ (by first | assumption | exact Ne.symm (by assumption))).trans ?_)) sz3 (by rfl) (by rfl) (by first | exact Nat.le_refl _ | decide | (simp; done) | (simp; omega)) (Nat.zero_le _) (by rfl) ?_
  simp only [AHeap.set_set, AVal.cells]
  simp (decide := true) only [aOps_nil, ev, absV, absS, putD, Slots.put, Slots.keep, if_true, if_false, setAt, List.set_cons_zero]
  repeat (with_reducible refine And.intro ?_ ?_; · first | trivial | omega | (intro hg; simp only [Bool.and_eq_true, Bool.or_eq_true, Bool.not_eq_true', Bool.and_eq_false_iff, Bool.or_eq_false_iff, Bool.not_eq_false', decide_eq_true_eq, decide_eq_false_iff_not, eqNil] at hg; omega) )
  apply hK; clear hK K
  -- region 2  columns.go:195
  refine awp_rseq [1, 3, 7, 8] (by rfl) fun K hK => ?_
  simp (decide := true) only [aOps_nil, ev, putD, Slots.put, Slots.get, Slots.keep, if_true, if_false, true_and, ↓ap_makeFunc, pop_makeFunc, evs, List.map_cons, List.map_nil, ↓ap_assign, pop_assign]
  repeat (with_reducible refine And.intro ?_ ?_; · first | trivial | omega | (intro hg; simp only [Bool.and_eq_true, Bool.or_eq_true, Bool.not_eq_true', Bool.and_eq_false_iff, Bool.or_eq_false_iff, Bool.not_eq_false', decide_eq_true_eq, decide_eq_false_iff_not, eqNil] at hg; omega) )
  apply hK; clear hK K
  refine awp_seq ?_
  -- region 3  columns.go:203
  refine awp_rseq [1, 3, 7, 8, 9] (by rfl) fun K hK => ?_
  simp (decide := true) only [aOps_nil, ev, absV, absS, putD, Slots.put, Slots.keep, if_true, if_false, true_and, ↓ap_assign, pop_assign]
  repeat (with_reducible refine And.intro ?_ ?_; · first | trivial | omega | (intro hg; simp only [Bool.and_eq_true, Bool.or_eq_true, Bool.not_eq_true', Bool.and_eq_false_iff, Bool.or_eq_false_iff, Bool.not_eq_false', decide_eq_true_eq, decide_eq_false_iff_not, eqNil] at hg; omega) )
  apply hK; clear hK K
  refine awp_block ?_
  refine awp_loopG [1, 3, 7, 8, 9] (fun g : SpG => [(1, .int .i64 n), (3, .ptr (.own k0q0) 0), (7, .ptr (.own k1q0) 0), (8, .func 67 [.ptr (.own k0q0) 0, .ptr (.own k0q1) 0, .ptr (.own k1q0) 0]), (9, .int .i64 g.i)]) (fun g : SpG => ((h.set k0q0 ⟨[.str s], 0⟩).set k0q1 ⟨[.bool g.q], 0⟩).set k1q0 ⟨[.int .i64 g.f], 0⟩) (fun g : SpG => g.i ≤ s.length ∧ g.i ≤ n + 1 ∧ spaceGo (s.drop g.i) g.i n g.q g.f = spaceE s n q) (fun g : SpG => s.length - g.i) ⟨0, q, 0⟩ (by rfl) (Sub.refl _) ⟨Nat.zero_le _, Nat.zero_le _, rfl⟩ ?_
  rintro ⟨i, q', f⟩ ⟨hi, hin, hg⟩
  simp only at hi hin hg ⊢
  refine awp_seq ?_
  -- region 4  columns.go:203
  refine awp_rseq [1, 3, 7, 8, 9, 19] (by rfl) fun K hK => ?_
  simp (decide := true) only [aOps_nil, ev, absV, absS, putD, Slots.put, Slots.get, Slots.keep, if_true, if_false, true_and, ↓ap_move, pop_move, ↓ap_binOp, pop_binOp, isNilC_tmp, cond_false, pBinX_int, pI_leq, ↓ag_move, agP, agQ_some, nthDst, gKnown_bool, guardB_bool_true, implies_true, ↓ag_loadL, agQL_some, agL_mk, pLoad_one ag9, ↓ag_len, pop_len, pLen_str Tryd.underlying9, cv_len, cp_len, ↓ag_binOp, cv_binl, cv_binr, cp_binl, cp_binr, pI_lss, ↓ap_pick, pop_pick, pPick_bool, pickV_cond_l, pickV_and, rd_ne', ne_eq, not_false_eq_true, ne_0q1_0q0.symm, ne_1q0_0q0.symm, rd_any, List.getD_cons_zero, lv_str]
  repeat (with_reducible refine And.intro ?_ ?_; · first | trivial | omega | (intro hg; simp only [Bool.and_eq_true, Bool.or_eq_true, Bool.not_eq_true', Bool.and_eq_false_iff, Bool.or_eq_false_iff, Bool.not_eq_false', decide_eq_true_eq, decide_eq_false_iff_not, eqNil] at hg; omega) )
  apply hK; clear hK K
  refine awp_cond (b := _) rfl (fun hb1 => ?_) (fun hb1 => ?_)
  · try simp only [decide_eq_true_eq, Bool.and_eq_true] at hb1
    have hi' : i < s.length := by omega
    refine awp_skip ?_
    change Awp _ _ _ _ _ _ _
    refine awp_seq ?_
    refine awp_block ?_
    -- region 6  columns.go:204
    refine awp_r [1, 3, 7, 8, 9] (by rfl) ?_
    simp (decide := true) only [ev, putD, Slots.put, Slots.get, if_true, if_false, true_and, ↓ap_move, pop_move]
    repeat (with_reducible refine And.intro ?_ ?_; · first | trivial | omega | (intro hg; simp only [Bool.and_eq_true, Bool.or_eq_true, Bool.not_eq_true', Bool.and_eq_false_iff, Bool.or_eq_false_iff, Bool.not_eq_false', decide_eq_true_eq, decide_eq_false_iff_not, eqNil] at hg; omega) )
    refine aOps_call (by rfl) (by rfl) (c_space1 w₀ _ k0q0 k0q1 k1q0 s q' i f (by repeat (first | exact AHeap.set_same _ _ _ | assumption | refine (AHeap.set_ne _ _ (by first | assumption | exact Ne.symm (by assumption))).trans ?_)) (by repeat (first | exact AHeap.set_same _ _ _ | assumption | refine (AHeap.set_ne _ _ (by first | assumption | exact Ne.symm (by assumption))).trans ?_)) (by repeat (first | exact AHeap.set_same _ _ _ | assumption | refine (AHeap.set_ne _ _ (by first | assumption | exact Ne.symm (by assumption))).trans ?_)) (by assumption) (by assumption) (by assumption) hi') fun x6q2 h6q2 hx6q2 => ?_
    obtain ⟨rfl, rfl⟩ := hx6q2
    simp (decide := true) only [aOps_nil, putD, Slots.put, Slots.keep, if_true, if_false]
    repeat (with_reducible refine And.intro ?_ ?_; · first | trivial | omega | (intro hg; simp only [Bool.and_eq_true, Bool.or_eq_true, Bool.not_eq_true', Bool.and_eq_false_iff, Bool.or_eq_false_iff, Bool.not_eq_false', decide_eq_true_eq, decide_eq_false_iff_not, eqNil] at hg; omega) )
    change Awp _ _ _ _ _ _ _
    -- region 5  columns.go:203
    refine awp_r [1, 3, 7, 8, 9] (by rfl) ?_
    simp (decide := true) only [aOps_nil, ev, absV, absS, putD, Slots.put, Slots.get, Slots.keep, if_true, if_false, true_and, ↓ap_move, pop_move, ↓ap_binOp, pop_binOp, isNilC_int, cond_false, pBinX_int, pI_add, ↓ap_assign, pop_assign]
    try simp (disch := omega) only [wrap_i64]
    repeat (with_reducible refine And.intro ?_ ?_; · first | trivial | omega | (intro hg; simp only [Bool.and_eq_true, Bool.or_eq_true, Bool.not_eq_true', Bool.and_eq_false_iff, Bool.or_eq_false_iff, Bool.not_eq_false', decide_eq_true_eq, decide_eq_false_iff_not, eqNil] at hg; omega) )
    try simp only [thenA_normal]
    refine ⟨⟨i + 1, _, _⟩, rfl, ?_, ⟨hi', by simp only; omega, by simp only; rw [← hg, spaceGo_step hi' (by omega)]⟩, by simp only; omega⟩
    rw [AHeap.set_comm _ _ _ ne_1q0_0q1.symm, AHeap.set_set, AHeap.set_set]
    exact Sub.refl _
  · try simp only [decide_eq_false_iff_not, Bool.and_eq_false_iff] at hb1
    refine awp_exit ?_
    change Awp _ _ _ _ _ _ _
    -- region 7  columns.go:206
    refine awp_rseq [6] (by rfl) fun K hK => ?_
    simp (decide := true) only [aOps_nil, ev, putD, Slots.put, Slots.get, Slots.keep, if_true, if_false, true_and, ↓ap_loadL, apL_mk, pLoad_one ag3, ↓ap_assign, pop_assign, rd_any, List.getD_cons_zero, lv_int]
    repeat (with_reducible refine And.intro ?_ ?_; · first | trivial | omega | (intro hg; simp only [Bool.and_eq_true, Bool.or_eq_true, Bool.not_eq_true', Bool.and_eq_false_iff, Bool.or_eq_false_iff, Bool.not_eq_false', decide_eq_true_eq, decide_eq_false_iff_not, eqNil] at hg; omega) )
    apply hK; clear hK K
    refine awp_ret ?_
    try simp only [thenA_ret, inBlockA_ret]
    refine retA_ret h (by repeat (first | exact Sub.refl _ | assumption | refine Sub.trans_set ?_ (by assumption))) (resPre_tmp (resPre_nil)) ?_
    simp (decide := true) only [Slots.get, if_true, and_true, resOf_one]
    rw [← hg, spaceGo_stop (by omega)]

/-! ### Printable -/
theorem c_prt1 (w₀ : World) (h : AHeap) (b : UInt8) : ACall Tryd.prog w₀ 46 [.int .u8 b.toNat] h (fun v h' => v = .bool (okB b) ∧ h' = h) := by
  refine acall_intro (n := 9) (rs := [.tmp 2]) Tryd.func46 rfl rfl rfl rfl (Nat.le_of_ble_eq_true rfl) ?_
  simp only [initSlots]
  -- region 0  chars.go:43
  refine awp_rseq [0] (by rfl) fun K hK => ?_
  simp (decide := true) only [aOps_nil, ev, absV, absS, putD, Slots.put, Slots.keep, if_true, if_false, true_and, ↓ap_assign, pop_assign]
  repeat (with_reducible refine And.intro ?_ ?_; · first | trivial | omega | (intro hg; simp only [Bool.and_eq_true, Bool.or_eq_true, Bool.not_eq_true', Bool.and_eq_false_iff, Bool.or_eq_false_iff, Bool.not_eq_false', decide_eq_true_eq, decide_eq_false_iff_not, eqNil] at hg; omega) )
  apply hK; clear hK K
  -- region 1  chars.go:43
  refine awp_rseq [2] (by rfl) fun K hK => ?_
  simp (decide := true) only [aOps_nil, ev, absV, absS, putD, Slots.put, Slots.get, Slots.keep, if_true, if_false, true_and, ↓ap_move, pop_move, ↓ap_binOp, pop_binOp, isNilC_int, cond_false, pBinX_int, pI_geq, ↓ag_move, agP, agQ_some, nthDst, gKnown_bool, guardB_bool_true, implies_true, ↓ag_binOp, cv_binl, cp_binl, pI_leq, ↓ap_pick, pop_pick, pPick_bool, pickV_cond_l, pickV_and, ↓ap_assign, pop_assign]
  repeat (with_reducible refine And.intro ?_ ?_; · first | trivial | omega | (intro hg; simp only [Bool.and_eq_true, Bool.or_eq_true, Bool.not_eq_true', Bool.and_eq_false_iff, Bool.or_eq_false_iff, Bool.not_eq_false', decide_eq_true_eq, decide_eq_false_iff_not, eqNil] at hg; omega) )
  apply hK; clear hK K
  refine awp_ret ?_
  try simp only [thenA_ret, inBlockA_ret]
  refine retA_ret _ (Sub.refl _) (resPre_tmp (resPre_nil)) ?_
  simp (decide := true) only [Slots.get, if_true, and_true, resOf_one]
  unfold okB
  congr 1
  rw [Bool.eq_iff_iff]
  simp only [Bool.and_eq_true, decide_eq_true_eq]
  omega
theorem c_all (w₀ : World) (h : AHeap) (s : Str) (hl : s.length ≤ 4611686018427387904) : ACall Tryd.prog w₀ 45 [.str s, .func 46 []] h (fun v h' => v = .bool (s.all okB) ∧ h' = h) := by
  refine acall_intro (n := 18) (rs := [.tmp 4]) Tryd.func45 rfl rfl rfl rfl (Nat.le_of_ble_eq_true rfl) ?_
  simp only [initSlots]
  -- region 0  chars.go:21
  refine awp_rseq [0, 1] (by rfl) fun K hK => ?_
  simp (decide := true) only [aOps_nil, ev, absV, absS, putD, Slots.put, Slots.keep, if_true, if_false, true_and, ↓ap_assign, pop_assign]
  repeat (with_reducible refine And.intro ?_ ?_; · first | trivial | omega | (intro hg; simp only [Bool.and_eq_true, Bool.or_eq_true, Bool.not_eq_true', Bool.and_eq_false_iff, Bool.or_eq_false_iff, Bool.not_eq_false', decide_eq_true_eq, decide_eq_false_iff_not, eqNil] at hg; omega) )
  apply hK; clear hK K
  refine awp_seq ?_
  -- region 1  chars.go:22
  refine awp_rseq [0, 1, 7, 8] (by rfl) fun K hK => ?_
  simp (decide := true) only [aOps_nil, ev, absV, absS, putD, Slots.put, Slots.get, Slots.keep, if_true, if_false, true_and, ↓ap_move, pop_move, ↓ap_len, pop_len, pLen_str Tryd.underlying9]
  repeat (with_reducible refine And.intro ?_ ?_; · first | trivial | omega | (intro hg; simp only [Bool.and_eq_true, Bool.or_eq_true, Bool.not_eq_true', Bool.and_eq_false_iff, Bool.or_eq_false_iff, Bool.not_eq_false', decide_eq_true_eq, decide_eq_false_iff_not, eqNil] at hg; omega) )
  apply hK; clear hK K
  refine awp_block ?_
  refine awp_loopG [0, 1, 7, 8] (fun i : Nat => [(0, .str s), (1, .func 46 []), (7, .int .i64 s.length), (8, .int .i64 i)]) (fun i : Nat => h) (fun i : Nat => i ≤ s.length ∧ (s.drop i).all okB = s.all okB) (fun i : Nat => s.length - i) 0 rfl (Sub.refl _) ⟨Nat.zero_le _, rfl⟩ ?_
  rintro i ⟨hi, hg⟩
  -- region 2  chars.go:22
  refine awp_rseq [0, 1, 7, 8, 9] (by rfl) fun K hK => ?_
  simp (decide := true) only [aOps_nil, ev, putD, Slots.put, Slots.get, Slots.keep, if_true, if_false, true_and, ↓ap_binOp, pop_binOp, isNilC_tmp, cond_false, pBinX_int, pI_lss]
  repeat (with_reducible refine And.intro ?_ ?_; · first | trivial | omega | (intro hg; simp only [Bool.and_eq_true, Bool.or_eq_true, Bool.not_eq_true', Bool.and_eq_false_iff, Bool.or_eq_false_iff, Bool.not_eq_false', decide_eq_true_eq, decide_eq_false_iff_not, eqNil] at hg; omega) )
  apply hK; clear hK K
  refine awp_seq (awp_cond (b := _) rfl (fun hb1 => ?_) (fun hb1 => ?_))
  · try simp only [decide_eq_true_eq] at hb1
    have hi' : i < s.length := by omega
    have hd : s.drop i = s.getD i 0 :: s.drop (i + 1) := by rw [List.drop_eq_getElem_cons hi']; simp [List.getD, hi']
    rw [hd, List.all_cons] at hg
    refine awp_skip ?_
    change Awp _ _ _ _ _ _ _
    refine awp_seq ?_
    refine awp_block ?_
    -- region 3  chars.go:22
    refine awp_rseq [0, 1, 5, 7, 8] (by rfl) fun K hK => ?_
    simp (decide := true) only [aOps_nil, ev, putD, Slots.put, Slots.get, Slots.keep, if_true, if_false, true_and, ↓ap_move, pop_move, ↓ap_assign, pop_assign]
    repeat (with_reducible refine And.intro ?_ ?_; · first | trivial | omega | (intro hg; simp only [Bool.and_eq_true, Bool.or_eq_true, Bool.not_eq_true', Bool.and_eq_false_iff, Bool.or_eq_false_iff, Bool.not_eq_false', decide_eq_true_eq, decide_eq_false_iff_not, eqNil] at hg; omega) )
    apply hK; clear hK K
    -- region 4  chars.go:23
    refine awp_rseq [0, 1, 7, 8, 16] (by rfl) fun K hK => ?_
    simp (decide := true) only [ev, putD, Slots.put, Slots.get, if_true, if_false, true_and, ↓ap_move, pop_move, ↓ap_index, pop_index, pIndex_str Tryd.underlying9, Int.toNat_natCast]
    repeat (with_reducible refine And.intro ?_ ?_; · first | trivial | omega | (intro hg; simp only [Bool.and_eq_true, Bool.or_eq_true, Bool.not_eq_true', Bool.and_eq_false_iff, Bool.or_eq_false_iff, Bool.not_eq_false', decide_eq_true_eq, decide_eq_false_iff_not, eqNil] at hg; omega) )
    refine aOps_callV (V := .bool (okB (s.getD i 0))) (by rfl) (by rfl) (c_prt1 w₀ _ _) ?_
    simp (decide := true) only [aOps_nil, ev, putD, Slots.put, Slots.get, Slots.keep, if_true, if_false, true_and, ↓ap_unOp, pop_unOp, pU_not]
    try simp (disch := omega) only [wrap_i64, wrap_u8]
    repeat (with_reducible refine And.intro ?_ ?_; · first | trivial | omega | (intro hg; simp only [Bool.and_eq_true, Bool.or_eq_true, Bool.not_eq_true', Bool.and_eq_false_iff, Bool.or_eq_false_iff, Bool.not_eq_false', decide_eq_true_eq, decide_eq_false_iff_not, eqNil] at hg; omega) )
    apply hK; clear hK K
    refine awp_cond (b := _) rfl (fun hb2 => ?_) (fun hb2 => ?_)
    · try simp only [Bool.not_eq_true'] at hb2
      -- region 5  chars.go:24
      refine awp_rseq [4] (by rfl) fun K hK => ?_
      simp (decide := true) only [aOps_nil, ev, absV, absS, putD, Slots.put, Slots.keep, if_true, if_false, true_and, ↓ap_assign, pop_assign]
      repeat (with_reducible refine And.intro ?_ ?_; · first | trivial | omega | (intro hg; simp only [Bool.and_eq_true, Bool.or_eq_true, Bool.not_eq_true', Bool.and_eq_false_iff, Bool.or_eq_false_iff, Bool.not_eq_false', decide_eq_true_eq, decide_eq_false_iff_not, eqNil] at hg; omega) )
      apply hK; clear hK K
      refine awp_ret ?_
      try simp only [thenA_ret, inBlockA_ret]
      refine retA_ret _ (Sub.refl _) (resPre_tmp (resPre_nil)) ?_
      simp (decide := true) only [Slots.get, if_true, and_true, resOf_one]
      rw [← hg, hb2, Bool.false_and]
    · try simp only [Bool.not_eq_false'] at hb2
      refine awp_skip ?_
      change Awp _ _ _ _ _ _ _
      -- region 6  chars.go:22
      refine awp_r [0, 1, 7, 8] (by rfl) ?_
      simp (decide := true) only [aOps_nil, ev, absV, absS, putD, Slots.put, Slots.get, Slots.keep, if_true, if_false, true_and, ↓ap_binOp, pop_binOp, isNilC_int, cond_false, pBinX_int, pI_add, ↓ap_move, pop_move]
      try simp (disch := omega) only [wrap_i64]
      repeat (with_reducible refine And.intro ?_ ?_; · first | trivial | omega | (intro hg; simp only [Bool.and_eq_true, Bool.or_eq_true, Bool.not_eq_true', Bool.and_eq_false_iff, Bool.or_eq_false_iff, Bool.not_eq_false', decide_eq_true_eq, decide_eq_false_iff_not, eqNil] at hg; omega) )
      try simp only [thenA_normal]
      refine ⟨i + 1, rfl, Sub.refl _, ⟨hi', ?_⟩, by omega⟩
      rw [← hg, hb2, Bool.true_and]
  · try simp only [decide_eq_false_iff_not] at hb1
    refine awp_exit ?_
    change Awp _ _ _ _ _ _ _
    -- region 7  chars.go:27
    refine awp_rseq [4] (by rfl) fun K hK => ?_
    simp (decide := true) only [aOps_nil, ev, absV, absS, putD, Slots.put, Slots.keep, if_true, if_false, true_and, ↓ap_assign, pop_assign]
    repeat (with_reducible refine And.intro ?_ ?_; · first | trivial | omega | (intro hg; simp only [Bool.and_eq_true, Bool.or_eq_true, Bool.not_eq_true', Bool.and_eq_false_iff, Bool.or_eq_false_iff, Bool.not_eq_false', decide_eq_true_eq, decide_eq_false_iff_not, eqNil] at hg; omega) )
    apply hK; clear hK K
    refine awp_ret ?_
    try simp only [thenA_ret, inBlockA_ret]
    refine retA_ret _ (Sub.refl _) (resPre_tmp (resPre_nil)) ?_
    simp (decide := true) only [Slots.get, if_true, and_true, resOf_one]
    rw [← hg, List.drop_of_length_le (by omega)]
    rfl
theorem c_printable (w₀ : World) (h : AHeap) (s : Str) (hl : s.length ≤ 4611686018427387904) : ACall Tryd.prog w₀ 24 [.str s] h (fun v h' => v = .bool (s.all okB) ∧ h' = h) := by
  refine acall_intro (n := 5) (rs := [.tmp 2]) Tryd.func24 rfl rfl rfl rfl (Nat.le_of_ble_eq_true rfl) ?_
  simp only [initSlots]
  -- region 0  chars.go:42
  refine awp_rseq [0] (by rfl) fun K hK => ?_
  simp (decide := true) only [aOps_nil, ev, absV, absS, putD, Slots.put, Slots.keep, if_true, if_false, true_and, ↓ap_assign, pop_assign]
  repeat (with_reducible refine And.intro ?_ ?_; · first | trivial | omega | (intro hg; simp only [Bool.and_eq_true, Bool.or_eq_true, Bool.not_eq_true', Bool.and_eq_false_iff, Bool.or_eq_false_iff, Bool.not_eq_false', decide_eq_true_eq, decide_eq_false_iff_not, eqNil] at hg; omega) )
  apply hK; clear hK K
  -- region 1  chars.go:43
  refine awp_rseq [2] (by rfl) fun K hK => ?_
  simp (decide := true) only [ev, putD, Slots.put, Slots.get, if_true, if_false, true_and, ↓ap_move, pop_move]
  repeat (with_reducible refine And.intro ?_ ?_; · first | trivial | omega | (intro hg; simp only [Bool.and_eq_true, Bool.or_eq_true, Bool.not_eq_true', Bool.and_eq_false_iff, Bool.or_eq_false_iff, Bool.not_eq_false', decide_eq_true_eq, decide_eq_false_iff_not, eqNil] at hg; omega) )
  refine aOps_callV (V := .bool (s.all okB)) (by rfl) (by rfl) (c_all w₀ _ s hl) ?_
  simp (decide := true) only [aOps_nil, ev, putD, Slots.put, Slots.get, Slots.keep, if_true, if_false, true_and, ↓ap_assign, pop_assign]
  repeat (with_reducible refine And.intro ?_ ?_; · first | trivial | omega | (intro hg; simp only [Bool.and_eq_true, Bool.or_eq_true, Bool.not_eq_true', Bool.and_eq_false_iff, Bool.or_eq_false_iff, Bool.not_eq_false', decide_eq_true_eq, decide_eq_false_iff_not, eqNil] at hg; omega) )
  apply hK; clear hK K
  refine awp_ret ?_
  try simp only [thenA_ret, inBlockA_ret]
  refine retA_ret _ (Sub.refl _) (resPre_tmp (resPre_nil)) ?_
  simp (decide := true) only [Slots.get, if_true, and_true, resOf_one]
  all_goals first | rfl | exact ⟨rfl, rfl⟩ | (simp (decide := true) only [if_true, if_false, *]; done) | (trace_state; fail)
end Go.Proofs.YtikpnhdjjabdmaaDoor

/-
  Contracts of strings.Builder's methods.
  Conditions: none.
-/
namespace Go.Proofs.YtikpnhdjjabdmaaDoor
open Go.AM
open Go.Proofs
set_option maxRecDepth 100000

theorem cc_fresh (b : Nat) (w : World) (T : TypeId) (cells : Nat) (h0 : w.cell? ⟨b, 0, none⟩ = some (.pointer none)) (hsh : w.shape? b = some (T, cells)) (hc : 0 < cells)
    (hlies : liesAt Tryd.prog Tryd.prog.depth T (cells / Tryd.prog.cellsOf T) 0 63 1 = true) (hfz : w.frozen? ⟨b, 0, none⟩ = false) :
    Calls Tryd.prog 61 #[.pointer (some ⟨b, 0, none⟩)] w fun e w' => e = .returned (.tuple #[]) ∧ w' = w.setCell ⟨b, 0, none⟩ (.pointer (some ⟨b, 0, none⟩)) := by
  have hsz : (Tryd.prog.info? 63).map (·.size) = some 2 := by kernel_rfl
  obtain ⟨j, hj, hjs⟩ := Option.map_eq_some_iff.1 hsz
  go_enter Tryd.func61, Tryd.ntmps61
  go_wp2
  rw [Lib.run_to_unsafe w ⟨b, 0, none⟩ Tryd.underlying60 Tryd.underlying122 hj (by rw [hjs]; decide) hsh hc]
  simp only [Result.andThen]
  rw [Oper.upon_value]
  go_wp2
  rw [run_callFunc_extern Tryd.func74 (by kernel_rfl) (by kernel_rfl) (by kernel_rfl) (e := Extern.AbiNoEscape.same) (by kernel_rfl)]
  rw [Lib.run_noEscape]
  simp only [Result.andThen]
  rw [Oper.upon_value]
  go_wp2
  rw [Lib.run_from_unsafe w ⟨b, 0, none⟩ Tryd.underlying122 Tryd.underlying60 hj hsh hlies]
  simp only [Result.andThen]
  rw [Oper.upon_value]
  go_wp2
  go_end0
  exact ⟨rfl, rfl⟩

theorem cc_used (b : Nat) (w : World) (h0 : w.cell? ⟨b, 0, none⟩ = some (.pointer (some ⟨b, 0, none⟩))) :
    Calls Tryd.prog 61 #[.pointer (some ⟨b, 0, none⟩)] w fun e w' => e = .returned (.tuple #[]) ∧ w' = w := by
  have hsz : (Tryd.prog.info? 63).map (·.size) = some 2 := by kernel_rfl
  obtain ⟨j, hj, hjs⟩ := Option.map_eq_some_iff.1 hsz
  go_enter Tryd.func61, Tryd.ntmps61
  go_wp2
  rw [Lib.run_neq_ptr_same w _ Tryd.underlying60 hj]
  go_wp2
  go_end0
  exact ⟨rfl, rfl⟩

/-- A variable in which a builder stands first. -/
structure BldT (T : TypeId) (m : Nat) : Prop where
  lies : liesAt Tryd.prog Tryd.prog.depth T 1 0 63 1 = true
  cells : Tryd.prog.cellsOf T = m
  two : 2 ≤ m
theorem c_copyCheck (w₀ : World) (h : AHeap) (k : Nat) (rest : List AVal) (st : Bld) (T : TypeId) (hT : BldT T (rest.length + 2)) (ht : tyOf k = some T) (hst : st.ok 5 h k) :
    ACall Tryd.prog w₀ 61 [.ptr (.own k) 0] (bldH h k rest st) (fun v h' => v = .tuple [] ∧ h' = bldH h k rest ⟨true, st.buf⟩) := by
  intro φ vals w hr hvs
  simp only [VRs, VR] at hvs
  obtain ⟨v, vs', rfl, ⟨a, ha, rfl⟩, rfl⟩ := hvs
  obtain ⟨p, hp, hp0, ok⟩ := hr.own k _ (bldH_head hst)
  obtain ⟨t0, cs0, fr0, hcs0⟩ := hr.typ k p hp T ht
  simp only [locAddr, hp, Option.map_some, Option.some.injEq] at ha
  obtain ⟨cs, e, lo, hi, h1, h2, h3, h4, h5, h6⟩ := ok.row
  rw [hcs0] at h1
  cases h1
  obtain ⟨c0, hc0, hv0⟩ := ok.cell 0 (by simp)
  have hfz := ok.frozen 0 (Nat.zero_le _) (by simp at h3; omega)
  rw [t0] at hc0 hfz ha
  simp only [Nat.zero_add] at hc0 hfz ha
  subst ha
  have hsh : w.shape? p.blk = some (T, cs0.size) := by simp [World.shape?, hcs0]
  have hr' := hr.setCell (bldH_head hst) hp (o := 0) (x := .ptr (.own k) 0) (v := .pointer (some ⟨p.blk, 0, none⟩)) (by simp only [VR]; exact ⟨_, by simp [locAddr, hp, t0], rfl⟩) rfl (by simp) (Nat.zero_le _)
  simp only [List.set_cons_zero] at hr'
  rw [bldH_used hst, t0] at hr'
  have hun : VR φ (.tuple []) (.tuple #[]) := by simp only [VR]; exact ⟨[], rfl, by simp [VRs]⟩
  refine .inl ⟨_, Tryd.func61, rfl, rfl, ?_⟩
  simp only [List.getD_cons_zero] at hv0
  by_cases hu : st.used = true
  · have e0 : st.head k = .ptr (.own k) 0 := by rw [Bld.head, if_pos hu]
    rw [e0] at hv0
    simp only [VR, locAddr, hp, Option.map_some, Option.some.injEq] at hv0
    obtain ⟨a, ha, rfl⟩ := hv0
    subst ha
    rw [t0] at hc0
    refine (cc_used p.blk w (by simpa using hc0)).mono fun e w' ⟨e1, e2⟩ => ⟨.tuple #[], e1, φ, .tuple [], _, φ.le_refl, ?_, hun, rfl, rfl⟩
    rw [e2]
    have : st = ⟨true, st.buf⟩ := by cases st; simp at hu; simp [hu]
    rw [← this]
    exact hr
  · have e0 : st.head k = .nilPtr := by rw [Bld.head, if_neg hu]
    rw [e0] at hv0
    simp only [VR] at hv0
    subst hv0
    have hle : rest.length + 2 ≤ cs0.size := by simp at h3; omega
    refine (cc_fresh p.blk w T cs0.size hc0 hsh (by omega) (liesAt_first hT.lies (fun m u => by rw [Tryd.underlying63]; simp) (by
      rw [hT.cells]
      exact Nat.div_pos hle (by omega))) hfz).mono fun e w' ⟨e1, e2⟩ => ⟨.tuple #[], e1, φ, .tuple [], _, φ.le_refl, ?_, hun, rfl, rfl⟩
    rw [e2]
    exact hr'

set_option maxHeartbeats 1000000 in
theorem bs_some (b g cap cells : Nat) (l : List UInt8) (h0 : l ≠ []) (w : World) (hc1 : w.cell? ⟨b, 1, none⟩ = some (.slice (some ⟨g, 0, none⟩) l.length cap)) (hcap : cap ≠ 0) (hsh : w.shape? g = some (5, cells)) (hn : l.length ≤ cells)
    (h63 : l.length ≤ 9223372036854775807) (hcell : ∀ j x, l[j]? = some x → w.cell? ((⟨g, 0, none⟩ : Addr).add j) = some (.int .u8 x.toNat)) :
    Calls Tryd.prog 28 #[.pointer (some ⟨b, 0, none⟩)] w fun e w' => e = .returned (.string ⟨l.toArray⟩) ∧ w' = w.drew.freeze ⟨g, 0, none⟩ l.length := by
  have c1 : w.drew.cell? ⟨b, 1, none⟩ = some (.slice (some ⟨g, 0, none⟩) l.length cap) := hc1
  have hSD : (Builtin.unsafeSliceData_ #[61] 101 #[.slice (some ⟨g, 0, none⟩) l.length cap]).run Tryd.prog w.drew = .ok (.pointer (some ⟨g, 0, none⟩)) w.drew := Lib.run_unsafeSliceData_row _ _ _ _ _ _ hcap
  have hUS : (Builtin.unsafeString_ #[101, 3] 9 #[.pointer (some ⟨g, 0, none⟩), .int .i64 l.length]).run Tryd.prog w.drew = .ok (.string ⟨l.toArray⟩) (w.drew.freeze ⟨g, 0, none⟩ l.length) :=
    Lib.run_unsafeString_row w.drew 101 3 9 5 Tryd.underlying101 (by kernel_rfl) g cells hsh l h0 hn h63 hcell
  go_enter Tryd.func28, Tryd.ntmps28
  go_wp2
  have hmx : Tryd.prog.follows Departure.mixedOrders = true := mixed
  go_region_o
  all_goals (go_wp2; go_ret; exact ⟨rfl, rfl⟩)

set_option maxHeartbeats 1000000 in
theorem bs_nil (b : Nat) (w : World) (hc1 : w.cell? ⟨b, 1, none⟩ = some (.slice none 0 0)) :
    Calls Tryd.prog 28 #[.pointer (some ⟨b, 0, none⟩)] w fun e w' => e = .returned (.string ⟨#[]⟩) ∧ w' = w.drew := by
  have c1 : w.drew.cell? ⟨b, 1, none⟩ = some (.slice none 0 0) := hc1
  have hSD : (Builtin.unsafeSliceData_ #[61] 101 #[.slice none 0 0]).run Tryd.prog w.drew = .ok (.pointer none) w.drew := rfl
  have hUS : (Builtin.unsafeString_ #[101, 3] 9 #[.pointer none, .int .i64 0]).run Tryd.prog w.drew = .ok (.string .empty) w.drew := rfl
  go_enter Tryd.func28, Tryd.ntmps28
  go_wp2
  have hmx : Tryd.prog.follows Departure.mixedOrders = true := mixed
  go_region_o
  all_goals (go_wp2; go_ret; exact ⟨rfl, rfl⟩)

/-- What a builder holds; the builder is forgotten. -/
theorem c_bString (w₀ : World) (h : AHeap) (k : Nat) (rest : List AVal) (st : Bld) (T : TypeId) (hk : h k = none) (ht : tyOf k = some T) (hst : st.ok 5 h k) (hl : st.bytes.length ≤ 140737488355328) :
    ACall Tryd.prog w₀ 28 [.ptr (.own k) 0] (bldH h k rest st) (fun v h' => v = .str st.bytes ∧ h' = h) := by
  intro φ vals w hr hvs
  simp only [VRs, VR] at hvs
  obtain ⟨v, vs', rfl, ⟨a, ha, rfl⟩, rfl⟩ := hvs
  obtain ⟨p, hp, hp0, ok⟩ := hr.own k _ (bldH_head hst)
  obtain ⟨t0, cs0, fr0, hcs0⟩ := hr.typ k p hp T ht
  simp only [locAddr, hp, Option.map_some, Option.some.injEq] at ha
  obtain ⟨c1, hc1, hv1⟩ := ok.cell 1 (by simp)
  rw [t0] at hc1 ha
  simp only [Nat.zero_add] at hc1 ha
  subst ha
  simp only [List.getD_cons_succ, List.getD_cons_zero] at hv1
  refine .inl ⟨_, Tryd.func28, rfl, rfl, ?_⟩
  cases hb : st.buf with
  | none =>
    have e1 := Bld.slice_nil hb
    have e2 := Bld.bytes_nil hb
    rw [e1] at hv1
    simp only [VR] at hv1
    subst hv1
    rw [e2]
    refine (bs_nil p.blk w hc1).mono fun e w' ⟨e1, e2⟩ => ⟨_, e1, φ, .str [], h, φ.le_refl, ?_, rfl, rfl, rfl⟩
    rw [e2]
    exact hr.drew.forget (Sub.bldH hk hst)
  | some q =>
    obtain ⟨kb, l⟩ := q
    have e1 := Bld.slice_some hb
    have e2 := Bld.bytes_some hb
    obtain ⟨s1, s2, s3, s4⟩ := (Bld.ok_some hb).1 hst
    have hkb := bldH_buf (h := h) (k := k) (rest := rest) hb
    obtain ⟨pb, hpb, hpb0, okb⟩ := hr.own kb _ hkb
    obtain ⟨tb0, csb, frb, hcsb⟩ := hr.typ kb pb hpb _ s3
    obtain ⟨cs, e, lo, hi, h1, h2, h3, h4, h5, h6⟩ := okb.row
    rw [hcsb] at h1
    cases h1
    rw [byteCells_length] at h3
    rw [e1] at hv1
    simp only [VR] at hv1
    obtain ⟨k', p', c, a, hk', hp', rfl, hle, hca⟩ := hv1
    cases hk'
    rw [hpb] at hp'
    cases hp'
    have hln : l.length ≠ 0 := by simpa using s4
    obtain ⟨ha, hroom⟩ := hca (by omega)
    subst ha
    rw [tb0] at hc1
    rw [e2]
    rw [e2] at hl
    refine (bs_some p.blk pb.blk c csb.size l s4 w hc1 (by omega) (by simp [World.shape?, hcsb]) (by omega) (by omega) fun j x hj => ?_).mono fun e w' ⟨f1, f2⟩ => ⟨_, f1, φ, .str l, h, φ.le_refl, ?_, rfl, rfl, rfl⟩
    · have hjl : j < l.length := by
        rcases Nat.lt_or_ge j l.length with hx | hx
        · exact hx
        · rw [List.getElem?_eq_none hx] at hj; cases hj
      obtain ⟨cj, hcj, hvj⟩ := okb.cell j (by rw [byteCells_length]; exact hjl)
      rw [tb0, Nat.zero_add] at hcj
      simp only [byteCells_getD hjl] at hvj
      simp only [VR] at hvj
      subst hvj
      have ex : l.getD j 0 = x := by rw [List.getD, hj]; rfl
      rw [ex] at hcj
      have e8 : (⟨pb.blk, 0, none⟩ : Addr).add j = ⟨pb.blk, j, none⟩ := by
        unfold Addr.add
        by_cases hi : j = 0 <;> simp [hi]
      rw [e8]
      exact hcj
    · subst f2
      obtain ⟨z1, z2, z3, z4, z5, z6⟩ := freeze_facts w.drew ⟨pb.blk, 0, none⟩ l.length
      exact hr.drew.dropRow hkb hpb z1 z2 z3 z4 z5 z6 fun j c hj => ⟨Sub.bldH hk hst j c hj, fun e => by subst e; rw [s2] at hj; cases hj⟩
end Go.Proofs.YtikpnhdjjabdmaaDoor

/-
  Contracts of strings.Builder's writing methods.
  Conditions: none.
-/
namespace Go.Proofs.YtikpnhdjjabdmaaDoor
open Go.AM
open Go.Proofs
set_option maxRecDepth 100000

theorem u8_typ : (5 : Nat) < 4096 := by decide
theorem c_WriteString (w₀ : World) (h : AHeap) (k : Nat) (rest : List AVal) (st : Bld) (T : TypeId) (hT : BldT T (rest.length + 2)) (ht : tyOf k = some T) (hk : h k = none) (hst : st.ok 5 h k) (c : List UInt8) (hl : st.bytes.length + c.length ≤ 140737488355328) :
    ACall Tryd.prog w₀ 41 [.ptr (.own k) 0, .str c] (bldH h k rest st) (fun v h' => v = .tuple [.int .i64 c.length, .nilIface] ∧ ∃ st' : Bld, st'.ok 5 h k ∧ st'.bytes = st.bytes ++ c ∧ h' = bldH h k rest st') := by
  have hst2 : (⟨true, st.buf⟩ : Bld).ok 5 h k := hst
  have hhead := bldH_head (rest := rest) hst2
  refine acall_intro (n := 19) (rs := [.tmp 4, .tmp 5]) Tryd.func41 rfl rfl rfl rfl (Nat.le_of_ble_eq_true rfl) ?_
  simp only [initSlots]
  -- region 0  builder.go:112
  refine awp_rseq [0, 1] (by rfl) fun K hK => ?_
  simp (decide := true) only [aOps_nil, ev, absV, absS, putD, Slots.put, Slots.keep, if_true, if_false, true_and, ↓ap_assign, pop_assign]
  repeat (with_reducible refine And.intro ?_ ?_; · first | trivial | omega | (intro hg; simp only [Bool.and_eq_true, Bool.or_eq_true, Bool.not_eq_true', Bool.and_eq_false_iff, Bool.or_eq_false_iff, Bool.not_eq_false', decide_eq_true_eq, decide_eq_false_iff_not, eqNil] at hg; omega) )
  apply hK; clear hK K
  -- region 1  builder.go:113
  refine awp_rseq [0, 1] (by rfl) fun K hK => ?_
  simp (decide := true) only [ev, putD, Slots.put, Slots.get, if_true, if_false, true_and, ↓ap_move, pop_move]
  repeat (with_reducible refine And.intro ?_ ?_; · first | trivial | omega | (intro hg; simp only [Bool.and_eq_true, Bool.or_eq_true, Bool.not_eq_true', Bool.and_eq_false_iff, Bool.or_eq_false_iff, Bool.not_eq_false', decide_eq_true_eq, decide_eq_false_iff_not, eqNil] at hg; omega) )
  refine aOps_call (by rfl) (by rfl) (c_copyCheck w₀ h k rest st T hT ht hst) fun x1q1 h1q1 hx1q1 => ?_
  obtain ⟨rfl, rfl⟩ := hx1q1
  simp (decide := true) only [aOps_nil, putD, Slots.put, Slots.keep, if_true, if_false]
  repeat (with_reducible refine And.intro ?_ ?_; · first | trivial | omega | (intro hg; simp only [Bool.and_eq_true, Bool.or_eq_true, Bool.not_eq_true', Bool.and_eq_false_iff, Bool.or_eq_false_iff, Bool.not_eq_false', decide_eq_true_eq, decide_eq_false_iff_not, eqNil] at hg; omega) )
  apply hK; clear hK K
  -- region 2  builder.go:114
  refine awp_rseq [1] (by rfl) fun K hK => ?_
  simp (decide := true) only [ev, putD, Slots.put, Slots.get, if_true, if_false, true_and, ↓ap_move, pop_move, ↓ap_nilCheck, pop_nilCheck, pNil_ptr, ↓ap_fieldAddr, pop_fieldAddr, fa63_1, ↓ap_loadL, apL_mk, pLoad_one ag61, Bld.slice_live, List.getD_cons_zero, List.getD_cons_succ, rd_own w₀ hhead]
  repeat (with_reducible refine And.intro ?_ ?_; · first | trivial | omega | (intro hg; simp only [Bool.and_eq_true, Bool.or_eq_true, Bool.not_eq_true', Bool.and_eq_false_iff, Bool.or_eq_false_iff, Bool.not_eq_false', decide_eq_true_eq, decide_eq_false_iff_not, eqNil] at hg; omega) )
  refine aOps_appendBld (src := c) (h₀ := h) (k := k) (cs := rest) (st := ⟨true, st.buf⟩) (by rfl) (by rfl) Tryd.underlying61 Tryd.underlying9 (by intro k e; cases e) sz5 by5 ze5 u8_typ (by rfl) hk hst2 (Sub.refl _) (by rfl) (SrcB.str _ _ _) (by simpa [Bld.bytes] using hl) fun st' hu' hst' hb' h' hk' hsub => ?_
  simp (decide := true) only [ev, putD, Slots.put, Slots.get, if_true, if_false, true_and, ↓ap_nilCheck, pop_nilCheck, pNil_ptr, ↓ap_fieldAddr, pop_fieldAddr, fa63_1]
  repeat (with_reducible refine And.intro ?_ ?_; · first | trivial | omega | (intro hg; simp only [Bool.and_eq_true, Bool.or_eq_true, Bool.not_eq_true', Bool.and_eq_false_iff, Bool.or_eq_false_iff, Bool.not_eq_false', decide_eq_true_eq, decide_eq_false_iff_not, eqNil] at hg; omega) )
  refine aOps_store (by rfl) (by rfl) hk' sz61 (Bld.slice_live _) (by rw [Bld.slice_cells]; rfl) (by simp) (Nat.zero_le _) (by rw [Bld.slice_cells]; simp [allScal, Bld.slice_scal]) ?_
  rw [Bld.slice_cells]
  simp only [setAt, List.set_cons_succ, List.set_cons_zero]
  have hhd : st'.head k = (⟨true, st.buf⟩ : Bld).head k := by unfold Bld.head; rw [hu']
  rw [hhd] at hsub
  simp (decide := true) only [aOps_nil, putD, Slots.keep, if_true, if_false]
  repeat (with_reducible refine And.intro ?_ ?_; · first | trivial | omega | (intro hg; simp only [Bool.and_eq_true, Bool.or_eq_true, Bool.not_eq_true', Bool.and_eq_false_iff, Bool.or_eq_false_iff, Bool.not_eq_false', decide_eq_true_eq, decide_eq_false_iff_not, eqNil] at hg; omega) )
  apply hK; clear hK K
  -- region 3  builder.go:115
  refine awp_rseq [4, 5] (by rfl) fun K hK => ?_
  simp (decide := true) only [aOps_nil, ev, absV, absS, putD, Slots.put, Slots.get, Slots.keep, if_true, if_false, true_and, ↓ap_move, pop_move, ↓ap_len, pop_len, pLen_str Tryd.underlying9, ↓ap_assign, pop_assign]
  repeat (with_reducible refine And.intro ?_ ?_; · first | trivial | omega | (intro hg; simp only [Bool.and_eq_true, Bool.or_eq_true, Bool.not_eq_true', Bool.and_eq_false_iff, Bool.or_eq_false_iff, Bool.not_eq_false', decide_eq_true_eq, decide_eq_false_iff_not, eqNil] at hg; omega) )
  apply hK; clear hK K
  refine awp_ret ?_
  try simp only [thenA_ret, inBlockA_ret]
  refine retA_ret (bldH h k rest st') hsub (resPre_tmp (resPre_tmp (resPre_nil))) ?_
  simp (decide := true) only [Slots.get, if_true, if_false, true_and, resOf_two]
  exact ⟨st', hst', hb', rfl⟩
end Go.Proofs.YtikpnhdjjabdmaaDoor

/-
  Contracts: the writer of the package columns.
  Conditions: none.
-/
namespace Go.Proofs.YtikpnhdjjabdmaaDoor
open Go.AM
open Go.Proofs
open Go.Col
set_option maxRecDepth 100000

theorem bldT_writer : BldT 65 3 := ⟨by kernel_rfl, by kernel_rfl, by omega⟩
theorem bldH_rest {h : AHeap} {k : Nat} {rest rest' : List AVal} {e : TypeId} {b : Bld} (hb : b.ok e h k) : (bldH h k rest b).set k ⟨b.head k :: b.slice :: rest', 0⟩ = bldH h k rest' b := by
  cases hbuf : b.buf with
  | none =>
    rw [bldH_nil hbuf, Bld.slice_nil hbuf, AHeap.set_set, bldH_nil hbuf]
  | some q =>
    obtain ⟨h1, h2, h3, h4⟩ := (Bld.ok_some hbuf).1 hb
    rw [bldH_some hbuf, Bld.slice_some hbuf, bldH_some hbuf, AHeap.set_comm _ _ _ h1.symm, AHeap.set_set]
theorem nDigits_le : ∀ (k u : Nat), 1 ≤ k → u < 10 ^ k → Lib.nDigits u ≤ k
  | 0, _, h, _ => by omega
  | 1, u, _, h => by rw [Lib.nDigits_small (by omega)]; exact Nat.le_refl _
  | k + 2, u, _, h => by
    by_cases h10 : u < 10
    · rw [Lib.nDigits_small h10]; omega
    · rw [Lib.nDigits_big h10]
      have := nDigits_le (k + 1) (u / 10) (by omega) (by rw [Nat.pow_succ] at h; omega)
      omega
theorem digs_len (n : Nat) : (digs (n % 1000000)).length ≤ 6 := by
  unfold digs
  rw [Lib.decDigits_length]
  exact nDigits_le 6 _ (by omega) (by omega)
theorem outE_len (n col : Nat) (mark text : Str) : (outE n mark col text).length = 7 + mark.length + (col - 8) + text.length := by
  have := digs_len n
  unfold outE sp
  simp only [List.length_append, List.length_replicate, List.length_cons, List.length_nil]
  omega
theorem c_line (w₀ : World) (ht10 : Tab10 w₀) (h : AHeap) (k : Nat) (n : Nat) (st : Bld) (ht : tyOf k = some 65) (hk : h k = none) (hst : st.ok 5 h k) (mark : Str) (col : Nat) (text : Str) (hn : n ≤ 1099511627776) (hm : mark.length ≤ 10) (hc : 8 ≤ col) (hc2 : col ≤ 100) (htx : text.length ≤ 1099511627776) (hb : st.bytes.length ≤ 1099511627776) :
    ACall Tryd.prog w₀ 47 [.ptr (.own k) 0, .str mark, .int .i64 col, .str text] (bldH h k [.int .i64 n] st)
      (fun v h' => v = .tuple [] ∧ ∃ st' : Bld, st'.ok 5 h k ∧ st'.bytes = st.bytes ++ outE (n + 1) mark col text ∧ h' = bldH h k [.int .i64 (n + 1 : Nat)] st') := by
  have hhead := bldH_head (rest := [.int .i64 n]) hst
  have hhead1 := bldH_head (rest := [.int .i64 (n + 1 : Nat)]) hst
  have r0 := fun o => rd_own w₀ hhead o
  have r1 := fun o => rd_own w₀ hhead1 o
  have hdl := digs_len (n + 1)
  have hsl : (sp (col - 8)).length = col - 8 := by simp [sp]
  refine acall_intro (n := 41) (rs := []) Tryd.func47 rfl rfl rfl rfl (Nat.le_of_ble_eq_true rfl) ?_
  simp only [initSlots]
  -- region 0  columns.go:187
  refine awp_rseq [0, 1, 2, 3] (by rfl) fun K hK => ?_
  simp (decide := true) only [ev, absV, absS, putD, Slots.put, Slots.get, if_true, if_false, true_and, ↓ap_move, pop_move, ↓ap_nilCheck, pop_nilCheck, pNil_ptr, ↓ap_fieldAddr, pop_fieldAddr, fa65_1, ↓ap_loadL, apL_mk, pLoad_one ag3, ↓ap_binOp, pop_binOp, isNilC_int, cond_false, pBinX_int, pI_add, List.getD_cons_zero, List.getD_cons_succ, Nat.zero_add, Nat.reduceAdd, lv_int, r0]
  try simp (disch := omega) only [wrap_i64]
  repeat (with_reducible refine And.intro ?_ ?_; · first | trivial | omega | (intro hg; simp only [Bool.and_eq_true, Bool.or_eq_true, Bool.not_eq_true', Bool.and_eq_false_iff, Bool.or_eq_false_iff, Bool.not_eq_false', decide_eq_true_eq, decide_eq_false_iff_not, eqNil] at hg; omega) | (simp only [List.length_append, List.length_map, List.length_range, List.length_replicate, List.length_take, List.length_drop, List.length_cons, List.length_nil, List.length_set, List.length_reverse]; omega))
  refine aOps_store (v := .int .i64 (n + 1 : Nat)) (by rfl) (by rfl) hhead sz3 (by rfl) (by rfl) (by simp []) (Nat.zero_le _) (by rfl) ?_
  simp only [setAt, AVal.cells, List.set_cons_zero, List.set_cons_succ]
  rw [bldH_rest hst]
  simp (decide := true) only [aOps_nil, putD, Slots.keep, if_true, if_false]
  repeat (with_reducible refine And.intro ?_ ?_; · first | trivial | omega | (intro hg; simp only [Bool.and_eq_true, Bool.or_eq_true, Bool.not_eq_true', Bool.and_eq_false_iff, Bool.or_eq_false_iff, Bool.not_eq_false', decide_eq_true_eq, decide_eq_false_iff_not, eqNil] at hg; omega) | (simp only [List.length_append, List.length_map, List.length_range, List.length_replicate, List.length_take, List.length_drop, List.length_cons, List.length_nil, List.length_set, List.length_reverse]; omega))
  apply hK; clear hK K
  -- region 1  columns.go:188
  refine awp_rseq [0, 1, 2, 3, 8] (by rfl) fun K hK => ?_
  simp (decide := true) only [ev, absV, absS, putD, Slots.put, Slots.get, if_true, if_false, true_and, ↓ap_move, pop_move, ↓ap_nilCheck, pop_nilCheck, pNil_ptr, ↓ap_fieldAddr, pop_fieldAddr, fa65_1, ↓ap_loadL, apL_mk, pLoad_one ag3, ↓ap_binOp, pop_binOp, isNilC_int, cond_false, pBinX_int, pI_rem, List.getD_cons_zero, List.getD_cons_succ, Nat.zero_add, lv_int, r1]
  repeat (with_reducible refine And.intro ?_ ?_; · first | trivial | omega | (intro hg; simp only [Bool.and_eq_true, Bool.or_eq_true, Bool.not_eq_true', Bool.and_eq_false_iff, Bool.or_eq_false_iff, Bool.not_eq_false', decide_eq_true_eq, decide_eq_false_iff_not, eqNil] at hg; omega) | (simp only [List.length_append, List.length_map, List.length_range, List.length_replicate, List.length_take, List.length_drop, List.length_cons, List.length_nil, List.length_set, List.length_reverse]; omega))
  rw [show ((n + 1 : Nat) : Int).tmod 1000000 = (((n + 1) % 1000000 : Nat) : Int) by rw [Int.tmod_eq_emod_of_nonneg (by omega)]; omega]
  refine aOps_callV (V := .str (digs ((n + 1) % 1000000))) (by rfl) (by rfl) ((c_itoa w₀ ht10 _ _ (by omega) (by omega)).val (by rw [Lib.itoa_nonneg]; rfl)) ?_
  simp (decide := true) only [aOps_nil, ev, putD, Slots.put, Slots.get, Slots.keep, if_true, if_false, true_and, ↓ap_assign, pop_assign]
  repeat (with_reducible refine And.intro ?_ ?_; · first | trivial | omega | (intro hg; simp only [Bool.and_eq_true, Bool.or_eq_true, Bool.not_eq_true', Bool.and_eq_false_iff, Bool.or_eq_false_iff, Bool.not_eq_false', decide_eq_true_eq, decide_eq_false_iff_not, eqNil] at hg; omega) | (simp only [List.length_append, List.length_map, List.length_range, List.length_replicate, List.length_take, List.length_drop, List.length_cons, List.length_nil, List.length_set, List.length_reverse]; omega))
  apply hK; clear hK K
  -- region 2  columns.go:189
  refine awp_draw_anyT 18 mixed (by kernel_rfl) (by rfl) ?_
  simp only [List.take_succ_cons, List.take_zero, List.drop_succ_cons, List.drop_zero]
  simp (decide := true) only [ev, absV, absS, putD, Slots.put, Slots.get, if_true, if_false, true_and, ↓vp_move, pop_move, ↓vp_nilCheck, pop_nilCheck, pNil_ptr, ↓vp_fieldAddr, pop_fieldAddr, fa65_0, ↓vp_len, pop_len, pLen_str Tryd.underlying9, ↓vp_binOp, pop_binOp, isNilC_tmp, cond_false, pBinX_int, pI_sub, Nat.zero_add]
  try simp (disch := omega) only [wrap_i64]
  repeat (with_reducible refine And.intro ?_ ?_; · first | trivial | omega | (intro hg; simp only [Bool.and_eq_true, Bool.or_eq_true, Bool.not_eq_true', Bool.and_eq_false_iff, Bool.or_eq_false_iff, Bool.not_eq_false', decide_eq_true_eq, decide_eq_false_iff_not, eqNil] at hg; omega) | (simp only [List.length_append, List.length_map, List.length_range, List.length_replicate, List.length_take, List.length_drop, List.length_cons, List.length_nil, List.length_set, List.length_reverse]; omega))
  rw [show (6 : Int) - ((digs ((n + 1) % 1000000)).length : Int) = ((6 - (digs ((n + 1) % 1000000)).length : Nat) : Int) by omega]
  refine vOps_callV (V := .str (List.replicate (6 - (digs ((n + 1) % 1000000)).length) 48)) (by rfl) (by rfl) (c_repeat w₀ _ 48 _ (by omega)) ?_
  simp (decide := true) only [ev, absV, absS, putD, Slots.put, Slots.get, if_true, if_false, true_and, ↓vp_move, pop_move, ↓vp_binOp, pop_binOp, isNilC_tmp, cond_false, pBinX_str, pS_add, isNilC_int, pBinX_int, pI_sub]
  try simp (disch := omega) only [wrap_i64]
  repeat (with_reducible refine And.intro ?_ ?_; · first | trivial | omega | (intro hg; simp only [Bool.and_eq_true, Bool.or_eq_true, Bool.not_eq_true', Bool.and_eq_false_iff, Bool.or_eq_false_iff, Bool.not_eq_false', decide_eq_true_eq, decide_eq_false_iff_not, eqNil] at hg; omega) | (simp only [List.length_append, List.length_replicate]; omega))
  rw [show (col : Int) - 8 = ((col - 8 : Nat) : Int) by omega]
  refine vOps_callV (V := .str (sp (col - 8))) (by rfl) (by rfl) (c_repeat w₀ _ 32 _ (by omega)) ?_
  simp (decide := true) only [vOps_nil, ev, absV, absS, putD, Slots.put, Slots.get, if_true, if_false, true_and, ↓vp_binOp, pop_binOp, isNilC_tmp, cond_false, pBinX_str, pS_add, ↓vp_move, pop_move, isNilC_str]
  repeat (with_reducible refine And.intro ?_ ?_; · first | trivial | omega | (intro hg; simp only [Bool.and_eq_true, Bool.or_eq_true, Bool.not_eq_true', Bool.and_eq_false_iff, Bool.or_eq_false_iff, Bool.not_eq_false', decide_eq_true_eq, decide_eq_false_iff_not, eqNil] at hg; omega) | (simp only [List.length_append, List.length_replicate, List.length_cons, List.length_nil]; omega))
  try simp only [vOps_nil, fOps_nil]
  refine aOps_call (by rfl) (by rfl) (c_WriteString w₀ h k [.int .i64 (n + 1 : Nat)] st 65 bldT_writer ht hk hst _ (by have := outE_len (n + 1) col mark text; unfold outE at this; omega)) fun x2q18 h2q18 hx2q18 => ?_
  obtain ⟨rfl, st', s1, s2, rfl⟩ := hx2q18
  simp (decide := true) only [aOps_nil, putD, Slots.put, if_false]
  repeat (with_reducible refine And.intro ?_ ?_; · first | trivial | omega | (intro hg; simp only [Bool.and_eq_true, Bool.or_eq_true, Bool.not_eq_true', Bool.and_eq_false_iff, Bool.or_eq_false_iff, Bool.not_eq_false', decide_eq_true_eq, decide_eq_false_iff_not, eqNil] at hg; omega) | (simp only [List.length_append, List.length_map, List.length_range, List.length_replicate, List.length_take, List.length_drop, List.length_cons, List.length_nil, List.length_set, List.length_reverse]; omega))
  try simp only [thenA_ret, inBlockA_ret]
  refine retA_end _ (Sub.refl _) (resPre_nil) ?_
  simp (decide := true) only [true_and, resOf_nil]
  exact ⟨st', s1, s2, rfl⟩

theorem textE_short {fuel col k : Nat} {mark out s : Str} {q : Bool} (h : s.length ≤ 73 - col - (if q = true then 1 else 0)) : textE (fuel + 1) col mark q k out s = (k + 1, out ++ outE (k + 1) mark col ((if q = true then [34] else []) ++ s)) := by
  rw [textE]
  rw [if_pos h]
theorem textE_space {fuel col k : Nat} {mark out s : Str} {q : Bool} (h : ¬ s.length ≤ 73 - col - (if q = true then 1 else 0)) (h2 : 0 < spaceE s (73 - col - (if q = true then 1 else 0)) q) :
    textE (fuel + 1) col mark q k out s = textE fuel 12 [32] false (k + 1) (out ++ outE (k + 1) mark col ((if q = true then [34] else []) ++ s.take (spaceE s (73 - col - (if q = true then 1 else 0)) q))) (trimL (s.drop (spaceE s (73 - col - (if q = true then 1 else 0)) q))) := by
  rw [textE]
  rw [if_neg h, if_pos h2]
theorem textE_cut {fuel col k : Nat} {mark out s : Str} {q : Bool} (h : ¬ s.length ≤ 73 - col - (if q = true then 1 else 0)) (h2 : ¬ 0 < spaceE s (73 - col - (if q = true then 1 else 0)) q) :
    textE (fuel + 1) col mark q k out s = textE fuel 12 [45] (q != oddQ (s.take (73 - col - (if q = true then 1 else 0)))) (k + 1) (out ++ outE (k + 1) mark col ((if q = true then [34] else []) ++ s.take (73 - col - (if q = true then 1 else 0)))) (s.drop (73 - col - (if q = true then 1 else 0))) := by
  rw [textE]
  rw [if_neg h, if_neg h2]
theorem spaceGo_le : ∀ (s : Str) (i n : Nat) (q : Bool) (f : Nat), f ≤ n → f < i + s.length ∨ f = 0 → spaceGo s i n q f ≤ n ∧ (spaceGo s i n q f < i + s.length ∨ spaceGo s i n q f = 0)
  | [], i, n, q, f, h1, h2 => ⟨h1, h2⟩
  | b :: s, i, n, q, f, h1, h2 => by
    have hf : ∀ (c : Prop) [Decidable c], f ≤ n → i ≤ n → (if c then i else f) ≤ n := fun c _ a b => by by_cases hc : c; rw [if_pos hc]; exact b; rw [if_neg hc]; exact a
    unfold spaceGo
    split
    · exact ⟨h1, h2⟩
    · have := spaceGo_le s (i + 1) n (if b = 34 then !q else q) (if b = 32 ∧ (if b = 34 then !q else q) = false ∧ 0 < i then i else f) (hf _ h1 (by omega)) (by
        simp only [List.length_cons] at h2
        by_cases hc : b = 32 ∧ (if b = 34 then !q else q) = false ∧ 0 < i
        · rw [if_pos hc]; omega
        · rw [if_neg hc]; omega)
      simp only [List.length_cons]
      omega
theorem spaceE_le (s : Str) (n : Nat) (q : Bool) : spaceE s n q ≤ n ∧ spaceE s n q ≤ s.length := by
  have := spaceGo_le s 0 n q 0 (by omega) (.inr rfl)
  unfold spaceE
  omega
structure TxG where
  fuel : Nat
  col : Nat
  mark : Str
  q : Bool
  n : Nat
  st : Bld
  s : Str
structure TxOk (h : AHeap) (k : Nat) (R : Nat × Str) (M : Nat) (g : TxG) : Prop where
  fuel : g.s.length < g.fuel
  col : 8 ≤ g.col ∧ g.col ≤ 12
  mark : g.mark.length = 1
  ok : g.st.ok 5 h k
  eq : textE g.fuel g.col g.mark g.q g.n g.st.bytes g.s = R
  n : g.n + g.s.length ≤ M
  bytes : g.st.bytes.length + 100 * (g.s.length + 1) ≤ 1099511627776
theorem c_text (w₀ : World) (ht10 : Tab10 w₀) (h : AHeap) (k : Nat) (n : Nat) (st : Bld) (ht : tyOf k = some 65) (hk : h k = none) (hst : st.ok 5 h k) (col : Nat) (s : Str) (hc : 8 ≤ col) (hc2 : col ≤ 12) (hn : n + s.length ≤ 1099511627776) (hb : st.bytes.length + 100 * (s.length + 1) ≤ 1099511627776) :
    ACall Tryd.prog w₀ 26 [.ptr (.own k) 0, .int .i64 col, .str s] (bldH h k [.int .i64 n] st)
      (fun v h' => v = .tuple [] ∧ ∃ st' : Bld, st'.ok 5 h k ∧ st'.bytes = (textE (s.length + 1) col [32] false n st.bytes s).2 ∧ h' = bldH h k [.int .i64 (textE (s.length + 1) col [32] false n st.bytes s).1] st') := by
  obtain ⟨R, hR⟩ : ∃ R, R = textE (s.length + 1) col [32] false n st.bytes s := ⟨_, rfl⟩
  rw [← hR]
  refine acall_intro (n := 65) (rs := []) Tryd.func26 rfl rfl rfl rfl (Nat.le_of_ble_eq_true rfl) ?_
  simp only [initSlots]
  -- region 0  columns.go:211
  refine awp_rseq [0, 1, 2, 6, 7] (by rfl) fun K hK => ?_
  simp (decide := true) only [aOps_nil, ev, absV, absS, putD, Slots.put, Slots.keep, if_true, if_false, true_and, ↓ap_assign, pop_assign, Nat.zero_add, Nat.reduceAdd]
  repeat (with_reducible refine And.intro ?_ ?_; · first | trivial | omega | (intro hg; simp only [Bool.and_eq_true, Bool.or_eq_true, Bool.not_eq_true', Bool.and_eq_false_iff, Bool.or_eq_false_iff, Bool.not_eq_false', decide_eq_true_eq, decide_eq_false_iff_not, eqNil] at hg; omega) | (simp only [List.length_append, List.length_map, List.length_range, List.length_replicate, List.length_take, List.length_drop, List.length_cons, List.length_nil, List.length_set, List.length_reverse]; omega))
  apply hK; clear hK K
  refine awp_block ?_
  refine awp_loopG [0, 1, 2, 6, 7] (fun g : TxG => [(0, .ptr (.own k) 0), (1, .int .i64 g.col), (2, .str g.s), (6, .str g.mark), (7, .bool g.q)]) (fun g : TxG => bldH h k [.int .i64 g.n] g.st) (fun g : TxG => TxOk h k R 1099511627776 g) (fun g : TxG => g.s.length) ⟨s.length + 1, col, [32], false, n, st, s⟩ (by rfl) (Sub.refl _) ⟨by simp, ⟨hc, hc2⟩, rfl, hst, hR.symm, hn, hb⟩ ?_
  rintro ⟨fuel, cl, mk, q, m, sb, t⟩ ⟨g1, g2, g3, g4, g5, g6, g7⟩
  simp only at g1 g2 g3 g4 g5 g6 g7 ⊢
  obtain ⟨f, rfl⟩ : ∃ f, fuel = f + 1 := ⟨fuel - 1, by omega⟩
  obtain ⟨nn, hnn⟩ : ∃ nn, nn = 73 - cl - (if q = true then 1 else 0) := ⟨_, rfl⟩
  obtain ⟨ld, hld⟩ : ∃ ld : Str, ld = if q = true then [34] else [] := ⟨_, rfl⟩
  have hnn2 : 60 ≤ nn ∧ nn ≤ 65 := by rw [hnn]; split <;> omega
  have hld2 : ld.length ≤ 1 := by rw [hld]; split <;> simp
  refine awp_block ?_
  -- region 1  columns.go:213
  refine awp_rseq [0, 1, 2, 6, 7, 8] (by rfl) fun K hK => ?_
  simp (decide := true) only [aOps_nil, ev, absV, absS, putD, Slots.put, Slots.get, Slots.keep, if_true, if_false, true_and, ↓ap_move, pop_move, ↓ap_binOp, pop_binOp, isNilC_tmp, cond_false, pBinX_int, pI_sub, isNilC_int, pI_add, ↓ap_assign, pop_assign]
  try simp (disch := omega) only [wrap_i64]
  repeat (with_reducible refine And.intro ?_ ?_; · first | trivial | omega | (intro hg; simp only [Bool.and_eq_true, Bool.or_eq_true, Bool.not_eq_true', Bool.and_eq_false_iff, Bool.or_eq_false_iff, Bool.not_eq_false', decide_eq_true_eq, decide_eq_false_iff_not, eqNil] at hg; omega) | (simp only [List.length_append, List.length_map, List.length_range, List.length_replicate, List.length_take, List.length_drop, List.length_cons, List.length_nil, List.length_set, List.length_reverse]; omega))
  apply hK; clear hK K
  -- region 2  columns.go:214
  refine awp_rseq [0, 1, 2, 6, 7, 8, 9] (by rfl) fun K hK => ?_
  simp (decide := true) only [aOps_nil, ev, absV, absS, putD, Slots.put, Slots.keep, if_true, if_false, true_and, ↓ap_assign, pop_assign]
  repeat (with_reducible refine And.intro ?_ ?_; · first | trivial | omega | (intro hg; simp only [Bool.and_eq_true, Bool.or_eq_true, Bool.not_eq_true', Bool.and_eq_false_iff, Bool.or_eq_false_iff, Bool.not_eq_false', decide_eq_true_eq, decide_eq_false_iff_not, eqNil] at hg; omega) | (simp only [List.length_append, List.length_map, List.length_range, List.length_replicate, List.length_take, List.length_drop, List.length_cons, List.length_nil, List.length_set, List.length_reverse]; omega))
  apply hK; clear hK K
  refine awp_seq ?_
  -- region 3  columns.go:215
  refine awp_rseq [0, 1, 2, 6, 7, 8, 9, 14] (by rfl) fun K hK => ?_
  simp (decide := true) only [aOps_nil, ev, putD, Slots.put, Slots.get, Slots.keep, if_true, if_false, true_and, ↓ap_move, pop_move]
  repeat (with_reducible refine And.intro ?_ ?_; · first | trivial | omega | (intro hg; simp only [Bool.and_eq_true, Bool.or_eq_true, Bool.not_eq_true', Bool.and_eq_false_iff, Bool.or_eq_false_iff, Bool.not_eq_false', decide_eq_true_eq, decide_eq_false_iff_not, eqNil] at hg; omega) | (simp only [List.length_append, List.length_map, List.length_range, List.length_replicate, List.length_take, List.length_drop, List.length_cons, List.length_nil, List.length_set, List.length_reverse]; omega))
  apply hK; clear hK K
  refine awp_joinT [0, 1, 2, 6, 7, 8, 9] (fun z : Unit => [(0, .ptr (.own k) 0), (1, .int .i64 cl), (2, .str t), (6, .str mk), (7, .bool q), (8, .int .i64 nn), (9, .str ld)]) (fun z : Unit => bldH h k [.int .i64 m] sb) (fun z : Unit => mk.length = 1) ?_ ?_
  · refine awp_cond (b := _) rfl (fun hb1 => ?_) (fun hb1 => ?_)
    · try simp only [decide_eq_true_eq, decide_eq_false_iff_not, Bool.not_eq_true', Bool.not_eq_false', Bool.and_eq_true, Bool.and_eq_false_iff, Bool.or_eq_true, Bool.or_eq_false_iff, Bool.true_eq, Bool.false_eq, reduceCtorEq] at hb1
      -- region 4  columns.go:216
      refine awp_rseq [0, 1, 2, 6, 7, 8, 9] (by rfl) fun K hK => ?_
      simp (decide := true) only [aOps_nil, ev, absV, absS, putD, Slots.put, Slots.keep, if_true, if_false, true_and, ↓ap_assign, pop_assign]
      repeat (with_reducible refine And.intro ?_ ?_; · first | trivial | omega | (intro hg; simp only [Bool.and_eq_true, Bool.or_eq_true, Bool.not_eq_true', Bool.and_eq_false_iff, Bool.or_eq_false_iff, Bool.not_eq_false', decide_eq_true_eq, decide_eq_false_iff_not, eqNil] at hg; omega) | (simp only [List.length_append, List.length_map, List.length_range, List.length_replicate, List.length_take, List.length_drop, List.length_cons, List.length_nil, List.length_set, List.length_reverse]; omega))
      apply hK; clear hK K
      -- region 5  columns.go:217
      refine awp_r [0, 1, 2, 6, 7, 8, 9] (by rfl) ?_
      simp (decide := true) only [aOps_nil, ev, absV, absS, putD, Slots.put, Slots.get, Slots.keep, if_true, if_false, true_and, ↓ap_move, pop_move, ↓ap_binOp, pop_binOp, isNilC_int, cond_false, pBinX_int, pI_sub, ↓ap_assign, pop_assign]
      try simp (disch := omega) only [wrap_i64]
      repeat (with_reducible refine And.intro ?_ ?_; · first | trivial | omega | (intro hg; simp only [Bool.and_eq_true, Bool.or_eq_true, Bool.not_eq_true', Bool.and_eq_false_iff, Bool.or_eq_false_iff, Bool.not_eq_false', decide_eq_true_eq, decide_eq_false_iff_not, eqNil] at hg; omega) | (simp only [List.length_append, List.length_map, List.length_range, List.length_replicate, List.length_take, List.length_drop, List.length_cons, List.length_nil, List.length_set, List.length_reverse]; omega))
      try simp only [thenA_normal]
      refine ⟨(), ?_, Sub.refl _, g3⟩
      rw [hb1] at hnn hld
      rw [hnn, hld]
      first
      | (rw [show (72 : Int) - (cl : Int) + 1 - 1 = ((73 - cl - 1 : Nat) : Int) by omega]; rfl)
      | (rw [show (72 : Int) - (cl : Int) + 1 = ((73 - cl - 0 : Nat) : Int) by omega]; rfl)
    · try simp only [decide_eq_true_eq, decide_eq_false_iff_not, Bool.not_eq_true', Bool.not_eq_false', Bool.and_eq_true, Bool.and_eq_false_iff, Bool.or_eq_true, Bool.or_eq_false_iff, Bool.true_eq, Bool.false_eq, reduceCtorEq] at hb1
      refine awp_skip ?_
      try simp only [thenA_normal]
      refine ⟨(), ?_, Sub.refl _, g3⟩
      rw [hb1] at hnn hld
      rw [hnn, hld]
      first
      | (rw [show (72 : Int) - (cl : Int) + 1 - 1 = ((73 - cl - 1 : Nat) : Int) by omega]; rfl)
      | (rw [show (72 : Int) - (cl : Int) + 1 = ((73 - cl - 0 : Nat) : Int) by omega]; rfl)
  · intro _ _
    refine awp_seq ?_
    -- region 6  columns.go:219
    refine awp_rseq [0, 1, 2, 6, 7, 8, 9, 20] (by rfl) fun K hK => ?_
    simp (decide := true) only [aOps_nil, ev, putD, Slots.put, Slots.get, Slots.keep, if_true, if_false, true_and, ↓ap_move, pop_move, ↓ap_len, pop_len, pLen_str Tryd.underlying9, ↓ap_binOp, pop_binOp, isNilC_tmp, cond_false, pBinX_int, pI_leq]
    repeat (with_reducible refine And.intro ?_ ?_; · first | trivial | omega | (intro hg; simp only [Bool.and_eq_true, Bool.or_eq_true, Bool.not_eq_true', Bool.and_eq_false_iff, Bool.or_eq_false_iff, Bool.not_eq_false', decide_eq_true_eq, decide_eq_false_iff_not, eqNil] at hg; omega) | (simp only [List.length_append, List.length_map, List.length_range, List.length_replicate, List.length_take, List.length_drop, List.length_cons, List.length_nil, List.length_set, List.length_reverse]; omega))
    apply hK; clear hK K
    refine awp_cond (b := _) rfl (fun hb2 => ?_) (fun hb2 => ?_)
    · try simp only [decide_eq_true_eq] at hb2
      have hsh : t.length ≤ nn := by omega
      -- region 7  columns.go:220
      refine awp_rseq [] (by rfl) fun K hK => ?_
      simp (decide := true) only [ev, putD, Slots.put, Slots.get, if_true, if_false, true_and, ↓ap_move, pop_move, ↓ap_binOp, pop_binOp, isNilC_tmp, cond_false, pBinX_str, pS_add]
      repeat (with_reducible refine And.intro ?_ ?_; · first | trivial | omega | (intro hg; simp only [Bool.and_eq_true, Bool.or_eq_true, Bool.not_eq_true', Bool.and_eq_false_iff, Bool.or_eq_false_iff, Bool.not_eq_false', decide_eq_true_eq, decide_eq_false_iff_not, eqNil] at hg; omega) | (simp only [List.length_append, List.length_map, List.length_range, List.length_replicate, List.length_take, List.length_drop, List.length_cons, List.length_nil, List.length_set, List.length_reverse]; omega))
      refine aOps_call (by rfl) (by rfl) (c_line w₀ ht10 h k m sb ht hk g4 mk cl (ld ++ t) (by omega) (by omega) g2.1 (by omega) (by simp; omega) (by omega)) fun x7q6 h7q6 hx7q6 => ?_
      obtain ⟨rfl, st', s1, s2, rfl⟩ := hx7q6
      rw [textE_short (by rw [← hnn]; exact hsh), ← hld] at g5
      simp (decide := true) only [aOps_nil, putD, Slots.put, Slots.keep, if_false]
      repeat (with_reducible refine And.intro ?_ ?_; · first | trivial | omega | (intro hg; simp only [Bool.and_eq_true, Bool.or_eq_true, Bool.not_eq_true', Bool.and_eq_false_iff, Bool.or_eq_false_iff, Bool.not_eq_false', decide_eq_true_eq, decide_eq_false_iff_not, eqNil] at hg; omega) | (simp only [List.length_append, List.length_map, List.length_range, List.length_replicate, List.length_take, List.length_drop, List.length_cons, List.length_nil, List.length_set, List.length_reverse]; omega))
      apply hK; clear hK K
      refine awp_ret ?_
      try simp only [thenA_ret, inBlockA_ret]
      refine retA_ret _ (Sub.refl _) (resPre_nil) ?_
      simp (decide := true) only [true_and, resOf_nil]
      exact ⟨st', s1, by rw [s2, ← g5], by rw [← g5]⟩
    · try simp only [decide_eq_false_iff_not] at hb2
      have hsh : ¬ t.length ≤ nn := by omega
      obtain ⟨sl1, sl2⟩ := spaceE_le t nn q
      refine awp_skip ?_
      change Awp _ _ _ _ _ _ _
      refine awp_seq ?_
      -- region 8  columns.go:223
      refine awp_rseq [0, 1, 2, 6, 7, 8, 9, 10] (by rfl) fun K hK => ?_
      simp (decide := true) only [ev, putD, Slots.put, Slots.get, if_true, if_false, true_and, ↓ap_move, pop_move]
      repeat (with_reducible refine And.intro ?_ ?_; · first | trivial | omega | (intro hg; simp only [Bool.and_eq_true, Bool.or_eq_true, Bool.not_eq_true', Bool.and_eq_false_iff, Bool.or_eq_false_iff, Bool.not_eq_false', decide_eq_true_eq, decide_eq_false_iff_not, eqNil] at hg; omega) | (simp only [List.length_append, List.length_map, List.length_range, List.length_replicate, List.length_take, List.length_drop, List.length_cons, List.length_nil, List.length_set, List.length_reverse]; omega))
      refine aOps_callV (V := .int .i64 (spaceE t nn q)) (by rfl) (by rfl) (c_space w₀ _ t nn q (by omega) (by omega)) ?_
      simp (decide := true) only [aOps_nil, ev, putD, Slots.put, Slots.get, Slots.keep, if_true, if_false, true_and, ↓ap_assign, pop_assign]
      repeat (with_reducible refine And.intro ?_ ?_; · first | trivial | omega | (intro hg; simp only [Bool.and_eq_true, Bool.or_eq_true, Bool.not_eq_true', Bool.and_eq_false_iff, Bool.or_eq_false_iff, Bool.not_eq_false', decide_eq_true_eq, decide_eq_false_iff_not, eqNil] at hg; omega) | (simp only [List.length_append, List.length_map, List.length_range, List.length_replicate, List.length_take, List.length_drop, List.length_cons, List.length_nil, List.length_set, List.length_reverse]; omega))
      apply hK; clear hK K
      -- region 9  columns.go:223
      refine awp_rseq [0, 1, 2, 6, 7, 8, 9, 10, 33] (by rfl) fun K hK => ?_
      simp (decide := true) only [aOps_nil, ev, absV, absS, putD, Slots.put, Slots.get, Slots.keep, if_true, if_false, true_and, ↓ap_move, pop_move, ↓ap_binOp, pop_binOp, isNilC_int, cond_false, pBinX_int, pI_gtr]
      repeat (with_reducible refine And.intro ?_ ?_; · first | trivial | omega | (intro hg; simp only [Bool.and_eq_true, Bool.or_eq_true, Bool.not_eq_true', Bool.and_eq_false_iff, Bool.or_eq_false_iff, Bool.not_eq_false', decide_eq_true_eq, decide_eq_false_iff_not, eqNil] at hg; omega) | (simp only [List.length_append, List.length_map, List.length_range, List.length_replicate, List.length_take, List.length_drop, List.length_cons, List.length_nil, List.length_set, List.length_reverse]; omega))
      apply hK; clear hK K
      refine awp_cond (b := _) rfl (fun hb3 => ?_) (fun hb3 => ?_)
      · try simp only [decide_eq_true_eq] at hb3
        have hsp : 0 < spaceE t nn q := by omega
        have hdr : (t.drop ((spaceE t nn q : Nat) : Int).toNat).take ((t.length : Int).toNat - ((spaceE t nn q : Nat) : Int).toNat) = t.drop (spaceE t nn q) := by
          rw [Int.toNat_natCast, Int.toNat_natCast, List.take_of_length_le (by simp)]
        have htl := trimL_le (t.drop (spaceE t nn q))
        have htl2 : (t.drop (spaceE t nn q)).length = t.length - spaceE t nn q := by simp
        rw [hnn] at hsp
        rw [textE_space (by rw [← hnn]; exact hsh) hsp, ← hnn, ← hld] at g5
        rw [← hnn] at hsp
        -- region 10  columns.go:224
        refine awp_rseq [0, 2, 10] (by rfl) fun K hK => ?_
        simp (decide := true) only [ev, putD, Slots.put, Slots.get, if_true, if_false, true_and, ↓ap_move, pop_move, ↓ap_slice, pop_slice, evO, pSliceS_0i Tryd.underlying9, pSliceS, bndA_none, bndA_int, ↓ap_binOp, pop_binOp, isNilC_tmp, cond_false, pBinX_str, pS_add]
        repeat (with_reducible refine And.intro ?_ ?_; · first | trivial | omega | (intro hg; simp only [Bool.and_eq_true, Bool.or_eq_true, Bool.not_eq_true', Bool.and_eq_false_iff, Bool.or_eq_false_iff, Bool.not_eq_false', decide_eq_true_eq, decide_eq_false_iff_not, eqNil] at hg; omega) | (simp only [List.length_take, List.length_drop]; omega))
        refine aOps_call (by rfl) (by rfl) (c_line w₀ ht10 h k m sb ht hk g4 mk cl (ld ++ t.take (spaceE t nn q)) (by omega) (by omega) g2.1 (by omega) (by simp; omega) (by omega)) fun x10q8 h10q8 hx10q8 => ?_
        obtain ⟨-, st', s1, s2, rfl⟩ := hx10q8
        have hol := outE_len (m + 1) cl mk (ld ++ t.take (spaceE t nn q))
        have hlt : (trimL (t.drop (spaceE t nn q))).length < t.length := by omega
        have hg : TxOk h k R 1099511627776 ⟨f, 12, [32], false, m + 1, st', trimL (t.drop (spaceE t nn q))⟩ := by
          refine ⟨by simp only; omega, ⟨by simp only; omega, by simp only; omega⟩, rfl, s1, by rw [s2]; exact g5, by simp only; omega, ?_⟩
          simp only [s2, List.length_append, List.length_take] at hol ⊢
          omega
        simp (decide := true) only [aOps_nil, putD, Slots.put, Slots.keep, if_true, if_false]
        repeat (with_reducible refine And.intro ?_ ?_; · first | trivial | omega | (intro hg; simp only [Bool.and_eq_true, Bool.or_eq_true, Bool.not_eq_true', Bool.and_eq_false_iff, Bool.or_eq_false_iff, Bool.not_eq_false', decide_eq_true_eq, decide_eq_false_iff_not, eqNil] at hg; omega) | (simp only [List.length_append, List.length_map, List.length_range, List.length_replicate, List.length_take, List.length_drop, List.length_cons, List.length_nil, List.length_set, List.length_reverse]; omega))
        apply hK; clear hK K
        -- region 11  columns.go:225
        refine awp_r [0, 2, 6, 7] (by rfl) ?_
        simp (decide := true) only [ev, putD, Slots.put, Slots.get, if_true, if_false, true_and, ↓ap_move, pop_move, ↓ap_slice, pop_slice, evO, pSliceS_i0 Tryd.underlying9, pSliceS, bndA_none, bndA_int, hdr]
        repeat (with_reducible refine And.intro ?_ ?_; · first | trivial | omega | (intro hg; simp only [Bool.and_eq_true, Bool.or_eq_true, Bool.not_eq_true', Bool.and_eq_false_iff, Bool.or_eq_false_iff, Bool.not_eq_false', decide_eq_true_eq, decide_eq_false_iff_not, eqNil] at hg; omega) | (simp only [List.length_append, List.length_map, List.length_range, List.length_replicate, List.length_take, List.length_drop, List.length_cons, List.length_nil, List.length_set, List.length_reverse]; omega))
        refine aOps_callV (V := .str (trimL (t.drop (spaceE t nn q)))) (by rfl) (by rfl) (c_trimL w₀ _ _) ?_
        simp (decide := true) only [aOps_nil, ev, absV, absS, putD, Slots.put, Slots.get, Slots.keep, if_true, if_false, true_and, ↓ap_assign, pop_assign]
        repeat (with_reducible refine And.intro ?_ ?_; · first | trivial | omega | (intro hg; simp only [Bool.and_eq_true, Bool.or_eq_true, Bool.not_eq_true', Bool.and_eq_false_iff, Bool.or_eq_false_iff, Bool.not_eq_false', decide_eq_true_eq, decide_eq_false_iff_not, eqNil] at hg; omega) | (simp only [List.length_append, List.length_map, List.length_range, List.length_replicate, List.length_take, List.length_drop, List.length_cons, List.length_nil, List.length_set, List.length_reverse]; omega))
        change Awp _ _ _ _ _ _ _
        -- region 15  columns.go:231
        refine awp_r [0, 1, 2, 6, 7] (by rfl) ?_
        simp (decide := true) only [aOps_nil, ev, absV, absS, putD, Slots.put, Slots.keep, if_true, if_false, true_and, ↓ap_assign, pop_assign]
        repeat (with_reducible refine And.intro ?_ ?_; · first | trivial | omega | (intro hg; simp only [Bool.and_eq_true, Bool.or_eq_true, Bool.not_eq_true', Bool.and_eq_false_iff, Bool.or_eq_false_iff, Bool.not_eq_false', decide_eq_true_eq, decide_eq_false_iff_not, eqNil] at hg; omega) | (simp only [List.length_append, List.length_map, List.length_range, List.length_replicate, List.length_take, List.length_drop, List.length_cons, List.length_nil, List.length_set, List.length_reverse]; omega))
        try simp only [thenA_normal, inBlockA_normal]
        first
        | exact ⟨⟨f, 12, [32], false, m + 1, st', trimL (t.drop (spaceE t nn q))⟩, rfl, Sub.refl _, hg, hlt⟩
        | exact ⟨⟨f, 12, [45], q != oddQ (t.take nn), m + 1, st', t.drop nn⟩, rfl, Sub.refl _, hg, hlt⟩
      · try simp only [decide_eq_false_iff_not] at hb3
        have hsp : ¬ 0 < spaceE t nn q := by omega
        have hdr : (t.drop (nn : Int).toNat).take ((t.length : Int).toNat - (nn : Int).toNat) = t.drop nn := by
          rw [Int.toNat_natCast, Int.toNat_natCast, List.take_of_length_le (by simp)]
        rw [hnn] at hsp
        rw [textE_cut (by rw [← hnn]; exact hsh) hsp, ← hnn, ← hld] at g5
        -- region 12  columns.go:227
        refine awp_rseq [0, 2, 7, 8] (by rfl) fun K hK => ?_
        simp (decide := true) only [ev, putD, Slots.put, Slots.get, if_true, if_false, true_and, ↓ap_move, pop_move, ↓ap_slice, pop_slice, evO, pSliceS_0i Tryd.underlying9, pSliceS, bndA_none, bndA_int, ↓ap_binOp, pop_binOp, isNilC_tmp, cond_false, pBinX_str, pS_add]
        repeat (with_reducible refine And.intro ?_ ?_; · first | trivial | omega | (intro hg; simp only [Bool.and_eq_true, Bool.or_eq_true, Bool.not_eq_true', Bool.and_eq_false_iff, Bool.or_eq_false_iff, Bool.not_eq_false', decide_eq_true_eq, decide_eq_false_iff_not, eqNil] at hg; omega) | (simp only [List.length_take, List.length_drop]; omega))
        refine aOps_call (by rfl) (by rfl) (c_line w₀ ht10 h k m sb ht hk g4 mk cl (ld ++ t.take nn) (by omega) (by omega) g2.1 (by omega) (by simp; omega) (by omega)) fun x12q8 h12q8 hx12q8 => ?_
        obtain ⟨-, st', s1, s2, rfl⟩ := hx12q8
        have hol := outE_len (m + 1) cl mk (ld ++ t.take nn)
        have hlt : (t.drop nn).length < t.length := by simp; omega
        have hg : TxOk h k R 1099511627776 ⟨f, 12, [45], q != oddQ (t.take nn), m + 1, st', t.drop nn⟩ := by
          refine ⟨by simp only [List.length_drop]; omega, ⟨by simp only; omega, by simp only; omega⟩, rfl, s1, by rw [s2]; exact g5, by simp only [List.length_drop]; omega, ?_⟩
          simp only [s2, List.length_append, List.length_take, List.length_drop] at hol ⊢
          omega
        simp (decide := true) only [aOps_nil, putD, Slots.put, Slots.keep, if_true, if_false]
        repeat (with_reducible refine And.intro ?_ ?_; · first | trivial | omega | (intro hg; simp only [Bool.and_eq_true, Bool.or_eq_true, Bool.not_eq_true', Bool.and_eq_false_iff, Bool.or_eq_false_iff, Bool.not_eq_false', decide_eq_true_eq, decide_eq_false_iff_not, eqNil] at hg; omega) | (simp only [List.length_append, List.length_map, List.length_range, List.length_replicate, List.length_take, List.length_drop, List.length_cons, List.length_nil, List.length_set, List.length_reverse]; omega))
        apply hK; clear hK K
        -- region 13  columns.go:228
        refine awp_rseq [0, 2, 6, 7, 8] (by rfl) fun K hK => ?_
        simp (decide := true) only [ev, putD, Slots.put, Slots.get, if_true, if_false, true_and, ↓ap_move, pop_move, ↓ap_slice, pop_slice, evO, pSliceS_0i Tryd.underlying9, pSliceS, bndA_none, bndA_int]
        repeat (with_reducible refine And.intro ?_ ?_; · first | trivial | omega | (intro hg; simp only [Bool.and_eq_true, Bool.or_eq_true, Bool.not_eq_true', Bool.and_eq_false_iff, Bool.or_eq_false_iff, Bool.not_eq_false', decide_eq_true_eq, decide_eq_false_iff_not, eqNil] at hg; omega) | (simp only [List.length_append, List.length_map, List.length_range, List.length_replicate, List.length_take, List.length_drop, List.length_cons, List.length_nil, List.length_set, List.length_reverse]; omega))
        refine aOps_callV (V := .bool (oddQ (t.take nn))) (by rfl) (by rfl) (c_open w₀ _ _ (by simp; omega)) ?_
        simp (decide := true) only [aOps_nil, ev, absV, absS, putD, Slots.put, Slots.get, Slots.keep, if_true, if_false, true_and, ↓ap_binOp, pop_binOp, isNilC_tmp, cond_false, pBinX_bne, Tryd.underlying4, ↓ap_assign, pop_assign]
        repeat (with_reducible refine And.intro ?_ ?_; · first | trivial | omega | (intro hg; simp only [Bool.and_eq_true, Bool.or_eq_true, Bool.not_eq_true', Bool.and_eq_false_iff, Bool.or_eq_false_iff, Bool.not_eq_false', decide_eq_true_eq, decide_eq_false_iff_not, eqNil] at hg; omega) | (simp only [List.length_append, List.length_map, List.length_range, List.length_replicate, List.length_take, List.length_drop, List.length_cons, List.length_nil, List.length_set, List.length_reverse]; omega))
        apply hK; clear hK K
        -- region 14  columns.go:229
        refine awp_r [0, 2, 6, 7] (by rfl) ?_
        simp (decide := true) only [aOps_nil, ev, putD, Slots.put, Slots.get, Slots.keep, if_true, if_false, true_and, ↓ap_move, pop_move, ↓ap_slice, pop_slice, evO, pSliceS_i0 Tryd.underlying9, pSliceS, bndA_none, bndA_int, ↓ap_assign, pop_assign, hdr]
        repeat (with_reducible refine And.intro ?_ ?_; · first | trivial | omega | (intro hg; simp only [Bool.and_eq_true, Bool.or_eq_true, Bool.not_eq_true', Bool.and_eq_false_iff, Bool.or_eq_false_iff, Bool.not_eq_false', decide_eq_true_eq, decide_eq_false_iff_not, eqNil] at hg; omega) | (simp only [List.length_append, List.length_map, List.length_range, List.length_replicate, List.length_take, List.length_drop, List.length_cons, List.length_nil, List.length_set, List.length_reverse]; omega))
        change Awp _ _ _ _ _ _ _
        -- region 15  columns.go:231
        refine awp_r [0, 1, 2, 6, 7] (by rfl) ?_
        simp (decide := true) only [aOps_nil, ev, absV, absS, putD, Slots.put, Slots.keep, if_true, if_false, true_and, ↓ap_assign, pop_assign]
        repeat (with_reducible refine And.intro ?_ ?_; · first | trivial | omega | (intro hg; simp only [Bool.and_eq_true, Bool.or_eq_true, Bool.not_eq_true', Bool.and_eq_false_iff, Bool.or_eq_false_iff, Bool.not_eq_false', decide_eq_true_eq, decide_eq_false_iff_not, eqNil] at hg; omega) | (simp only [List.length_append, List.length_map, List.length_range, List.length_replicate, List.length_take, List.length_drop, List.length_cons, List.length_nil, List.length_set, List.length_reverse]; omega))
        try simp only [thenA_normal, inBlockA_normal]
        first
        | exact ⟨⟨f, 12, [32], false, m + 1, st', trimL (t.drop (spaceE t nn q))⟩, rfl, Sub.refl _, hg, hlt⟩
        | exact ⟨⟨f, 12, [45], q != oddQ (t.take nn), m + 1, st', t.drop nn⟩, rfl, Sub.refl _, hg, hlt⟩
end Go.Proofs.YtikpnhdjjabdmaaDoor

/-
  Contracts: Len of strings.Builder; Write of the package columns.
  Conditions: none.
-/
namespace Go.Proofs.YtikpnhdjjabdmaaDoor
open Go.AM
open Go.Proofs
open Go.Col
set_option maxRecDepth 100000

theorem Bld.slice_len {st : Bld} : st.slice = .nilSlice ∧ st.bytes = [] ∨ ∃ l o c, st.slice = .slice l o st.bytes.length c := by
  cases hb : st.buf with
  | none => exact .inl ⟨Bld.slice_nil hb, Bld.bytes_nil hb⟩
  | some q => exact .inr ⟨.own q.1, 0, .grow 1, by rw [Bld.slice_some (kb := q.1) (l := q.2) hb, Bld.bytes_some (kb := q.1) (l := q.2) hb]⟩
theorem c_bLen (w₀ : World) (h : AHeap) (k : Nat) (rest : List AVal) (st : Bld) (hst : st.ok 5 h k) :
    ACall Tryd.prog w₀ 27 [.ptr (.own k) 0] (bldH h k rest st) (fun v h' => v = .int .i64 st.bytes.length ∧ h' = bldH h k rest st) := by
  have hhead := bldH_head (rest := rest) hst
  have r1 : rd w₀ (bldH h k rest st) (.own k) 1 = st.slice := rd_own w₀ hhead 1
  have hl : pLen Tryd.prog 61 st.slice = ⟨True, .int .i64 st.bytes.length⟩ := by
    rcases Bld.slice_len (st := st) with ⟨e1, e2⟩ | ⟨l, o, c, e⟩
    · rw [e1, e2]; exact pLen_nil Tryd.underlying61
    · rw [e]; exact pLen_slice Tryd.underlying61 _ _ _ _
  refine acall_intro (n := 8) (rs := [.tmp 2]) Tryd.func27 rfl rfl rfl rfl (Nat.le_of_ble_eq_true rfl) ?_
  simp only [initSlots]
  -- region 0  builder.go:51
  refine awp_rseq [0] (by rfl) fun K hK => ?_
  simp (decide := true) only [aOps_nil, ev, absV, absS, putD, Slots.put, Slots.keep, if_true, if_false, true_and, ↓ap_assign, pop_assign]
  repeat (with_reducible refine And.intro ?_ ?_; · first | trivial | omega | (intro hg; simp only [Bool.and_eq_true, Bool.or_eq_true, Bool.not_eq_true', Bool.and_eq_false_iff, Bool.or_eq_false_iff, Bool.not_eq_false', decide_eq_true_eq, decide_eq_false_iff_not, eqNil] at hg; omega) )
  apply hK; clear hK K
  -- region 1  builder.go:51
  refine awp_rseq [2] (by rfl) fun K hK => ?_
  simp (decide := true) only [aOps_nil, ev, putD, Slots.put, Slots.get, Slots.keep, if_true, if_false, true_and, ↓ap_move, pop_move, ↓ap_nilCheck, pop_nilCheck, pNil_ptr, ↓ap_fieldAddr, pop_fieldAddr, fa63_1, ↓ap_loadL, apL_mk, pLoad_one ag61, ↓ap_len, pop_len, ↓ap_assign, pop_assign, r1, Bld.slice_live, hl]
  repeat (with_reducible refine And.intro ?_ ?_; · first | trivial | omega | (intro hg; simp only [Bool.and_eq_true, Bool.or_eq_true, Bool.not_eq_true', Bool.and_eq_false_iff, Bool.or_eq_false_iff, Bool.not_eq_false', decide_eq_true_eq, decide_eq_false_iff_not, eqNil] at hg; omega) )
  apply hK; clear hK K
  refine awp_ret ?_
  try simp only [thenA_ret, inBlockA_ret]
  refine retA_ret _ (Sub.refl _) (resPre_tmp (resPre_nil)) ?_
  simp (decide := true) only [Slots.get, if_true, and_true, resOf_one]
  all_goals first | rfl | exact ⟨rfl, rfl⟩ | (simp (decide := true) only [if_true, if_false, *]; done) | (trace_state; fail)
def lineC (l : Bool × Str) : List AVal := [.bool l.1, .str l.2]
theorem Sub.bldH_both {h h' : AHeap} {k : Nat} {rest : List AVal} {b : Bld} (hs : Sub h h') : Sub (bldH h k rest b) (bldH h' k rest b) := by
  cases hbuf : b.buf with
  | none => rw [bldH_nil hbuf, bldH_nil hbuf]; exact Sub.set_both hs _ _
  | some q => rw [bldH_some (kb := q.1) (l := q.2) hbuf, bldH_some (kb := q.1) (l := q.2) hbuf]; exact Sub.set_both (Sub.set_both hs _ _) _ _
theorem Bld.ok_lay {h : AHeap} {k : Nat} {rest : List AVal} {e : TypeId} {b : Bld} (hb : b.ok e h k) {j : Nat} (hj : bldH h k rest b j = none) (c : Blk) : b.ok e (h.set j c) k := by
  cases hbuf : b.buf with
  | none => exact Bld.ok_nil hbuf
  | some q =>
    obtain ⟨h1, h2, h3, h4⟩ := (Bld.ok_some hbuf).1 hb
    refine (Bld.ok_some hbuf).2 ⟨h1, ?_, h3, h4⟩
    rw [AHeap.set_ne _ _ (fun e => by rw [← e, bldH_buf hbuf] at hj; cases hj)]
    exact h2
theorem lineC_at {w₀ : World} {h : AHeap} {ls : List (Bool × Str)} {l : AM.Loc} {o : Nat} {cp : Cap} (hm : IsL w₀ h 2 (.slice l o ls.length cp) (ls.map lineC)) {i : Nat} (hi : i < ls.length) :
    rd w₀ h l (o + i * 2) = .bool (ls.getD i (false, [])).1 ∧ rd w₀ h l (o + i * 2 + 1) = .str (ls.getD i (false, [])).2 := by
  have he := hm.elem (i := i) (by rw [List.length_map]; exact hi)
  rw [getD_map (false, []) hi] at he
  simp only [cellsAt, lineC, List.cons.injEq, and_true] at he
  exact he
theorem textE_n : ∀ (f col : Nat) (mark : Str) (q : Bool) (k : Nat) (out s : Str), (textE f col mark q k out s).1 ≤ k + f
  | 0, _, _, _, _, _, _ => Nat.le_refl _
  | f + 1, col, mark, q, k, out, s => by
    by_cases h : s.length ≤ 73 - col - (if q = true then 1 else 0)
    · rw [textE_short h]; show k + 1 ≤ k + (f + 1); omega
    · by_cases h2 : 0 < spaceE s (73 - col - (if q = true then 1 else 0)) q
      · rw [textE_space h h2]
        have := textE_n f 12 [32] false (k + 1) (out ++ outE (k + 1) mark col ((if q = true then [34] else []) ++ s.take (spaceE s (73 - col - (if q = true then 1 else 0)) q))) (trimL (s.drop (spaceE s (73 - col - (if q = true then 1 else 0)) q)))
        omega
      · rw [textE_cut h h2]
        have := textE_n f 12 [45] (q != oddQ (s.take (73 - col - (if q = true then 1 else 0)))) (k + 1) (out ++ outE (k + 1) mark col ((if q = true then [34] else []) ++ s.take (73 - col - (if q = true then 1 else 0)))) (s.drop (73 - col - (if q = true then 1 else 0)))
        omega
theorem right_parts (s : Str) : rightE s = (!decide (s = []) && s.all okB && !decide (s.getD 0 0 = 32) && !decide (s.getD (s.length - 1) 0 = 32) && !oddQ s) := by
  unfold rightE
  by_cases hs : s = []
  · subst hs; rfl
  · have : s.getLast? = some (s.getD (s.length - 1) 0) := by
      rw [List.getLast?_eq_getElem?, List.getD_eq_getElem?_getD]
      have : s.length - 1 < s.length := by have := List.length_pos_iff.2 hs; omega
      rw [List.getElem?_eq_getElem this]
      rfl
    rw [this]
    simp only [Option.some.injEq]
/-- What Write answers behind the test: the lines' number so far, the output so far. -/
def writeGo : List (Bool × Str) → Nat → Str → Str × Int
  | [], _, out => (out, 0)
  | l :: r, n, out => if 1048576 < (textE (l.2.length + 1) (if l.1 = true then 8 else 12) [32] false n out l.2).2.length then ([], 3) else writeGo r (textE (l.2.length + 1) (if l.1 = true then 8 else 12) [32] false n out l.2).1 (textE (l.2.length + 1) (if l.1 = true then 8 else 12) [32] false n out l.2).2
def writeE (ls : List (Bool × Str)) : Str × Int := if (ls.all fun l => rightE l.2) = true then writeGo ls 0 [] else ([], 1)
theorem drop_getD {α : Type} (d : α) {l : List α} {i : Nat} (hi : i < l.length) : l.drop i = l.getD i d :: l.drop (i + 1) := by
  rw [List.drop_eq_getElem_cons hi]
  simp [List.getD, hi]
structure WrG where
  i : Nat
  n : Nat
  st : Bld
structure WrOk (ls : List (Bool × Str)) (h : AHeap) (k : Nat) (g : WrG) : Prop where
  i : g.i ≤ ls.length
  n : g.n ≤ g.i * 1000002
  ok : g.st.ok 5 h k
  bytes : g.st.bytes.length ≤ 1048576
  eq : writeGo (ls.drop g.i) g.n g.st.bytes = writeGo ls 0 []
theorem c_Write (w₀ : World) (ht10 : Tab10 w₀) (h : AHeap) (ls : List (Bool × Str)) (l : AM.Loc) (o : Nat) (cp : Cap) (hm : IsL w₀ h 2 (.slice l o ls.length cp) (ls.map lineC)) (hl : ls.length ≤ 1000) (ht : ∀ x ∈ ls, x.2.length ≤ 1000000) :
    ACall Tryd.prog w₀ 9 [.slice l o ls.length cp] h (fun v h' => v = .tuple [.str (writeE ls).1, .int .i64 (writeE ls).2] ∧ Sub h h') := by
  refine acall_intro (n := 65) (rs := [.tmp 2, .tmp 3]) Tryd.func9 rfl rfl rfl rfl (Nat.le_of_ble_eq_true rfl) ?_
  simp only [initSlots]
  -- region 0  columns.go:236
  refine awp_rseq [0] (by rfl) fun K hK => ?_
  simp (decide := true) only [aOps_nil, ev, absV, absS, putD, Slots.put, Slots.keep, if_true, if_false, true_and, ↓ap_assign, pop_assign]
  repeat (with_reducible refine And.intro ?_ ?_; · first | trivial | omega | (intro hg; simp only [Bool.and_eq_true, Bool.or_eq_true, Bool.not_eq_true', Bool.and_eq_false_iff, Bool.or_eq_false_iff, Bool.not_eq_false', decide_eq_true_eq, decide_eq_false_iff_not, eqNil] at hg; omega) )
  apply hK; clear hK K
  refine awp_seq ?_
  -- region 1  columns.go:237
  refine awp_rseq [0, 10, 11, 12] (by rfl) fun K hK => ?_
  simp (decide := true) only [aOps_nil, ev, absV, absS, putD, Slots.put, Slots.get, Slots.keep, if_true, if_false, true_and, ↓ap_move, pop_move, ↓ap_len, pop_len, pLen_slice Tryd.underlying28]
  repeat (with_reducible refine And.intro ?_ ?_; · first | trivial | omega | (intro hg; simp only [Bool.and_eq_true, Bool.or_eq_true, Bool.not_eq_true', Bool.and_eq_false_iff, Bool.or_eq_false_iff, Bool.not_eq_false', decide_eq_true_eq, decide_eq_false_iff_not, eqNil] at hg; omega) )
  apply hK; clear hK K
  refine awp_block ?_
  refine awp_loopG [0, 10, 11, 12] (fun i : Nat => [(0, .slice l o ls.length cp), (10, .slice l o ls.length cp), (11, .int .i64 ls.length), (12, .int .i64 i)]) (fun i : Nat => h) (fun i : Nat => i ≤ ls.length ∧ (ls.all fun x => rightE x.2) = ((ls.drop i).all fun x => rightE x.2)) (fun i : Nat => ls.length - i) 0 (by rfl) (Sub.refl _) ⟨Nat.zero_le _, rfl⟩ ?_
  rintro i ⟨hi, hg⟩
  -- region 2  columns.go:237
  refine awp_rseq [0, 10, 11, 12, 13] (by rfl) fun K hK => ?_
  simp (decide := true) only [aOps_nil, ev, putD, Slots.put, Slots.get, Slots.keep, if_true, if_false, true_and, ↓ap_binOp, pop_binOp, isNilC_tmp, cond_false, pBinX_int, pI_lss]
  repeat (with_reducible refine And.intro ?_ ?_; · first | trivial | omega | (intro hg; simp only [Bool.and_eq_true, Bool.or_eq_true, Bool.not_eq_true', Bool.and_eq_false_iff, Bool.or_eq_false_iff, Bool.not_eq_false', decide_eq_true_eq, decide_eq_false_iff_not, eqNil] at hg; omega) )
  apply hK; clear hK K
  refine awp_seq (awp_cond (b := _) rfl (fun hb1 => ?_) (fun hb1 => ?_))
  · try simp only [decide_eq_true_eq] at hb1
    have hi' : i < ls.length := by omega
    obtain ⟨e0, e1⟩ := lineC_at hm hi'
    obtain ⟨x, hx⟩ : ∃ x, x = ls.getD i (false, []) := ⟨_, rfl⟩
    have hxl : x.2.length ≤ 1000000 := by rw [hx, List.getD, List.getElem?_eq_getElem hi']; exact ht _ (List.getElem_mem hi')
    rw [← hx] at e0 e1
    rw [drop_getD (false, []) hi', ← hx, List.all_cons] at hg
    have hn0 : ¬ x.2 = [] → 0 < x.2.length := fun q => List.length_pos_iff.2 q
    refine awp_skip ?_
    change Awp _ _ _ _ _ _ _
    refine awp_seq ?_
    refine awp_block ?_
    -- region 3  columns.go:237
    refine awp_rseq [0, 5, 10, 11, 12] (by rfl) fun K hK => ?_
    simp (decide := true) only [ev, putD, Slots.put, Slots.get, if_true, if_false, true_and, ↓ap_indexAddrL, apL_mk, pIndexAddr_slice Tryd.underlying28 sz27, ↓ap_loadL, pLoad_agg ag27 sz27, cellsAt, lv_bool, lv_str, allLive, cellsAt, e0, e1, Int.toNat_natCast, lv_bool, lv_str, allLive, Bool.and_self]
    repeat (with_reducible refine And.intro ?_ ?_; · first | trivial | omega | (intro hg; simp only [Bool.and_eq_true, Bool.or_eq_true, Bool.not_eq_true', Bool.and_eq_false_iff, Bool.or_eq_false_iff, Bool.not_eq_false', decide_eq_true_eq, decide_eq_false_iff_not, eqNil] at hg; omega) )
    refine aOps_alloc ze27 (cs := [.bool false, .str []]) (by rfl) fun k3q2 hk3q2 => ?_
    try have hf_3q2 : h k3q2 = none := by first | assumption | (simp only [AHeap.set_none] at hk3q2; simp only [hk3q2])
    refine aOps_store (by rfl) (by rfl) (by repeat (first | exact AHeap.set_same _ _ _ | assumption | refine (AHeap.set_ne _ _ (by first | assumption | exact Ne.symm (by assumption))).trans ?_)) sz27 (by rfl) (by rfl) (by first | exact Nat.le_refl _ | decide | (simp; done) | (simp; omega)) (Nat.zero_le _) (by rfl) ?_
    simp only [AHeap.set_set, AVal.cells]
    simp (decide := true) only [aOps_nil, ev, putD, Slots.put, Slots.get, Slots.keep, if_true, if_false, setAt, List.set_cons_zero, List.set_cons_succ, Nat.zero_add]
    repeat (with_reducible refine And.intro ?_ ?_; · first | trivial | omega | (intro hg; simp only [Bool.and_eq_true, Bool.or_eq_true, Bool.not_eq_true', Bool.and_eq_false_iff, Bool.or_eq_false_iff, Bool.not_eq_false', decide_eq_true_eq, decide_eq_false_iff_not, eqNil] at hg; omega) )
    apply hK; clear hK K
    -- region 4  columns.go:238
    refine awp_rseq [0, 10, 11, 12, 45] (by rfl) fun K hK => ?_
    simp (decide := true) only [ev, absV, absS, putD, Slots.put, Slots.get, if_true, if_false, true_and, ↓ap_fieldAddr, pop_fieldAddr, fa27_1, ↓ap_loadL, apL_mk, pLoad_one ag9, ↓ap_binOp, pop_binOp, isNilC_str, cond_false, pBinX_str, pS_eql, ↓ap_move, pop_move, ↓ag_fieldAddr, agP, agQ_some, nthDst, gKnown_bool, guardB_bool_false, implies_true, ↓ag_loadL, agQL_some, agL_mk, agL_ld2, rd_any, List.getD_cons_zero, List.getD_cons_succ, Nat.zero_add, lv_str]
    repeat (with_reducible refine And.intro ?_ ?_; · first | trivial | omega | (intro hg; simp only [Bool.and_eq_true, Bool.or_eq_true, Bool.not_eq_true', Bool.and_eq_false_iff, Bool.or_eq_false_iff, Bool.not_eq_false', decide_eq_true_eq, decide_eq_false_iff_not, eqNil] at hg; omega) )
    first
    | (refine aOps_yes (by rfl) ?_; refine aOps_callV (V := .bool (x.2.all okB)) (by rfl) (by rfl) (c_printable w₀ _ x.2 (by omega)) ?_)
    | (refine aOps_gcall (V := .bool (x.2.all okB)) (f := _) (cap := _) (xs := _) rfl (fun hg => ⟨rfl, ?_⟩) (fun hg => c_printable w₀ _ x.2 (by omega)) ?_; · (simp (decide := true) only [gv, nthDst, Slots.get, if_true, if_false, guardB_bool_false] at hg; simp (decide := true) only [evs, ev, Slots.get, if_true, if_false, hg, condV_true, List.append_nil, List.map_cons, List.map_nil] <;> try rfl))
    simp (decide := true) only [ev, absV, absS, putD, Slots.put, Slots.get, if_true, if_false, true_and, gv, nthDst, guardB_bool_false, ↓ag_unOp, pop_unOp, agP, agQ_some, gKnown_bool, implies_true, pU_not, cv_un, cp_un, ↓ap_pick, pop_pick, pPick_bool, pickV_cond_r, pickV_or, ↓ap_move, pop_move, ↓ag_fieldAddr, pop_fieldAddr, fa27_1, ↓ag_loadL, agQL_some, agL_mk, agL_ld2, pLoad_one ag9, ↓ag_index, pop_index, pIndex_str Tryd.underlying9, cv_indexl, cv_indexr, cp_indexl, cp_indexr, ↓ag_binOp, pop_binOp, isNilC_int, cond_false, cv_binl, cp_binl, pBinX_int, pI_eql, ↓ag_len, pop_len, pLen_str Tryd.underlying9, cv_len, cp_len, pI_sub, rd_any, List.getD_cons_zero, List.getD_cons_succ, Nat.zero_add, lv_str]
    try simp (disch := omega) only [wrap_i64]
    repeat (with_reducible refine And.intro ?_ ?_; · first | trivial | omega | (intro hg; simp only [Bool.not_eq_true', Bool.or_eq_false_iff, Bool.not_eq_false', decide_eq_false_iff_not, eqNil] at hg; omega) )
    first
    | (refine aOps_yes (by rfl) ?_; refine aOps_callV (V := .bool (oddQ x.2)) (by rfl) (by rfl) (c_open w₀ _ x.2 (by omega)) ?_)
    | (refine aOps_gcall (V := .bool (oddQ x.2)) (f := _) (cap := _) (xs := _) rfl (fun hg => ⟨rfl, ?_⟩) (fun hg => c_open w₀ _ x.2 (by omega)) ?_; · (simp (decide := true) only [gv, nthDst, Slots.get, if_true, if_false, guardB_bool_false] at hg; simp (decide := true) only [evs, ev, Slots.get, if_true, if_false, hg, condV_true, List.append_nil, List.map_cons, List.map_nil] <;> try rfl))
    simp (decide := true) only [aOps_nil, ev, absV, absS, putD, Slots.put, Slots.get, Slots.keep, if_true, if_false, true_and, gv, nthDst, guardB_bool_false, ↓ap_pick, pop_pick, pPick_bool, pickV_cond_r, pickV_or]
    repeat (with_reducible refine And.intro ?_ ?_; · first | trivial | omega | (intro hg; simp only [Bool.and_eq_true, Bool.or_eq_true, Bool.not_eq_true', Bool.and_eq_false_iff, Bool.or_eq_false_iff, Bool.not_eq_false', decide_eq_true_eq, decide_eq_false_iff_not, eqNil] at hg; omega) )
    apply hK; clear hK K
    refine awp_cond (b := _) rfl (fun hb2 => ?_) (fun hb2 => ?_)
    · try simp only [decide_eq_true_eq, Bool.not_eq_true', Bool.or_eq_true] at hb2
      skip
      -- region 5  columns.go:239
      refine awp_rseq [2, 3] (by rfl) fun K hK => ?_
      simp (decide := true) only [aOps_nil, ev, absV, absS, putD, Slots.put, Slots.keep, if_true, if_false, true_and, ↓ap_assign, pop_assign]
      repeat (with_reducible refine And.intro ?_ ?_; · first | trivial | omega | (intro hg; simp only [Bool.and_eq_true, Bool.or_eq_true, Bool.not_eq_true', Bool.and_eq_false_iff, Bool.or_eq_false_iff, Bool.not_eq_false', decide_eq_true_eq, decide_eq_false_iff_not, eqNil] at hg; omega) )
      apply hK; clear hK K
      refine awp_ret ?_
      try simp only [thenA_ret, inBlockA_ret]
      refine retA_ret h (by repeat (first | exact Sub.refl _ | assumption | refine Sub.trans_set ?_ (by assumption))) (resPre_tmp (resPre_tmp (resPre_nil))) ?_
      simp (decide := true) only [Slots.get, if_true, if_false, resOf_two]
      have hr : rightE x.2 = false := by
        rw [right_parts]
        cases hq : (!decide (x.2 = []) && x.2.all okB && !decide (x.2.getD 0 0 = 32) && !decide (x.2.getD (x.2.length - 1) 0 = 32) && !oddQ x.2) with
        | false => rfl
        | true =>
          exfalso
          simp only [Bool.and_eq_true, Bool.not_eq_true', decide_eq_false_iff_not] at hq
          obtain ⟨⟨⟨⟨q1, q2⟩, q3⟩, q4⟩, q5⟩ := hq
          rw [show ((x.2.length : Int) - 1).toNat = x.2.length - 1 by omega, Int.toNat_zero] at hb2
          rw [q2, q5] at hb2
          rcases hb2 with (((q | q) | q) | q) | q
          · exact q1 q
          · cases q
          · exact q3 (UInt8.toNat.inj (by have : ((32 : UInt8).toNat) = 32 := rfl; omega))
          · exact q4 (UInt8.toNat.inj (by have : ((32 : UInt8).toNat) = 32 := rfl; omega))
          · cases q
      have hw : writeE ls = ([], 1) := by unfold writeE; rw [hg, hr, Bool.false_and]; rfl
      rw [hw]
      exact ⟨rfl, Sub.refl _⟩
    · try simp only [decide_eq_false_iff_not, Bool.not_eq_false', Bool.or_eq_false_iff] at hb2
      refine awp_skip ?_
      change Awp _ _ _ _ _ _ _
      -- region 6  columns.go:237
      refine awp_r [0, 10, 11, 12] (by rfl) ?_
      simp (decide := true) only [aOps_nil, ev, absV, absS, putD, Slots.put, Slots.get, Slots.keep, if_true, if_false, true_and, ↓ap_binOp, pop_binOp, isNilC_int, cond_false, pBinX_int, pI_add, ↓ap_move, pop_move]
      try simp (disch := omega) only [wrap_i64]
      repeat (with_reducible refine And.intro ?_ ?_; · first | trivial | omega | (intro hg; simp only [Bool.and_eq_true, Bool.or_eq_true, Bool.not_eq_true', Bool.and_eq_false_iff, Bool.or_eq_false_iff, Bool.not_eq_false', decide_eq_true_eq, decide_eq_false_iff_not, eqNil] at hg; omega) )
      try simp only [thenA_normal]
      refine ⟨i + 1, rfl, (by repeat (first | exact Sub.refl _ | assumption | refine Sub.set_both ?_ _ _ | refine Sub.trans_set ?_ (by repeat (first | assumption | refine (AHeap.set_ne _ _ (by first | assumption | exact Ne.symm (by assumption))).trans ?_)))), ⟨hi', ?_⟩, by omega⟩
      rw [hg]
      have hr : rightE x.2 = true := by
        rw [right_parts]
        rw [show ((x.2.length : Int) - 1).toNat = x.2.length - 1 by omega, Int.toNat_zero] at hb2
        obtain ⟨⟨⟨⟨q1, q2⟩, q3⟩, q4⟩, q5⟩ := hb2
        rw [q2, q5, decide_eq_false q1, decide_eq_false (fun q => q3 (by rw [q]; rfl)), decide_eq_false (fun q => q4 (by rw [q]; rfl))]
        rfl
      rw [hr, Bool.true_and]
  · try simp only [decide_eq_false_iff_not] at hb1
    have hw : writeE ls = writeGo ls 0 [] := by
      unfold writeE
      rw [hg, List.drop_of_length_le (by omega)]
      rfl
    rw [hw]
    refine awp_exit ?_
    change Awp _ _ _ _ _ _ _
    -- region 7  columns.go:242
    refine awp_aseqT [0, 6] (by decide) (by decide) ze65 (cs := [.nilPtr, .nilSlice, .int .i64 0]) (by rfl) fun k7q0 hk7q0 ht7q0 => ?_
    simp (decide := true) only [Slots.put, Slots.keep, if_true, if_false]
    try have hf_7q0 : h k7q0 = none := by first | assumption | (simp only [AHeap.set_none] at hk7q0; simp only [hk7q0])
    refine awp_seq ?_
    -- region 8  columns.go:243
    refine awp_rseq [6, 47, 48, 49] (by rfl) fun K hK => ?_
    simp (decide := true) only [aOps_nil, ev, absV, absS, putD, Slots.put, Slots.get, Slots.keep, if_true, if_false, true_and, ↓ap_move, pop_move, ↓ap_len, pop_len, pLen_slice Tryd.underlying28]
    repeat (with_reducible refine And.intro ?_ ?_; · first | trivial | omega | (intro hg; simp only [Bool.and_eq_true, Bool.or_eq_true, Bool.not_eq_true', Bool.and_eq_false_iff, Bool.or_eq_false_iff, Bool.not_eq_false', decide_eq_true_eq, decide_eq_false_iff_not, eqNil] at hg; omega) )
    apply hK; clear hK K
    refine awp_block ?_
    refine awp_loopG [6, 47, 48, 49] (fun g : WrG => [(6, .ptr (.own k7q0) 0), (47, .slice l o ls.length cp), (48, .int .i64 ls.length), (49, .int .i64 g.i)]) (fun g : WrG => bldH h k7q0 [.int .i64 g.n] g.st) (fun g : WrG => WrOk ls h k7q0 g) (fun g : WrG => ls.length - g.i) ⟨0, 0, .none⟩ (by rfl) (Sub.refl _) ⟨Nat.zero_le _, Nat.zero_le _, Bld.none_ok, by simp [Bld.none, Bld.bytes], rfl⟩ ?_
    rintro ⟨i, n, st⟩ ⟨g1, g2, g3, g4, g5⟩
    simp only at g1 g2 g3 g4 g5 ⊢
    -- region 9  columns.go:243
    refine awp_rseq [6, 47, 48, 49, 50] (by rfl) fun K hK => ?_
    simp (decide := true) only [aOps_nil, ev, putD, Slots.put, Slots.get, Slots.keep, if_true, if_false, true_and, ↓ap_binOp, pop_binOp, isNilC_tmp, cond_false, pBinX_int, pI_lss]
    repeat (with_reducible refine And.intro ?_ ?_; · first | trivial | omega | (intro hg; simp only [Bool.and_eq_true, Bool.or_eq_true, Bool.not_eq_true', Bool.and_eq_false_iff, Bool.or_eq_false_iff, Bool.not_eq_false', decide_eq_true_eq, decide_eq_false_iff_not, eqNil] at hg; omega) )
    apply hK; clear hK K
    refine awp_seq (awp_cond (b := _) rfl (fun hb3 => ?_) (fun hb3 => ?_))
    · try simp only [decide_eq_true_eq] at hb3
      have hi' : i < ls.length := by omega
      obtain ⟨e0, e1⟩ := lineC_at (hm.mono (Sub.bldH (rest := [.int .i64 n]) hk7q0 g3)) hi'
      obtain ⟨x, hx⟩ : ∃ x, x = ls.getD i (false, []) := ⟨_, rfl⟩
      have hxl : x.2.length ≤ 1000000 := by rw [hx, List.getD, List.getElem?_eq_getElem hi']; exact ht _ (List.getElem_mem hi')
      rw [← hx] at e0 e1
      rw [drop_getD (false, []) hi', ← hx, writeGo] at g5
      obtain ⟨cl, hcl⟩ : ∃ cl : Nat, cl = if x.1 = true then 8 else 12 := ⟨_, rfl⟩
      have hcl2 : 8 ≤ cl ∧ cl ≤ 12 := by rw [hcl]; split <;> omega
      rw [← hcl] at g5
      have hn1 := textE_n (x.2.length + 1) cl [32] false n st.bytes x.2
      refine awp_skip ?_
      change Awp _ _ _ _ _ _ _
      refine awp_seq ?_
      refine awp_block ?_
      -- region 10  columns.go:243
      refine awp_rseq [6, 8, 47, 48, 49] (by rfl) fun K hK => ?_
      simp (decide := true) only [ev, putD, Slots.put, Slots.get, if_true, if_false, true_and, ↓ap_indexAddrL, apL_mk, pIndexAddr_slice Tryd.underlying28 sz27, ↓ap_loadL, pLoad_agg ag27 sz27, cellsAt, lv_bool, lv_str, allLive, cellsAt, e0, e1, Int.toNat_natCast, lv_bool, lv_str, allLive, Bool.and_self]
      repeat (with_reducible refine And.intro ?_ ?_; · first | trivial | omega | (intro hg; simp only [Bool.and_eq_true, Bool.or_eq_true, Bool.not_eq_true', Bool.and_eq_false_iff, Bool.or_eq_false_iff, Bool.not_eq_false', decide_eq_true_eq, decide_eq_false_iff_not, eqNil] at hg; omega) )
      refine aOps_alloc ze27 (cs := [.bool false, .str []]) (by rfl) fun k10q2 hk10q2 => ?_
      try have hf_10q2 : h k10q2 = none := by first | assumption | (simp only [AHeap.set_none] at hk10q2; simp only [hk10q2])
      refine aOps_store (by rfl) (by rfl) (by repeat (first | exact AHeap.set_same _ _ _ | assumption | refine (AHeap.set_ne _ _ (by first | assumption | exact Ne.symm (by assumption))).trans ?_)) sz27 (by rfl) (by rfl) (by first | exact Nat.le_refl _ | decide | (simp; done) | (simp; omega)) (Nat.zero_le _) (by rfl) ?_
      simp only [AHeap.set_set, AVal.cells]
      simp (decide := true) only [aOps_nil, ev, putD, Slots.put, Slots.get, Slots.keep, if_true, if_false, setAt, List.set_cons_zero, List.set_cons_succ, Nat.zero_add]
      repeat (with_reducible refine And.intro ?_ ?_; · first | trivial | omega | (intro hg; simp only [Bool.and_eq_true, Bool.or_eq_true, Bool.not_eq_true', Bool.and_eq_false_iff, Bool.or_eq_false_iff, Bool.not_eq_false', decide_eq_true_eq, decide_eq_false_iff_not, eqNil] at hg; omega) )
      apply hK; clear hK K
      -- region 11  columns.go:244
      refine awp_rseq [6, 8, 9, 47, 48, 49] (by rfl) fun K hK => ?_
      simp (decide := true) only [aOps_nil, ev, absV, absS, putD, Slots.put, Slots.keep, if_true, if_false, true_and, ↓ap_assign, pop_assign]
      repeat (with_reducible refine And.intro ?_ ?_; · first | trivial | omega | (intro hg; simp only [Bool.and_eq_true, Bool.or_eq_true, Bool.not_eq_true', Bool.and_eq_false_iff, Bool.or_eq_false_iff, Bool.not_eq_false', decide_eq_true_eq, decide_eq_false_iff_not, eqNil] at hg; omega) )
      apply hK; clear hK K
      refine awp_seq ?_
      -- region 12  columns.go:245
      refine awp_rseq [6, 8, 9, 47, 48, 49, 54] (by rfl) fun K hK => ?_
      simp (decide := true) only [aOps_nil, ev, putD, Slots.put, Slots.get, Slots.keep, if_true, if_false, true_and, ↓ap_fieldAddr, pop_fieldAddr, fa27_0, ↓ap_loadL, apL_mk, pLoad_one ag4, rd_any, List.getD_cons_zero, Nat.zero_add, lv_bool]
      repeat (with_reducible refine And.intro ?_ ?_; · first | trivial | omega | (intro hg; simp only [Bool.and_eq_true, Bool.or_eq_true, Bool.not_eq_true', Bool.and_eq_false_iff, Bool.or_eq_false_iff, Bool.not_eq_false', decide_eq_true_eq, decide_eq_false_iff_not, eqNil] at hg; omega) )
      apply hK; clear hK K
      refine awp_joinT [6, 8, 9, 47, 48, 49] (fun z : Unit => [(6, .ptr (.own k7q0) 0), (8, .ptr (.own k10q2) 0), (9, .int .i64 cl), (47, .slice l o ls.length cp), (48, .int .i64 ls.length), (49, .int .i64 i)]) (fun z : Unit => (bldH h k7q0 [.int .i64 n] st).set k10q2 ⟨[.bool x.1, .str x.2], 0⟩) (fun z : Unit => True) ?_ ?_
      · refine awp_cond (b := _) rfl (fun hb4 => ?_) (fun hb4 => ?_)
        · try simp only [decide_eq_true_eq, decide_eq_false_iff_not, Bool.not_eq_true', Bool.not_eq_false', Bool.and_eq_true, Bool.and_eq_false_iff, Bool.or_eq_true, Bool.or_eq_false_iff, Bool.true_eq, Bool.false_eq, reduceCtorEq] at hb4
          -- region 13  columns.go:246
          refine awp_r [6, 8, 9, 47, 48, 49] (by rfl) ?_
          simp (decide := true) only [aOps_nil, ev, absV, absS, putD, Slots.put, Slots.keep, if_true, if_false, true_and, and_true, ↓ap_assign, pop_assign]
          repeat (with_reducible refine And.intro ?_ ?_; · first | trivial | omega | (intro hg; simp only [Bool.and_eq_true, Bool.or_eq_true, Bool.not_eq_true', Bool.and_eq_false_iff, Bool.or_eq_false_iff, Bool.not_eq_false', decide_eq_true_eq, decide_eq_false_iff_not, eqNil] at hg; omega) )
          try simp only [thenA_normal]
          first
          | refine ⟨(), ?_, Sub.refl _, trivial⟩
          | refine ⟨(), ?_, Sub.refl _⟩
          rw [hb4] at hcl
          rw [hcl]
          rfl
        · try simp only [decide_eq_true_eq, decide_eq_false_iff_not, Bool.not_eq_true', Bool.not_eq_false', Bool.and_eq_true, Bool.and_eq_false_iff, Bool.or_eq_true, Bool.or_eq_false_iff, Bool.true_eq, Bool.false_eq, reduceCtorEq] at hb4
          refine awp_skip ?_
          try simp only [thenA_normal]
          first
          | refine ⟨(), ?_, Sub.refl _, trivial⟩
          | refine ⟨(), ?_, Sub.refl _⟩
          rw [hb4] at hcl
          rw [hcl]
          rfl
      · intro _ _
        have hne : k10q2 ≠ k7q0 := fun q => by rw [q, bldH_head g3] at hk10q2; cases hk10q2
        have hnn : h k10q2 = none := (Sub.bldH (rest := [.int .i64 n]) hk7q0 g3).none hk10q2
        -- region 14  columns.go:248
        refine awp_rseq [6, 47, 48, 49] (by rfl) fun K hK => ?_
        simp (decide := true) only [ev, putD, Slots.put, Slots.get, if_true, if_false, true_and, ↓ap_move, pop_move, ↓ap_fieldAddr, pop_fieldAddr, fa27_1, ↓ap_loadL, apL_mk, pLoad_one ag9, rd_any, List.getD_cons_zero, List.getD_cons_succ, Nat.zero_add, lv_str]
        repeat (with_reducible refine And.intro ?_ ?_; · first | trivial | omega | (intro hg; simp only [Bool.and_eq_true, Bool.or_eq_true, Bool.not_eq_true', Bool.and_eq_false_iff, Bool.or_eq_false_iff, Bool.not_eq_false', decide_eq_true_eq, decide_eq_false_iff_not, eqNil] at hg; omega) )
        rw [bldH_set hk10q2]
        refine aOps_call (by rfl) (by rfl) (c_text w₀ ht10 (h.set k10q2 ⟨[.bool x.1, .str x.2], 0⟩) k7q0 n st ht7q0 (by rw [AHeap.set_ne _ _ hne.symm]; exact hk7q0) (Bld.ok_lay g3 hk10q2 _) cl x.2 hcl2.1 hcl2.2 (by omega) (by omega)) fun x14q3 h14q3 hx14q3 => ?_
        obtain ⟨rfl, st', s1, s2, rfl⟩ := hx14q3
        have s3 : st'.ok 5 h k7q0 := Bld.ok_sub s1 (Sub.set hnn)
        simp (decide := true) only [aOps_nil, putD, Slots.put, Slots.keep, if_true, if_false]
        repeat (with_reducible refine And.intro ?_ ?_; · first | trivial | omega | (intro hg; simp only [Bool.and_eq_true, Bool.or_eq_true, Bool.not_eq_true', Bool.and_eq_false_iff, Bool.or_eq_false_iff, Bool.not_eq_false', decide_eq_true_eq, decide_eq_false_iff_not, eqNil] at hg; omega) )
        apply hK; clear hK K
        -- region 15  columns.go:249
        refine awp_rseq [6, 47, 48, 49, 61] (by rfl) fun K hK => ?_
        simp (decide := true) only [ev, putD, Slots.put, Slots.get, if_true, if_false, true_and, ↓ap_fieldAddr, pop_fieldAddr, fa65_0, Nat.zero_add]
        repeat (with_reducible refine And.intro ?_ ?_; · first | trivial | omega | (intro hg; simp only [Bool.and_eq_true, Bool.or_eq_true, Bool.not_eq_true', Bool.and_eq_false_iff, Bool.or_eq_false_iff, Bool.not_eq_false', decide_eq_true_eq, decide_eq_false_iff_not, eqNil] at hg; omega) )
        refine aOps_callV (V := .int .i64 st'.bytes.length) (by rfl) (by rfl) (c_bLen w₀ _ k7q0 _ st' s1) ?_
        simp (decide := true) only [aOps_nil, ev, absV, absS, putD, Slots.put, Slots.get, Slots.keep, if_true, if_false, true_and, ↓ap_binOp, pop_binOp, isNilC_int, cond_false, pBinX_int, pI_gtr]
        repeat (with_reducible refine And.intro ?_ ?_; · first | trivial | omega | (intro hg; simp only [Bool.and_eq_true, Bool.or_eq_true, Bool.not_eq_true', Bool.and_eq_false_iff, Bool.or_eq_false_iff, Bool.not_eq_false', decide_eq_true_eq, decide_eq_false_iff_not, eqNil] at hg; omega) )
        apply hK; clear hK K
        refine awp_cond (b := _) rfl (fun hb5 => ?_) (fun hb5 => ?_)
        · try simp only [decide_eq_true_eq] at hb5
          -- region 16  columns.go:250
          refine awp_rseq [2, 3] (by rfl) fun K hK => ?_
          simp (decide := true) only [aOps_nil, ev, absV, absS, putD, Slots.put, Slots.keep, if_true, if_false, true_and, ↓ap_assign, pop_assign]
          repeat (with_reducible refine And.intro ?_ ?_; · first | trivial | omega | (intro hg; simp only [Bool.and_eq_true, Bool.or_eq_true, Bool.not_eq_true', Bool.and_eq_false_iff, Bool.or_eq_false_iff, Bool.not_eq_false', decide_eq_true_eq, decide_eq_false_iff_not, eqNil] at hg; omega) )
          apply hK; clear hK K
          refine awp_ret ?_
          try simp only [thenA_ret, inBlockA_ret]
          refine retA_ret h ((Sub.set hnn).trans (Sub.bldH (by rw [AHeap.set_ne _ _ hne.symm]; exact hk7q0) s1)) (resPre_tmp (resPre_tmp (resPre_nil))) ?_
          simp (decide := true) only [Slots.get, if_true, if_false, resOf_two]
          rw [← g5, if_pos (by rw [← s2]; omega)]
          exact ⟨rfl, Sub.refl _⟩
        · try simp only [decide_eq_false_iff_not] at hb5
          refine awp_skip ?_
          change Awp _ _ _ _ _ _ _
          -- region 17  columns.go:243
          refine awp_r [6, 47, 48, 49] (by rfl) ?_
          simp (decide := true) only [aOps_nil, ev, absV, absS, putD, Slots.put, Slots.get, Slots.keep, if_true, if_false, true_and, ↓ap_binOp, pop_binOp, isNilC_int, cond_false, pBinX_int, pI_add, ↓ap_move, pop_move]
          try simp (disch := omega) only [wrap_i64]
          repeat (with_reducible refine And.intro ?_ ?_; · first | trivial | omega | (intro hg; simp only [Bool.and_eq_true, Bool.or_eq_true, Bool.not_eq_true', Bool.and_eq_false_iff, Bool.or_eq_false_iff, Bool.not_eq_false', decide_eq_true_eq, decide_eq_false_iff_not, eqNil] at hg; omega) )
          try simp only [thenA_normal]
          refine ⟨⟨i + 1, (textE (x.2.length + 1) cl [32] false n st.bytes x.2).1, st'⟩, rfl, Sub.bldH_both (Sub.set hnn), ⟨hi', by simp only; omega, s3, by simp only; omega, ?_⟩, by simp only; omega⟩
          rw [if_neg (by rw [← s2]; omega), ← s2] at g5
          exact g5
    · try simp only [decide_eq_false_iff_not] at hb3
      have he : i = ls.length := by omega
      rw [he, List.drop_length, writeGo] at g5
      rw [← g5]
      refine awp_exit ?_
      change Awp _ _ _ _ _ _ _
      -- region 18  columns.go:253
      refine awp_rseq [2, 3] (by rfl) fun K hK => ?_
      simp (decide := true) only [ev, putD, Slots.put, Slots.get, if_true, if_false, true_and, ↓ap_fieldAddr, pop_fieldAddr, fa65_0, Nat.zero_add]
      repeat (with_reducible refine And.intro ?_ ?_; · first | trivial | omega | (intro hg; simp only [Bool.and_eq_true, Bool.or_eq_true, Bool.not_eq_true', Bool.and_eq_false_iff, Bool.or_eq_false_iff, Bool.not_eq_false', decide_eq_true_eq, decide_eq_false_iff_not, eqNil] at hg; omega) )
      refine aOps_call (by rfl) (by rfl) (c_bString w₀ h k7q0 [.int .i64 n] st 65 hk7q0 ht7q0 g3 (by omega)) fun x18q1 h18q1 hx18q1 => ?_
      obtain ⟨rfl, q18⟩ := hx18q1
      subst h18q1
      simp (decide := true) only [aOps_nil, ev, absV, absS, putD, Slots.put, Slots.get, Slots.keep, if_true, if_false, true_and, ↓ap_assign, pop_assign]
      repeat (with_reducible refine And.intro ?_ ?_; · first | trivial | omega | (intro hg; simp only [Bool.and_eq_true, Bool.or_eq_true, Bool.not_eq_true', Bool.and_eq_false_iff, Bool.or_eq_false_iff, Bool.not_eq_false', decide_eq_true_eq, decide_eq_false_iff_not, eqNil] at hg; omega) )
      apply hK; clear hK K
      refine awp_ret ?_
      try simp only
      refine retA_ret h (by repeat (first | exact Sub.refl _ | assumption | refine Sub.trans_set ?_ (by assumption))) (resPre_tmp (resPre_tmp (resPre_nil))) ?_
      simp (decide := true) only [Slots.get, if_true, if_false, true_and, resOf_two]
      exact Sub.refl _
end Go.Proofs.YtikpnhdjjabdmaaDoor

/-
  Contracts: spaces, right, plain, digits, divide of the laws; Open, Squeeze of the reference.
  Conditions: none.
-/
namespace Go.Proofs.YtikpnhdjjabdmaaDoor
open Go.AM
open Go.Proofs
open Go.Col
set_option maxRecDepth 100000

theorem c_spaces (w₀ : World) (h : AHeap) (n : Nat) (hn : n ≤ 1000000) : ACall Tryd.prog w₀ 14 [.int .i64 n] h (fun v h' => v = .str (sp n) ∧ h' = h) := by
  refine acall_intro (n := 5) (rs := [.tmp 2]) Tryd.func14 rfl rfl rfl rfl (Nat.le_of_ble_eq_true rfl) ?_
  simp only [initSlots]
  -- region 0  law.go:13
  refine awp_rseq [0] (by rfl) fun K hK => ?_
  simp (decide := true) only [aOps_nil, ev, absV, absS, putD, Slots.put, Slots.keep, if_true, if_false, true_and, ↓ap_assign, pop_assign]
  repeat (with_reducible refine And.intro ?_ ?_; · first | trivial | omega | (intro hg; simp only [Bool.and_eq_true, Bool.or_eq_true, Bool.not_eq_true', Bool.and_eq_false_iff, Bool.or_eq_false_iff, Bool.not_eq_false', decide_eq_true_eq, decide_eq_false_iff_not, eqNil] at hg; omega) )
  apply hK; clear hK K
  -- region 1  law.go:13
  refine awp_rseq [2] (by rfl) fun K hK => ?_
  simp (decide := true) only [ev, putD, Slots.put, Slots.get, if_true, if_false, true_and, ↓ap_move, pop_move]
  repeat (with_reducible refine And.intro ?_ ?_; · first | trivial | omega | (intro hg; simp only [Bool.and_eq_true, Bool.or_eq_true, Bool.not_eq_true', Bool.and_eq_false_iff, Bool.or_eq_false_iff, Bool.not_eq_false', decide_eq_true_eq, decide_eq_false_iff_not, eqNil] at hg; omega) )
  refine aOps_callV (V := .str (sp n)) (by rfl) (by rfl) (c_repeat w₀ _ 32 _ (by omega)) ?_
  simp (decide := true) only [aOps_nil, ev, putD, Slots.put, Slots.get, Slots.keep, if_true, if_false, true_and, ↓ap_assign, pop_assign]
  repeat (with_reducible refine And.intro ?_ ?_; · first | trivial | omega | (intro hg; simp only [Bool.and_eq_true, Bool.or_eq_true, Bool.not_eq_true', Bool.and_eq_false_iff, Bool.or_eq_false_iff, Bool.not_eq_false', decide_eq_true_eq, decide_eq_false_iff_not, eqNil] at hg; omega) )
  apply hK; clear hK K
  refine awp_ret ?_
  try simp only [thenA_ret, inBlockA_ret]
  refine retA_ret _ (Sub.refl _) (resPre_tmp (resPre_nil)) ?_
  simp (decide := true) only [Slots.get, if_true, and_true, resOf_one]
  all_goals first | rfl | exact ⟨rfl, rfl⟩ | (simp (decide := true) only [if_true, if_false, *]; done) | (trace_state; fail)
theorem u8_32 {b : UInt8} : (b.toNat : Int) = 32 ↔ b = 32 := ⟨fun h => UInt8.toNat.inj (by have : ((32 : UInt8).toNat) = 32 := rfl; omega), fun h => by rw [h]; rfl⟩
theorem u8_34 {b : UInt8} : (b.toNat : Int) = 34 ↔ b = 34 := ⟨fun h => UInt8.toNat.inj (by have : ((34 : UInt8).toNat) = 34 := rfl; omega), fun h => by rw [h]; rfl⟩
theorem okB_byte (b : UInt8) : okB b = true ↔ 32 ≤ b.toNat ∧ b.toNat ≤ 126 := by
  unfold okB
  simp only [Bool.and_eq_true, decide_eq_true_eq]
theorem all_step {s : Str} {i : Nat} (hi : i < s.length) (hg : (s.drop i).all okB = s.all okB) : (okB (s.getD i 0) && (s.drop (i + 1)).all okB) = s.all okB := by
  rw [← hg, drop_getD 0 hi, List.all_cons]
theorem c_right (w₀ : World) (h : AHeap) (s : Str) (hl : s.length ≤ 9223372036854775807) : ACall Tryd.prog w₀ 10 [.str s] h (fun v h' => v = .bool (rightE s) ∧ h' = h) := by
  have hn0 : ¬ s = [] → 0 < s.length := fun q => List.length_pos_iff.2 q
  refine acall_intro (n := 41) (rs := [.tmp 2]) Tryd.func10 rfl rfl rfl rfl (Nat.le_of_ble_eq_true rfl) ?_
  simp only [initSlots]
  -- region 0  law.go:65
  refine awp_rseq [0] (by rfl) fun K hK => ?_
  simp (decide := true) only [aOps_nil, ev, absV, absS, putD, Slots.put, Slots.keep, if_true, if_false, true_and, ↓ap_assign, pop_assign]
  repeat (with_reducible refine And.intro ?_ ?_; · first | trivial | omega | (intro hg; simp only [Bool.and_eq_true, Bool.or_eq_true, Bool.not_eq_true', Bool.and_eq_false_iff, Bool.or_eq_false_iff, Bool.not_eq_false', decide_eq_true_eq, decide_eq_false_iff_not, eqNil] at hg; omega) )
  apply hK; clear hK K
  refine awp_seq ?_
  -- region 1  law.go:66
  refine awp_rseq [0, 3] (by rfl) fun K hK => ?_
  simp (decide := true) only [aOps_nil, ev, absV, absS, putD, Slots.put, Slots.keep, if_true, if_false, true_and, ↓ap_assign, pop_assign]
  repeat (with_reducible refine And.intro ?_ ?_; · first | trivial | omega | (intro hg; simp only [Bool.and_eq_true, Bool.or_eq_true, Bool.not_eq_true', Bool.and_eq_false_iff, Bool.or_eq_false_iff, Bool.not_eq_false', decide_eq_true_eq, decide_eq_false_iff_not, eqNil] at hg; omega) )
  apply hK; clear hK K
  refine awp_block ?_
  refine awp_loopG [0, 3] (fun i : Nat => [(0, .str s), (3, .int .i64 i)]) (fun i : Nat => h) (fun i : Nat => i ≤ s.length ∧ (s.drop i).all okB = s.all okB) (fun i : Nat => s.length - i) 0 rfl (Sub.refl _) ⟨Nat.zero_le _, rfl⟩ ?_
  rintro i ⟨hi, hg⟩
  refine awp_seq ?_
  -- region 2  law.go:66
  refine awp_rseq [0, 3, 7] (by rfl) fun K hK => ?_
  simp (decide := true) only [aOps_nil, ev, putD, Slots.put, Slots.get, Slots.keep, if_true, if_false, true_and, ↓ap_move, pop_move, ↓ap_len, pop_len, pLen_str Tryd.underlying9, ↓ap_binOp, pop_binOp, isNilC_tmp, cond_false, pBinX_int, pI_lss]
  repeat (with_reducible refine And.intro ?_ ?_; · first | trivial | omega | (intro hg; simp only [Bool.and_eq_true, Bool.or_eq_true, Bool.not_eq_true', Bool.and_eq_false_iff, Bool.or_eq_false_iff, Bool.not_eq_false', decide_eq_true_eq, decide_eq_false_iff_not, eqNil] at hg; omega) )
  apply hK; clear hK K
  refine awp_cond (b := _) rfl (fun hb1 => ?_) (fun hb1 => ?_)
  · try simp only [decide_eq_true_eq] at hb1
    have hi' : i < s.length := by omega
    have hs := all_step hi' hg
    refine awp_skip ?_
    change Awp _ _ _ _ _ _ _
    refine awp_seq ?_
    refine awp_block ?_
    -- region 4  law.go:67
    refine awp_rseq [0, 3, 19] (by rfl) fun K hK => ?_
    simp (decide := true) only [aOps_nil, ev, absV, absS, putD, Slots.put, Slots.get, Slots.keep, if_true, if_false, true_and, ↓ap_move, pop_move, ↓ap_index, pop_index, pIndex_str Tryd.underlying9, ↓ap_binOp, pop_binOp, isNilC_int, cond_false, pBinX_int, pI_lss, ↓ag_move, agP, agQ_some, nthDst, gKnown_bool, guardB_bool_false, implies_true, ↓ag_index, cv_indexl, cv_indexr, cp_indexl, cp_indexr, ↓ag_binOp, cv_binl, cp_binl, pI_gtr, ↓ap_pick, pop_pick, pPick_bool, pickV_cond_r, pickV_or, Int.toNat_natCast]
    repeat (with_reducible refine And.intro ?_ ?_; · first | trivial | omega | (intro hg; simp only [Bool.and_eq_true, Bool.or_eq_true, Bool.not_eq_true', Bool.and_eq_false_iff, Bool.or_eq_false_iff, Bool.not_eq_false', decide_eq_true_eq, decide_eq_false_iff_not, eqNil] at hg; omega) )
    apply hK; clear hK K
    refine awp_cond (b := _) rfl (fun hb2 => ?_) (fun hb2 => ?_)
    · try simp only [decide_eq_true_eq, Bool.or_eq_true] at hb2
      -- region 5  law.go:68
      refine awp_rseq [2] (by rfl) fun K hK => ?_
      simp (decide := true) only [aOps_nil, ev, absV, absS, putD, Slots.put, Slots.keep, if_true, if_false, true_and, ↓ap_assign, pop_assign]
      repeat (with_reducible refine And.intro ?_ ?_; · first | trivial | omega | (intro hg; simp only [Bool.and_eq_true, Bool.or_eq_true, Bool.not_eq_true', Bool.and_eq_false_iff, Bool.or_eq_false_iff, Bool.not_eq_false', decide_eq_true_eq, decide_eq_false_iff_not, eqNil] at hg; omega) )
      apply hK; clear hK K
      refine awp_ret ?_
      try simp only [thenA_ret, inBlockA_ret]
      refine retA_ret _ (Sub.refl _) (resPre_tmp (resPre_nil)) ?_
      simp (decide := true) only [Slots.get, if_true, and_true, resOf_one]
      have : okB (s.getD i 0) = false := by rw [Bool.eq_false_iff]; intro q; rw [okB_byte] at q; omega
      rw [right_parts, ← hs, this, Bool.false_and, Bool.and_false]
      rfl
    · try simp only [decide_eq_false_iff_not, Bool.or_eq_false_iff] at hb2
      refine awp_skip ?_
      change Awp _ _ _ _ _ _ _
      -- region 3  law.go:66
      refine awp_r [0, 3] (by rfl) ?_
      simp (decide := true) only [aOps_nil, ev, absV, absS, putD, Slots.put, Slots.get, Slots.keep, if_true, if_false, true_and, ↓ap_move, pop_move, ↓ap_binOp, pop_binOp, isNilC_int, cond_false, pBinX_int, pI_add, ↓ap_assign, pop_assign]
      try simp (disch := omega) only [wrap_i64]
      repeat (with_reducible refine And.intro ?_ ?_; · first | trivial | omega | (intro hg; simp only [Bool.and_eq_true, Bool.or_eq_true, Bool.not_eq_true', Bool.and_eq_false_iff, Bool.or_eq_false_iff, Bool.not_eq_false', decide_eq_true_eq, decide_eq_false_iff_not, eqNil] at hg; omega) )
      try simp only [thenA_normal]
      refine ⟨i + 1, rfl, Sub.refl _, ⟨hi', ?_⟩, by omega⟩
      have : okB (s.getD i 0) = true := by rw [okB_byte]; omega
      rw [← hs, this, Bool.true_and]
  · try simp only [decide_eq_false_iff_not] at hb1
    have hall : s.all okB = true := by rw [← hg, List.drop_of_length_le (by omega)]; rfl
    refine awp_exit ?_
    change Awp _ _ _ _ _ _ _
    -- region 6  law.go:71
    refine awp_rseq [2] (by rfl) fun K hK => ?_
    simp (decide := true) only [ev, absV, absS, putD, Slots.put, Slots.get, if_true, if_false, true_and, ↓ap_move, pop_move, ↓ap_binOp, pop_binOp, isNilC_str, cond_false, pBinX_str, pS_neq, ↓ag_move, agP, agQ_some, nthDst, gKnown_bool, guardB_bool_true, implies_true, ↓ag_index, pop_index, pIndex_str Tryd.underlying9, cv_indexl, cv_indexr, cp_indexl, cp_indexr, ↓ag_binOp, isNilC_int, cv_binl, cp_binl, pBinX_int, pI_neq, ↓ap_pick, pop_pick, pPick_bool, pickV_cond_l, pickV_and, ↓ag_len, pop_len, pLen_str Tryd.underlying9, cv_len, cp_len, pI_sub]
    try simp (disch := omega) only [wrap_i64]
    repeat (with_reducible refine And.intro ?_ ?_; · first | trivial | omega | (intro hg; simp only [Bool.and_eq_true, Bool.not_eq_true', decide_eq_false_iff_not, eqNil] at hg; omega) )
    first
    | (refine aOps_yes (by rfl) ?_; refine aOps_callV (V := .int .i64 (quotes s)) (by rfl) (by rfl) (c_count w₀ _ s 34) ?_)
    | (refine aOps_gcall (V := .int .i64 (quotes s)) (f := _) (cap := _) (xs := _) rfl (fun hg => ⟨rfl, ?_⟩) (fun hg => c_count w₀ _ s 34) ?_; · (simp (decide := true) only [gv, nthDst, Slots.get, if_true, if_false, guardB_bool_true] at hg; simp (decide := true) only [evs, ev, Slots.get, if_true, if_false, hg, condV_true, List.append_nil, List.map_cons, List.map_nil, absV, absS] <;> try rfl))
    simp (decide := true) only [aOps_nil, ev, absV, absS, putD, Slots.put, Slots.get, Slots.keep, if_true, if_false, true_and, gv, nthDst, guardB_bool_true, ↓ag_binOp, pop_binOp, agP, agQ_some, gKnown_bool, implies_true, isNilC_int, cond_false, cv_binl, cp_binl, pBinX_int, pI_rem, pI_eql, ↓ap_pick, pop_pick, pPick_bool, pickV_cond_l, pickV_and, ↓ap_assign, pop_assign]
    repeat (with_reducible refine And.intro ?_ ?_; · first | trivial | omega | (intro hg; simp only [Bool.and_eq_true, Bool.or_eq_true, Bool.not_eq_true', Bool.and_eq_false_iff, Bool.or_eq_false_iff, Bool.not_eq_false', decide_eq_true_eq, decide_eq_false_iff_not, eqNil] at hg; omega) )
    apply hK; clear hK K
    refine awp_ret ?_
    try simp only [thenA_ret, inBlockA_ret]
    refine retA_ret _ (Sub.refl _) (resPre_tmp (resPre_nil)) ?_
    simp (decide := true) only [Slots.get, if_true, and_true, resOf_one]
    rw [right_parts, hall, Bool.and_true, show ((s.length : Int) - 1).toNat = s.length - 1 by omega, Int.toNat_zero, Int.tmod_eq_emod_of_nonneg (by omega)]
    have e1 : decide (((s.getD 0 0).toNat : Int) = 32) = decide (s.getD 0 0 = 32) := by rw [Bool.eq_iff_iff, decide_eq_true_eq, decide_eq_true_eq, u8_32]
    have e2 : decide (((s.getD (s.length - 1) 0).toNat : Int) = 32) = decide (s.getD (s.length - 1) 0 = 32) := by rw [Bool.eq_iff_iff, decide_eq_true_eq, decide_eq_true_eq, u8_32]
    have e3 : decide ((quotes s : Int) % 2 = 0) = !oddQ s := by
      unfold oddQ
      rw [Bool.eq_iff_iff, Bool.not_eq_true', decide_eq_true_eq, decide_eq_false_iff_not]
      omega
    rw [e1, e2, e3]
/-- A text with single spaces outside of quotes: whether in quotes, whether behind a space. -/
def sqGo : Bool → Bool → Str → Str
  | _, _, [] => []
  | q, p, b :: s => if b = 32 ∧ (if b = 34 then !q else q) = false ∧ p = true then sqGo (if b = 34 then !q else q) (decide (b = 32)) s else b :: sqGo (if b = 34 then !q else q) (decide (b = 32)) s
def sqE (s : Str) : Str := sqGo false false s
structure SqG where
  i : Nat
  q : Bool
  out : Str
def behind (s : Str) (i : Nat) : Bool := decide (0 < i) && decide (s.getD (i - 1) 0 = 32)
theorem c_Squeeze (w₀ : World) (h : AHeap) (s : Str) (hl : s.length ≤ 1099511627776) : ACall Tryd.prog w₀ 13 [.str s] h (fun v h' => v = .str (sqE s) ∧ h' = h) := by
  refine acall_intro (n := 45) (rs := [.tmp 2]) Tryd.func13 rfl rfl rfl rfl (Nat.le_of_ble_eq_true rfl) ?_
  simp only [initSlots]
  -- region 0  ref.go:176
  refine awp_rseq [0] (by rfl) fun K hK => ?_
  simp (decide := true) only [aOps_nil, ev, absV, absS, putD, Slots.put, Slots.keep, if_true, if_false, true_and, ↓ap_assign, pop_assign]
  repeat (with_reducible refine And.intro ?_ ?_; · first | trivial | omega | (intro hg; simp only [Bool.and_eq_true, Bool.or_eq_true, Bool.not_eq_true', Bool.and_eq_false_iff, Bool.or_eq_false_iff, Bool.not_eq_false', decide_eq_true_eq, decide_eq_false_iff_not, eqNil] at hg; omega) | (simp only [List.length_append, List.length_map, List.length_range, List.length_replicate, List.length_take, List.length_drop, List.length_cons, List.length_nil, List.length_set, List.length_reverse]; omega))
  apply hK; clear hK K
  -- region 1  ref.go:177
  refine awp_rseq [0, 3] (by rfl) fun K hK => ?_
  simp (decide := true) only [aOps_nil, ev, absV, absS, putD, Slots.put, Slots.keep, if_true, if_false, true_and, ↓ap_assign, pop_assign]
  repeat (with_reducible refine And.intro ?_ ?_; · first | trivial | omega | (intro hg; simp only [Bool.and_eq_true, Bool.or_eq_true, Bool.not_eq_true', Bool.and_eq_false_iff, Bool.or_eq_false_iff, Bool.not_eq_false', decide_eq_true_eq, decide_eq_false_iff_not, eqNil] at hg; omega) | (simp only [List.length_append, List.length_map, List.length_range, List.length_replicate, List.length_take, List.length_drop, List.length_cons, List.length_nil, List.length_set, List.length_reverse]; omega))
  apply hK; clear hK K
  -- region 2  ref.go:178
  refine awp_rseq [0, 3, 4] (by rfl) fun K hK => ?_
  simp (decide := true) only [aOps_nil, ev, absV, absS, putD, Slots.put, Slots.keep, if_true, if_false, true_and, ↓ap_assign, pop_assign]
  repeat (with_reducible refine And.intro ?_ ?_; · first | trivial | omega | (intro hg; simp only [Bool.and_eq_true, Bool.or_eq_true, Bool.not_eq_true', Bool.and_eq_false_iff, Bool.or_eq_false_iff, Bool.not_eq_false', decide_eq_true_eq, decide_eq_false_iff_not, eqNil] at hg; omega) | (simp only [List.length_append, List.length_map, List.length_range, List.length_replicate, List.length_take, List.length_drop, List.length_cons, List.length_nil, List.length_set, List.length_reverse]; omega))
  apply hK; clear hK K
  refine awp_seq ?_
  -- region 3  ref.go:179
  refine awp_rseq [0, 3, 4, 5] (by rfl) fun K hK => ?_
  simp (decide := true) only [aOps_nil, ev, absV, absS, putD, Slots.put, Slots.keep, if_true, if_false, true_and, ↓ap_assign, pop_assign]
  repeat (with_reducible refine And.intro ?_ ?_; · first | trivial | omega | (intro hg; simp only [Bool.and_eq_true, Bool.or_eq_true, Bool.not_eq_true', Bool.and_eq_false_iff, Bool.or_eq_false_iff, Bool.not_eq_false', decide_eq_true_eq, decide_eq_false_iff_not, eqNil] at hg; omega) | (simp only [List.length_append, List.length_map, List.length_range, List.length_replicate, List.length_take, List.length_drop, List.length_cons, List.length_nil, List.length_set, List.length_reverse]; omega))
  apply hK; clear hK K
  refine awp_block ?_
  refine awp_loopG [0, 3, 4, 5] (fun g : SqG => [(0, .str s), (3, .str g.out), (4, .bool g.q), (5, .int .i64 g.i)]) (fun g : SqG => h) (fun g : SqG => g.i ≤ s.length ∧ g.out.length ≤ g.i ∧ g.out ++ sqGo g.q (behind s g.i) (s.drop g.i) = sqE s) (fun g : SqG => s.length - g.i) ⟨0, false, []⟩ rfl (Sub.refl _) ⟨Nat.zero_le _, Nat.le_refl _, rfl⟩ ?_
  rintro ⟨i, q, out⟩ ⟨hi, hol, hg⟩
  simp only at hi hol hg ⊢
  refine awp_seq ?_
  -- region 4  ref.go:179
  refine awp_rseq [0, 3, 4, 5, 9] (by rfl) fun K hK => ?_
  simp (decide := true) only [aOps_nil, ev, putD, Slots.put, Slots.get, Slots.keep, if_true, if_false, true_and, ↓ap_move, pop_move, ↓ap_len, pop_len, pLen_str Tryd.underlying9, ↓ap_binOp, pop_binOp, isNilC_tmp, cond_false, pBinX_int, pI_lss]
  repeat (with_reducible refine And.intro ?_ ?_; · first | trivial | omega | (intro hg; simp only [Bool.and_eq_true, Bool.or_eq_true, Bool.not_eq_true', Bool.and_eq_false_iff, Bool.or_eq_false_iff, Bool.not_eq_false', decide_eq_true_eq, decide_eq_false_iff_not, eqNil] at hg; omega) | (simp only [List.length_append, List.length_map, List.length_range, List.length_replicate, List.length_take, List.length_drop, List.length_cons, List.length_nil, List.length_set, List.length_reverse]; omega))
  apply hK; clear hK K
  refine awp_cond (b := _) rfl (fun hb1 => ?_) (fun hb1 => ?_)
  · try simp only [decide_eq_true_eq] at hb1
    have hi' : i < s.length := by omega
    have hone : (s.drop i).take (((i : Int) + 1).toNat - i) = [s.getD i 0] := by
      rw [show ((i : Int) + 1).toNat - i = 1 by omega, drop_getD 0 hi']; rfl
    rw [drop_getD 0 hi', sqGo] at hg
    have hbh : behind s (i + 1) = decide (s.getD i 0 = 32) := by simp [behind]
    refine awp_skip ?_
    change Awp _ _ _ _ _ _ _
    refine awp_seq ?_
    refine awp_block ?_
    refine awp_seq ?_
    -- region 6  ref.go:180
    refine awp_rseq [0, 3, 4, 5, 15] (by rfl) fun K hK => ?_
    simp (decide := true) only [aOps_nil, ev, absV, absS, putD, Slots.put, Slots.get, Slots.keep, if_true, if_false, true_and, ↓ap_move, pop_move, ↓ap_index, pop_index, pIndex_str Tryd.underlying9, ↓ap_binOp, pop_binOp, isNilC_int, cond_false, pBinX_int, pI_eql, Int.toNat_natCast]
    repeat (with_reducible refine And.intro ?_ ?_; · first | trivial | omega | (intro hg; simp only [Bool.and_eq_true, Bool.or_eq_true, Bool.not_eq_true', Bool.and_eq_false_iff, Bool.or_eq_false_iff, Bool.not_eq_false', decide_eq_true_eq, decide_eq_false_iff_not, eqNil] at hg; omega) | (simp only [List.length_append, List.length_map, List.length_range, List.length_replicate, List.length_take, List.length_drop, List.length_cons, List.length_nil, List.length_set, List.length_reverse]; omega))
    apply hK; clear hK K
    refine awp_cond (b := _) rfl (fun hb2 => ?_) (fun hb2 => ?_)
    · try simp only [decide_eq_true_eq] at hb2
      have hqq : (if s.getD i 0 = 34 then !q else q) = !q := if_pos (u8_34.1 hb2)
      rw [hqq] at hg
      -- region 7  ref.go:181
      refine awp_r [0, 3, 4, 5] (by rfl) ?_
      simp (decide := true) only [aOps_nil, ev, putD, Slots.put, Slots.get, Slots.keep, if_true, if_false, true_and, ↓ap_move, pop_move, ↓ap_unOp, pop_unOp, pU_not, ↓ap_assign, pop_assign]
      try simp (disch := omega) only [wrap_i64, wrap_u8]
      repeat (with_reducible refine And.intro ?_ ?_; · first | trivial | omega | (intro hg; simp only [Bool.and_eq_true, Bool.or_eq_true, Bool.not_eq_true', Bool.and_eq_false_iff, Bool.or_eq_false_iff, Bool.not_eq_false', decide_eq_true_eq, decide_eq_false_iff_not, eqNil] at hg; omega) | (simp only [List.length_append, List.length_map, List.length_range, List.length_replicate, List.length_take, List.length_drop, List.length_cons, List.length_nil, List.length_set, List.length_reverse]; omega))
      change Awp _ _ _ _ _ _ _
      refine awp_seq ?_
      -- region 8  ref.go:183
      refine awp_rseq [0, 3, 4, 5, 36] (by rfl) fun K hK => ?_
      simp (decide := true) only [aOps_nil, ev, absV, absS, putD, Slots.put, Slots.get, Slots.keep, if_true, if_false, true_and, ↓ap_move, pop_move, ↓ap_index, pop_index, pIndex_str Tryd.underlying9, ↓ap_binOp, pop_binOp, isNilC_int, cond_false, pBinX_int, pI_eql, ↓ag_move, agP, agQ_some, nthDst, gKnown_bool, guardB_bool_true, implies_true, Bool.not_not, ↓ag_unOp, pop_unOp, pU_not, cv_un, cp_un, ↓ap_pick, pop_pick, pPick_bool, pickV_cond_l, pickV_and, ↓ag_binOp, cv_binl, cp_binl, pI_gtr, pI_sub, ↓ag_index, cv_indexl, cv_indexr, cp_indexl, cp_indexr, Int.toNat_natCast]
      try simp (disch := omega) only [wrap_i64]
      repeat (with_reducible refine And.intro ?_ ?_; · first | trivial | omega | (intro hg; simp only [Bool.and_eq_true, decide_eq_true_eq] at hg; omega) | (simp only [List.length_append, List.length_map, List.length_range, List.length_replicate, List.length_take, List.length_drop, List.length_cons, List.length_nil, List.length_set, List.length_reverse]; omega))
      apply hK; clear hK K
      refine awp_cond (b := _) rfl (fun hb3 => ?_) (fun hb3 => ?_)
      · try simp only [decide_eq_true_eq, Bool.and_eq_true] at hb3
        have hpre : ((i : Int) - 1).toNat = i - 1 := by omega
        rw [hpre] at hb3
        obtain ⟨⟨⟨q1, q2⟩, q3⟩, q4⟩ := hb3
        rw [if_pos ⟨u8_32.1 q1, by rw [q2]; rfl, by unfold behind; rw [decide_eq_true (by omega), decide_eq_true (u8_32.1 q4)]; rfl⟩] at hg
        refine awp_exit ?_
        change Awp _ _ _ _ _ _ _
        -- region 5  ref.go:179
        refine awp_r [0, 3, 4, 5] (by rfl) ?_
        simp (decide := true) only [aOps_nil, ev, absV, absS, putD, Slots.put, Slots.get, Slots.keep, if_true, if_false, true_and, ↓ap_move, pop_move, ↓ap_binOp, pop_binOp, isNilC_int, cond_false, pBinX_int, pI_add, ↓ap_assign, pop_assign]
        try simp (disch := omega) only [wrap_i64]
        repeat (with_reducible refine And.intro ?_ ?_; · first | trivial | omega | (intro hg; simp only [Bool.and_eq_true, Bool.or_eq_true, Bool.not_eq_true', Bool.and_eq_false_iff, Bool.or_eq_false_iff, Bool.not_eq_false', decide_eq_true_eq, decide_eq_false_iff_not, eqNil] at hg; omega) | (simp only [List.length_append, List.length_map, List.length_range, List.length_replicate, List.length_take, List.length_drop, List.length_cons, List.length_nil, List.length_set, List.length_reverse]; omega))
        try simp only [thenA_normal]
        first
        | exact ⟨⟨i + 1, !q, out⟩, rfl, Sub.refl _, ⟨hi', by simp only; omega, by simp only; rw [hbh]; exact hg⟩, by simp only; omega⟩
        | exact ⟨⟨i + 1, q, out⟩, rfl, Sub.refl _, ⟨hi', by simp only; omega, by simp only; rw [hbh]; exact hg⟩, by simp only; omega⟩
        | exact ⟨⟨i + 1, !q, out ++ [s.getD i 0]⟩, rfl, Sub.refl _, ⟨hi', by simp; omega, by simp only; rw [hbh, List.append_assoc]; exact hg⟩, by simp only; omega⟩
        | exact ⟨⟨i + 1, q, out ++ [s.getD i 0]⟩, rfl, Sub.refl _, ⟨hi', by simp; omega, by simp only; rw [hbh, List.append_assoc]; exact hg⟩, by simp only; omega⟩
      · try simp only [decide_eq_false_iff_not, Bool.and_eq_false_iff] at hb3
        have hpre : ((i : Int) - 1).toNat = i - 1 := by omega
        rw [hpre] at hb3
        rw [if_neg (by
          rintro ⟨q1, q2, q3⟩
          unfold behind at q3
          simp only [Bool.and_eq_true, decide_eq_true_eq] at q3
          rcases hb3 with ((q | q) | q) | q
          · exact q (u8_32.2 q1)
          · rw [q] at q2; cases q2
          · omega
          · exact q (u8_32.2 q3.2))] at hg
        refine awp_skip ?_
        change Awp _ _ _ _ _ _ _
        -- region 9  ref.go:186
        refine awp_r [0, 3, 4, 5] (by rfl) ?_
        simp (decide := true) only [ev, absV, absS, putD, Slots.put, Slots.get, if_true, if_false, true_and, ↓ap_move, pop_move, ↓ap_binOp, pop_binOp, isNilC_int, cond_false, pBinX_int, pI_add]
        try simp (disch := omega) only [wrap_i64]
        try simp (decide := true) only [aOps_nil, ev, putD, Slots.put, Slots.get, Slots.keep, if_true, if_false, true_and, ↓ap_slice, pop_slice, evO, pSliceS_ii Tryd.underlying9, pSliceS, bndA_int, ↓ap_binOp, pop_binOp, isNilC_tmp, cond_false, pBinX_str, pS_add, ↓ap_assign, pop_assign, Int.toNat_natCast, hone]
        repeat (with_reducible refine And.intro ?_ ?_; · first | trivial | omega | (intro hg; simp only [Bool.and_eq_true, Bool.or_eq_true, Bool.not_eq_true', Bool.and_eq_false_iff, Bool.or_eq_false_iff, Bool.not_eq_false', decide_eq_true_eq, decide_eq_false_iff_not, eqNil] at hg; omega) | (simp only [List.length_cons, List.length_nil]; omega))
        change Awp _ _ _ _ _ _ _
        -- region 5  ref.go:179
        refine awp_r [0, 3, 4, 5] (by rfl) ?_
        simp (decide := true) only [aOps_nil, ev, absV, absS, putD, Slots.put, Slots.get, Slots.keep, if_true, if_false, true_and, ↓ap_move, pop_move, ↓ap_binOp, pop_binOp, isNilC_int, cond_false, pBinX_int, pI_add, ↓ap_assign, pop_assign]
        try simp (disch := omega) only [wrap_i64]
        repeat (with_reducible refine And.intro ?_ ?_; · first | trivial | omega | (intro hg; simp only [Bool.and_eq_true, Bool.or_eq_true, Bool.not_eq_true', Bool.and_eq_false_iff, Bool.or_eq_false_iff, Bool.not_eq_false', decide_eq_true_eq, decide_eq_false_iff_not, eqNil] at hg; omega) | (simp only [List.length_append, List.length_map, List.length_range, List.length_replicate, List.length_take, List.length_drop, List.length_cons, List.length_nil, List.length_set, List.length_reverse]; omega))
        try simp only [thenA_normal]
        first
        | exact ⟨⟨i + 1, !q, out⟩, rfl, Sub.refl _, ⟨hi', by simp only; omega, by simp only; rw [hbh]; exact hg⟩, by simp only; omega⟩
        | exact ⟨⟨i + 1, q, out⟩, rfl, Sub.refl _, ⟨hi', by simp only; omega, by simp only; rw [hbh]; exact hg⟩, by simp only; omega⟩
        | exact ⟨⟨i + 1, !q, out ++ [s.getD i 0]⟩, rfl, Sub.refl _, ⟨hi', by simp; omega, by simp only; rw [hbh, List.append_assoc]; exact hg⟩, by simp only; omega⟩
        | exact ⟨⟨i + 1, q, out ++ [s.getD i 0]⟩, rfl, Sub.refl _, ⟨hi', by simp; omega, by simp only; rw [hbh, List.append_assoc]; exact hg⟩, by simp only; omega⟩
    · try simp only [decide_eq_false_iff_not] at hb2
      have hqq : (if s.getD i 0 = 34 then !q else q) = q := if_neg (fun e => hb2 (u8_34.2 e))
      rw [hqq] at hg
      refine awp_skip ?_
      change Awp _ _ _ _ _ _ _
      refine awp_seq ?_
      -- region 8  ref.go:183
      refine awp_rseq [0, 3, 4, 5, 36] (by rfl) fun K hK => ?_
      simp (decide := true) only [aOps_nil, ev, absV, absS, putD, Slots.put, Slots.get, Slots.keep, if_true, if_false, true_and, ↓ap_move, pop_move, ↓ap_index, pop_index, pIndex_str Tryd.underlying9, ↓ap_binOp, pop_binOp, isNilC_int, cond_false, pBinX_int, pI_eql, ↓ag_move, agP, agQ_some, nthDst, gKnown_bool, guardB_bool_true, implies_true, ↓ag_unOp, pop_unOp, pU_not, cv_un, cp_un, ↓ap_pick, pop_pick, pPick_bool, pickV_cond_l, pickV_and, ↓ag_binOp, cv_binl, cp_binl, pI_gtr, pI_sub, ↓ag_index, cv_indexl, cv_indexr, cp_indexl, cp_indexr, Int.toNat_natCast]
      try simp (disch := omega) only [wrap_i64]
      repeat (with_reducible refine And.intro ?_ ?_; · first | trivial | omega | (intro hg; simp only [Bool.and_eq_true, Bool.not_eq_true', decide_eq_true_eq] at hg; omega) | (simp only [List.length_append, List.length_map, List.length_range, List.length_replicate, List.length_take, List.length_drop, List.length_cons, List.length_nil, List.length_set, List.length_reverse]; omega))
      apply hK; clear hK K
      refine awp_cond (b := _) rfl (fun hb4 => ?_) (fun hb4 => ?_)
      · try simp only [decide_eq_true_eq, Bool.not_eq_true', Bool.and_eq_true] at hb4
        have hpre : ((i : Int) - 1).toNat = i - 1 := by omega
        rw [hpre] at hb4
        obtain ⟨⟨⟨q1, q2⟩, q3⟩, q4⟩ := hb4
        rw [if_pos ⟨u8_32.1 q1, q2, by unfold behind; rw [decide_eq_true (by omega), decide_eq_true (u8_32.1 q4)]; rfl⟩] at hg
        refine awp_exit ?_
        change Awp _ _ _ _ _ _ _
        -- region 5  ref.go:179
        refine awp_r [0, 3, 4, 5] (by rfl) ?_
        simp (decide := true) only [aOps_nil, ev, absV, absS, putD, Slots.put, Slots.get, Slots.keep, if_true, if_false, true_and, ↓ap_move, pop_move, ↓ap_binOp, pop_binOp, isNilC_int, cond_false, pBinX_int, pI_add, ↓ap_assign, pop_assign]
        try simp (disch := omega) only [wrap_i64]
        repeat (with_reducible refine And.intro ?_ ?_; · first | trivial | omega | (intro hg; simp only [Bool.and_eq_true, Bool.or_eq_true, Bool.not_eq_true', Bool.and_eq_false_iff, Bool.or_eq_false_iff, Bool.not_eq_false', decide_eq_true_eq, decide_eq_false_iff_not, eqNil] at hg; omega) | (simp only [List.length_append, List.length_map, List.length_range, List.length_replicate, List.length_take, List.length_drop, List.length_cons, List.length_nil, List.length_set, List.length_reverse]; omega))
        try simp only [thenA_normal]
        first
        | exact ⟨⟨i + 1, !q, out⟩, rfl, Sub.refl _, ⟨hi', by simp only; omega, by simp only; rw [hbh]; exact hg⟩, by simp only; omega⟩
        | exact ⟨⟨i + 1, q, out⟩, rfl, Sub.refl _, ⟨hi', by simp only; omega, by simp only; rw [hbh]; exact hg⟩, by simp only; omega⟩
        | exact ⟨⟨i + 1, !q, out ++ [s.getD i 0]⟩, rfl, Sub.refl _, ⟨hi', by simp; omega, by simp only; rw [hbh, List.append_assoc]; exact hg⟩, by simp only; omega⟩
        | exact ⟨⟨i + 1, q, out ++ [s.getD i 0]⟩, rfl, Sub.refl _, ⟨hi', by simp; omega, by simp only; rw [hbh, List.append_assoc]; exact hg⟩, by simp only; omega⟩
      · try simp only [decide_eq_false_iff_not, Bool.not_eq_false', Bool.and_eq_false_iff] at hb4
        have hpre : ((i : Int) - 1).toNat = i - 1 := by omega
        rw [hpre] at hb4
        rw [if_neg (by
          rintro ⟨q1, q2, q3⟩
          unfold behind at q3
          simp only [Bool.and_eq_true, decide_eq_true_eq] at q3
          rcases hb4 with ((q | q) | q) | q
          · exact q (u8_32.2 q1)
          · rw [q] at q2; cases q2
          · omega
          · exact q (u8_32.2 q3.2))] at hg
        refine awp_skip ?_
        change Awp _ _ _ _ _ _ _
        -- region 9  ref.go:186
        refine awp_r [0, 3, 4, 5] (by rfl) ?_
        simp (decide := true) only [ev, absV, absS, putD, Slots.put, Slots.get, if_true, if_false, true_and, ↓ap_move, pop_move, ↓ap_binOp, pop_binOp, isNilC_int, cond_false, pBinX_int, pI_add]
        try simp (disch := omega) only [wrap_i64]
        try simp (decide := true) only [aOps_nil, ev, putD, Slots.put, Slots.get, Slots.keep, if_true, if_false, true_and, ↓ap_slice, pop_slice, evO, pSliceS_ii Tryd.underlying9, pSliceS, bndA_int, ↓ap_binOp, pop_binOp, isNilC_tmp, cond_false, pBinX_str, pS_add, ↓ap_assign, pop_assign, Int.toNat_natCast, hone]
        repeat (with_reducible refine And.intro ?_ ?_; · first | trivial | omega | (intro hg; simp only [Bool.and_eq_true, Bool.or_eq_true, Bool.not_eq_true', Bool.and_eq_false_iff, Bool.or_eq_false_iff, Bool.not_eq_false', decide_eq_true_eq, decide_eq_false_iff_not, eqNil] at hg; omega) | (simp only [List.length_cons, List.length_nil]; omega))
        change Awp _ _ _ _ _ _ _
        -- region 5  ref.go:179
        refine awp_r [0, 3, 4, 5] (by rfl) ?_
        simp (decide := true) only [aOps_nil, ev, absV, absS, putD, Slots.put, Slots.get, Slots.keep, if_true, if_false, true_and, ↓ap_move, pop_move, ↓ap_binOp, pop_binOp, isNilC_int, cond_false, pBinX_int, pI_add, ↓ap_assign, pop_assign]
        try simp (disch := omega) only [wrap_i64]
        repeat (with_reducible refine And.intro ?_ ?_; · first | trivial | omega | (intro hg; simp only [Bool.and_eq_true, Bool.or_eq_true, Bool.not_eq_true', Bool.and_eq_false_iff, Bool.or_eq_false_iff, Bool.not_eq_false', decide_eq_true_eq, decide_eq_false_iff_not, eqNil] at hg; omega) | (simp only [List.length_append, List.length_map, List.length_range, List.length_replicate, List.length_take, List.length_drop, List.length_cons, List.length_nil, List.length_set, List.length_reverse]; omega))
        try simp only [thenA_normal]
        first
        | exact ⟨⟨i + 1, !q, out⟩, rfl, Sub.refl _, ⟨hi', by simp only; omega, by simp only; rw [hbh]; exact hg⟩, by simp only; omega⟩
        | exact ⟨⟨i + 1, q, out⟩, rfl, Sub.refl _, ⟨hi', by simp only; omega, by simp only; rw [hbh]; exact hg⟩, by simp only; omega⟩
        | exact ⟨⟨i + 1, !q, out ++ [s.getD i 0]⟩, rfl, Sub.refl _, ⟨hi', by simp; omega, by simp only; rw [hbh, List.append_assoc]; exact hg⟩, by simp only; omega⟩
        | exact ⟨⟨i + 1, q, out ++ [s.getD i 0]⟩, rfl, Sub.refl _, ⟨hi', by simp; omega, by simp only; rw [hbh, List.append_assoc]; exact hg⟩, by simp only; omega⟩
  · try simp only [decide_eq_false_iff_not] at hb1
    refine awp_exit ?_
    change Awp _ _ _ _ _ _ _
    -- region 10  ref.go:188
    refine awp_rseq [2] (by rfl) fun K hK => ?_
    simp (decide := true) only [aOps_nil, ev, putD, Slots.put, Slots.get, Slots.keep, if_true, if_false, true_and, ↓ap_move, pop_move, ↓ap_assign, pop_assign]
    repeat (with_reducible refine And.intro ?_ ?_; · first | trivial | omega | (intro hg; simp only [Bool.and_eq_true, Bool.or_eq_true, Bool.not_eq_true', Bool.and_eq_false_iff, Bool.or_eq_false_iff, Bool.not_eq_false', decide_eq_true_eq, decide_eq_false_iff_not, eqNil] at hg; omega) | (simp only [List.length_append, List.length_map, List.length_range, List.length_replicate, List.length_take, List.length_drop, List.length_cons, List.length_nil, List.length_set, List.length_reverse]; omega))
    apply hK; clear hK K
    refine awp_ret ?_
    try simp only [thenA_ret, inBlockA_ret]
    refine retA_ret _ (Sub.refl _) (resPre_tmp (resPre_nil)) ?_
    simp (decide := true) only [Slots.get, if_true, and_true, resOf_one]
    have he : i = s.length := by omega
    rw [he, List.drop_length, sqGo, List.append_nil] at hg
    exact congrArg AVal.str hg
end Go.Proofs.YtikpnhdjjabdmaaDoor

