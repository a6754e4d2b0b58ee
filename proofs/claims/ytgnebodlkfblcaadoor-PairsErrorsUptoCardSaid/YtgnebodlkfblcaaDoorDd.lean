/-
  Texts of this proof, joined: PrX, PrY, PrZ, PsB, PsD, PsE, LwR, LwX, LwZ, LwF, LwG.
  Conditions: none.
-/
import Derived.Test.YtgnebodlkfblcaaDoorDc
import Derived.Test.YtgnebodlkfblcaaDoorProg
import Derived.Test.YtgnebodlkfblcaaDoorDb
import Derived.WalkKit
import Derived.ProofKit
import Derived.OpenShut
import Derived.ShutString
import Derived.ChangeOld
import Derived.Below
import Derived.Deep.Strs
import Derived.Handed
import Derived.HandedShaped
import Derived.Shelf.Vars
import Derived.Test.YtgnebodlkfblcaaDoorRows
import Derived.Lib.LaidTab
import Derived.Lib.SmallJoins
import Derived.MakeChecks
set_option linter.unusedSimpArgs false
set_option linter.unnecessarySimpa false
set_option linter.unusedVariables false
/-
  Contracts: the records that the laws build.
  Conditions: none.
-/
namespace Go.Proofs.YtgnebodlkfblcaaDoor
open Go.AM
open Go.Proofs
open Go.Col
open Go.Prs
open Go.RowKit (Below)
set_option maxRecDepth 100000

/-- An entry, as the laws are handed it. -/
def entC (e : EntryP) : List AVal := [.int .u8 e.level, .int .u8 e.name, .int .u8 e.kind, .int .u8 e.flag]
def EntOk (e : EntryP) : Prop := e.level < 256 ∧ e.name < 256 ∧ e.kind < 256 ∧ e.flag < 256
theorem ent_len {w₀ : World} {h : AHeap} {v : AVal} {es : List EntryP} (hv : IsL w₀ h 4 v (es.map entC)) : ∀ H : AHeap, pLenH Tryd.prog H 23 v = ⟨True, .int .i64 es.length⟩ := by
  have := hv.len Tryd.underlying23
  rwa [List.length_map] at this
theorem ent_open {w₀ : World} {h : AHeap} {v : AVal} {es : List EntryP} (hv : IsL w₀ h 4 v (es.map entC)) (hn : 0 < es.length) : ∃ lc o c, v = .slice lc o es.length c := by
  obtain ⟨lc, o, c, e⟩ := hv.open (fun e => by rw [List.map_eq_nil_iff] at e; subst e; simp at hn)
  rw [List.length_map] at e
  exact ⟨lc, o, c, e⟩
theorem ent_rd {w₀ : World} {h : AHeap} {es : List EntryP} {lc : AM.Loc} {o : Nat} {c : Cap} (hv : IsL w₀ h 4 (.slice lc o es.length c) (es.map entC)) {i : Nat} (hi : i < es.length) {j : Nat} (hj : j < 4) : rd w₀ h lc (o + i * 4 + j) = (entC (es.getD i default)).getD j .dead := by
  have he := hv.at (i := i) (by rw [List.length_map]; exact hi) hj
  rwa [getD_map (ys := es) default hi] at he

/-! ### The search for the group above -/
theorem search_fuel {l : List ItemP} (hg : Prs.Good l) {lv : Int} (hv : 2 ≤ lv) : ∀ (n m : Nat) (p : Int), 0 ≤ p → p < l.length → p < n → p < m → searchE l lv n p = searchE l lv m p
  | 0, m, p, h0, _, h2, _ => by omega
  | n + 1, 0, p, h0, _, _, h2 => by omega
  | n + 1, m + 1, p, h0, h1, h2, h3 => by
    rw [searchE, searchE]
    split
    · rename_i hc
      have hp0 : p ≠ 0 := fun e => by
        subst e
        have := hg.root.1
        unfold lvl at hc
        rw [Int.toNat_zero] at hc
        omega
      have := hg.item p.toNat (by omega) (by omega)
      unfold par at *
      exact search_fuel hg hv n m _ (by omega) (by omega) (by omega) (by omega)
    · rfl
theorem search_step {l : List ItemP} (hg : Prs.Good l) {lv : Int} (hv : 2 ≤ lv) {p : Int} (h0 : 0 ≤ p) (h1 : p < l.length) (hc : lv ≤ (l.getD p.toNat default).level) : searchE l lv l.length p = searchE l lv l.length (l.getD p.toNat default).parent ∧ 0 ≤ (l.getD p.toNat default).parent ∧ (l.getD p.toNat default).parent < p := by
  have hp0 : p ≠ 0 := fun e => by
    subst e
    have := hg.root.1
    rw [Int.toNat_zero] at hc
    omega
  have hi := hg.item p.toNat (by omega) (by omega)
  refine ⟨?_, hi.2.1, by omega⟩
  obtain ⟨n, hn⟩ : ∃ n, l.length = n + 1 := ⟨l.length - 1, by omega⟩
  have e1 : searchE l lv l.length p = searchE l lv n (l.getD p.toNat default).parent := by
    rw [hn, searchE, if_pos (by unfold lvl; exact hc)]
    rfl
  rw [e1]
  exact search_fuel hg hv _ _ _ hi.2.1 (by omega) (by omega) (by omega)
theorem search_stop {l : List ItemP} {lv p : Int} (hl : 0 < l.length) (hc : ¬ lv ≤ (l.getD p.toNat default).level) : searchE l lv l.length p = p := by
  obtain ⟨n, hn⟩ : ∃ n, l.length = n + 1 := ⟨l.length - 1, by omega⟩
  rw [hn, searchE, if_neg (by unfold lvl; exact hc)]
theorem nmE_get (n : Nat) : ([AVal.str [88], .str [89], .str [90], .str [71], .str [70, 73, 76, 76, 69, 82]] : List AVal).getD (n % 5) .dead = .str (nmE n) := by
  unfold nmE filler
  have : n % 5 < 5 := Nat.mod_lt _ (by decide)
  generalize n % 5 = m at *
  match m, this with
  | 0, _ => rfl
  | 1, _ => rfl
  | 2, _ => rfl
  | 3, _ => rfl
  | 4, _ => rfl

/-! ### The first loop -/
theorem grow_snoc : ∀ (x : List EntryP) (l : List ItemP) (e : EntryP), growE (x ++ [e]) l = growE x l ++ [stepE (growE x l) e]
  | [], l, e => rfl
  | y :: x, l, e => by rw [List.cons_append, growE, growE, grow_snoc x]
structure OfG where
  i : Nat
  H : AHeap
  k : Nat
  c : Cap
  l : List (ItemP × ItemO)
structure OfOk (h : AHeap) (ka kb : Nat) (cR : List AVal) (es : List EntryP) (s : OfG) : Prop where
  i : s.i ≤ es.length ∧ s.i ≤ 20
  sub : Sub h s.H
  res : s.H ka = some ⟨[.nilSlice, .int .i64 0], 0⟩
  root : s.H kb = some ⟨cR, 0⟩
  row : s.H s.k = some ⟨(s.l.map itC).flatten, 0⟩
  new : h s.k = none ∧ s.k ≠ ka ∧ s.k ≠ kb
  cap : s.c = .exact (s.l.map itC).length ∨ s.c = .grow 22
  eq : items s.l = growE (es.take s.i) [rootP]
  len : s.l.length = s.i + 1
  oth : ∀ q ∈ s.l, q.2.val = .nilSlice
theorem capOk_of {n : Nat} : ∀ {c : Cap}, (c = .exact n ∨ c = .grow 22) → match c with | .exact m => n ≤ m | .grow g => g = 22 := by
  rintro c (rfl | rfl)
  · exact Nat.le_refl _
  · rfl
theorem row_live {l : List (ItemP × ItemO)} (h : ∀ q ∈ l, q.2.val = .nilSlice) : allLive (l.map itC).flatten = true ∧ allScal (l.map itC).flatten = true := by
  rw [allLive_flatten, allScal_flatten]
  constructor
  · intro x hx
    obtain ⟨q, hq, rfl⟩ := List.mem_map.1 hx
    have := h q hq
    unfold itC itemC
    rw [this]
    rfl
  · intro x hx
    obtain ⟨q, hq, rfl⟩ := List.mem_map.1 hx
    have := h q hq
    unfold itC itemC
    rw [this]
    rfl
theorem of_step {h H H' : AHeap} {ka kb kr k6 k7 k' i : Nat} {cR : List AVal} {es : List EntryP} {c : Cap} {l : List (ItemP × ItemO)} {B1 B2 : Blk} {e : EntryP} (hok : OfOk h ka kb cR es ⟨i, H, kr, c, l⟩) (hi : i < es.length) (h20 : i < 20) (he : e = es.getD i default) (n6 : H k6 = none) (n7 : H k7 = none)
    (g1 : H' k' = some ⟨(l.map itC ++ [itC (stepE (items l) e, namO)]).flatten, 0⟩) (g2 : ((H.set k6 B1).set k7 B2) k' = none ∨ k' = kr) (g3 : ∀ (j : Nat) (d : Blk), ((H.set k6 B1).set k7 B2) j = some d → j ≠ kr → H' j = some d ∧ j ≠ k') :
    OfOk h ka kb cR es ⟨i + 1, H', k', .grow 22, l ++ [(stepE (items l) e, namO)]⟩ := by
  obtain ⟨-, hs, ea, eb, er, ⟨hn, na, nb⟩, -, heq, hlen, hoth⟩ := hok
  simp only at hs ea eb er hn na nb heq hlen hoth
  have g4 : ∀ j d, H j = some d → j ≠ kr → H' j = some d ∧ j ≠ k' := fun j d hj hne => by
    refine g3 j d ?_ hne
    rw [AHeap.set_ne _ _ (AHeap.ne_some n7 hj).symm, AHeap.set_ne _ _ (AHeap.ne_some n6 hj).symm]
    exact hj
  have ga := g4 _ _ ea na.symm
  have gb := g4 _ _ eb nb.symm
  refine ⟨⟨hi, h20⟩, fun j d hj => (g4 j d (hs j d hj) fun e => by subst e; rw [hn] at hj; cases hj).1, ga.1, gb.1, ?_, ⟨?_, ga.2.symm, gb.2.symm⟩, .inr rfl, ?_, ?_, ?_⟩
  · rw [List.map_append]; exact g1
  · rcases g2 with g | g
    · simp only [AHeap.set_none] at g
      exact Sub.none hs (by simp only [g])
    · rw [g]; exact hn
  · have ht : es.take (i + 1) = es.take i ++ [e] := by
      rw [List.take_add_one, he, List.getD, List.getElem?_eq_getElem hi]
      rfl
    rw [ht, grow_snoc, ← heq]
    unfold items
    rw [List.map_append]
    rfl
  · rw [List.length_append, hlen]; rfl
  · intro q hq
    rcases List.mem_append.1 hq with h | h
    · exact hoth q h
    · rw [List.mem_singleton.1 h]; rfl
theorem root_good : Prs.Good [rootP] := ⟨by simp, ⟨rfl, rfl⟩, fun i h0 h1 => by simp at h1; omega⟩

set_option maxHeartbeats 4000000 in
theorem l_Of1 (w₀ : World) (h : AHeap) (ka kb : Nat) (v : AVal) (es : List EntryP) (R : AVal → AHeap → Prop) (hv : IsL w₀ h 4 v (es.map entC)) (hes : ∀ e ∈ es, EntOk e) (hl : es.length ≤ 9223372036854775807) (H0 : AHeap) (k0 : Nat) (hok : OfOk h ka kb (itemC rootP namO) es ⟨0, H0, k0, .exact 1, [(rootP, namO)]⟩)
    (hrest : ∀ s : OfG, OfOk h ka kb (itemC rootP namO) es s → items s.l = rawE es → Awp Tryd.prog w₀ 163 (dropSeq 4 (bodyOf Tryd.f8)) (retA Tryd.prog w₀ [.cell 2 27] (R)) [(0, v), (2, .ptr (.own ka) 0), (4, .slice (.own s.k) 0 s.l.length s.c)] (s.H)) :
    Awp Tryd.prog w₀ 163 (dropSeq 3 (bodyOf Tryd.f8)) (retA Tryd.prog w₀ [.cell 2 27] (R)) [(0, v), (2, .ptr (.own ka) 0), (3, .ptr (.own kb) 0), (4, .slice (.own k0) 0 1 (.exact 1))] (H0) := by
  have hlv := hv.live
  have nv := ent_len hv
  obtain ⟨cR, hcR⟩ : ∃ cR, cR = itemC rootP namO := ⟨_, rfl⟩
  rw [← hcR] at hok hrest
  change Awp _ _ _ (Code.seq _ _) _ _ _
  refine awp_seq ?_
  -- region 3  law.go:24
  refine awp_rseq [0, 2, 3, 4, 5] (by rfl) fun K hK => ?_
  simp (decide := true) only [aOps_nil, ev, absV, absS, putD, Slots.put, Slots.keep, if_true, if_false, true_and, ↓ap_assign, pop_assign]
  apply hK; clear hK K
  refine awp_block ?_
  refine awp_loopG [0, 2, 3, 4, 5] (fun s : OfG => [(0, v), (2, .ptr (.own ka) 0), (3, .ptr (.own kb) 0), (4, .slice (.own s.k) 0 s.l.length s.c), (5, .int .i64 s.i)]) (fun s : OfG => s.H) (fun s : OfG => OfOk h ka kb cR es s) (fun s : OfG => 20 - s.i) ⟨0, H0, k0, .exact 1, [(rootP, namO)]⟩ (by rfl) (Sub.refl _) hok ?_
  rintro ⟨i, H, kr, c, l⟩ ⟨⟨hi1, hi2⟩, hs_H, eb_a, eb_b, eb_r, ⟨hnr, ne_r_a, ne_r_b⟩, hcap, heq, hlen, hoth⟩
  simp only at hi1 hi2 hs_H eb_a eb_b eb_r hnr ne_r_a ne_r_b hcap heq hlen hoth ⊢
  have hin := items_len l
  obtain ⟨hal, hsc⟩ := row_live hoth
  have hwd := it_wide (l := l)
  have hLr : IsL w₀ H 22 (.slice (.own kr) 0 l.length c) (l.map itC) := by
    have := IsL.own (w₀ := w₀) (xs := l.map itC) eb_r hwd rfl hal c (capOk_of hcap)
    rwa [List.length_map] at this
  have nl := it_len hLr
  have hcaR : cellsAt w₀ H (.own kb) 0 22 = [.str [82], .int .i64 1, .int .i64 (-1), .int .u8 0, .int .u8 0, .str [], .int .i64 0, .int .i64 0, .bool false, .bool false, .bool false, .bool false, .bool false, .int .i64 0, .int .i64 0, .int .i64 1, .int .i64 0, .int .i64 (-1), .int .i64 (-1), .int .i64 (-1), .int .i64 (-1), .nilSlice] := by
    rw [cellsAt_own eb_b 0 22 (by rw [hcR]; decide), List.drop_zero, hcR]
    rfl
  refine awp_seq ?_
  -- region 4  law.go:24
  refine awp_rseq [0, 2, 3, 4, 5, 20] (by rfl) fun K hK => ?_
  simp (decide := true) only [aOps_nil, ev, absV, absS, putD, Slots.put, Slots.get, Slots.keep, if_true, if_false, true_and, ↓ap_move, pop_move, ↓ap_len, pop_len, ↓ap_binOp, pop_binOp, isNilC_tmp, cond_false, pBinX_int, pI_lss, ↓ag_move, agP, agQ_some, nthDst, gKnown_bool, guardB_bool_true, implies_true, ↓ag_binOp, isNilC_int, cv_binl, cp_binl, ↓ap_pick, pop_pick, pPick_bool, pickV_cond_l, pickV_and, nv]
  apply hK; clear hK K
  refine awp_cond (b := _) rfl (fun hb1 => ?_) (fun hb1 => ?_)
  · try simp only [decide_eq_true_eq, Bool.and_eq_true] at hb1
    have hi' : i < es.length := by omega
    obtain ⟨lce, oe, ce, rfl⟩ := ent_open hv (by omega)
    have hgd : Prs.Good (items l) := by rw [heq]; exact grow_good _ root_good
    obtain ⟨e, he⟩ : ∃ e, e = es.getD i default := ⟨_, rfl⟩
    have hek : EntOk e := hes e (by rw [he, List.getD, List.getElem?_eq_getElem hi']; exact List.getElem_mem hi')
    obtain ⟨b1, b2, b3, b4⟩ := hek
    have hm4 : Int.tmod (e.level : Int) 4 = ((e.level % 4 : Nat) : Int) := by rw [Int.tmod_eq_emod_of_nonneg (by omega)]; exact (Int.natCast_emod e.level 4).symm
    have hm5 : Int.tmod (e.name : Int) 5 = ((e.name % 5 : Nat) : Int) := by rw [Int.tmod_eq_emod_of_nonneg (by omega)]; exact (Int.natCast_emod e.name 5).symm
    have hm12 : Int.tmod (e.flag : Int) 12 = ((e.flag % 12 : Nat) : Int) := by rw [Int.tmod_eq_emod_of_nonneg (by omega)]; exact (Int.natCast_emod e.flag 12).symm
    obtain ⟨lv, hlv2⟩ : ∃ lv : Int, lv = 2 + ((e.level % 4 : Nat) : Int) := ⟨_, rfl⟩
    have hlvb : 2 ≤ lv ∧ lv ≤ 5 := by omega
    refine awp_skip ?_
    change Awp _ _ _ _ _ _ _
    refine awp_seq ?_
    refine awp_block ?_
    -- region 6  law.go:25
    refine awp_rseq [0, 2, 3, 4, 5, 6] (by rfl) fun K hK => ?_
    simp (decide := true) only [ev, putD, Slots.put, Slots.get, if_true, if_false, true_and, ↓ap_loadL, apL_mk, pLoad_agg ag44 sz44, lv_bool, lv_int, lv_str, lv_nilSlice, allLive, Bool.and_true, ↓hcaR]
    refine aOps_alloc ze44 (cs := [.str [], .int .i64 0, .int .i64 0, .int .u8 0, .int .u8 0, .str [], .int .i64 0, .int .i64 0, .bool false, .bool false, .bool false, .bool false, .bool false, .int .i64 0, .int .i64 0, .int .i64 0, .int .i64 0, .int .i64 0, .int .i64 0, .int .i64 0, .int .i64 0, .nilSlice]) (by rfl) fun k6q1 hk6q1 => ?_
    have hn_6q1 : H k6q1 = none := by first | assumption | (simp only [AHeap.set_none] at hk6q1; simp only [hk6q1])
    have hf_6q1 : h k6q1 = none := Sub.none hs_H hn_6q1
    have ne_6q1_a : k6q1 ≠ ka := AHeap.ne_some hn_6q1 eb_a
    have ne_6q1_b : k6q1 ≠ kb := AHeap.ne_some hn_6q1 eb_b
    have ne_6q1_r : k6q1 ≠ kr := AHeap.ne_some hn_6q1 eb_r
    refine aOps_store (by rfl) (by rfl) (by repeat (first | exact AHeap.set_same _ _ _ | assumption | refine (AHeap.set_ne _ _ (by first | assumption | exact Ne.symm (by assumption))).trans ?_)) sz44 (by rfl) (by rfl) (by first | exact Nat.le_refl _ | decide | (simp; done) | (simp; omega)) (Nat.zero_le _) (by first | rfl | (simp (decide := true) only [ev, putD, Slots.put, Slots.get, if_true, if_false, AVal.cells, allScal, Bool.and_true, Bool.true_and, sc_int, sc_str, sc_bool])) ?_
    simp only [AHeap.set_set, AVal.cells]
    simp (decide := true) only [aOps_nil, ev, putD, Slots.put, Slots.get, Slots.keep, if_true, if_false, setAt, List.set_cons_zero, List.set_cons_succ, Nat.zero_add, Nat.reduceAdd]
    apply hK; clear hK K
    have er : ∀ X, (rd w₀ (H.set k6q1 X) lce (oe + i * 4 + 0) = .int .u8 e.level ∧ rd w₀ (H.set k6q1 X) lce (oe + i * 4 + 3) = .int .u8 e.flag) ∧ ∀ Y k', (H.set k6q1 X) k' = none → rd w₀ ((H.set k6q1 X).set k' Y) lce (oe + i * 4 + 1) = .int .u8 e.name := by
      intro X
      have hX : Sub h (H.set k6q1 X) := Sub.set_off hs_H hf_6q1 X
      have q0 := ent_rd (hv.mono hX) hi' (j := 0) (by decide)
      have q3 := ent_rd (hv.mono hX) hi' (j := 3) (by decide)
      rw [← he] at q0 q3
      refine ⟨⟨q0, q3⟩, fun Y k' hk' => ?_⟩
      have hY : Sub (H.set k6q1 X) ((H.set k6q1 X).set k' Y) := Sub.set hk'
      have q1 := ent_rd (hv.mono (hX.trans hY)) hi' (j := 1) (by decide) (w₀ := w₀)
      rw [← he] at q1
      exact q1
    have er0 := fun X => (er X).1.1
    have er3 := fun X => (er X).1.2
    -- region 7  law.go:26
    refine awp_rseq [0, 2, 3, 4, 5, 6] (by rfl) fun K hK => ?_
    simp (decide := true) only [ev, absV, absS, putD, Slots.put, Slots.get, if_true, if_false, true_and, ↓ap_move, pop_move, ↓ap_indexAddrL, apL_mk, pIndexAddr_slice Tryd.underlying23 sz58, ↓ap_fieldAddr, pop_fieldAddr, fa58_0, ↓ap_loadL, pLoad_one ag5, ↓ap_binOp, pop_binOp, isNilC_int, cond_false, pBinX_int, pI_rem, ↓ap_convert _ _ _ (es_int Tryd.underlying5 Tryd.underlying3), pop_convert, pConv_int Tryd.underlying5 Tryd.underlying3, isNilC_tmp, pI_add, fa44_1, Nat.zero_add, lv_int, er0, hm4, Int.toNat_natCast]
    try simp (disch := omega) only [wrap_i64]
    repeat (with_reducible refine And.intro ?_ ?_; · first | trivial | omega | (intro hg; simp only [Bool.and_eq_true, Bool.or_eq_true, Bool.not_eq_true', Bool.and_eq_false_iff, Bool.or_eq_false_iff, Bool.not_eq_false', decide_eq_true_eq, decide_eq_false_iff_not, eqNil] at hg; omega) )
    refine aOps_store (by rfl) (by rfl) (by repeat (first | exact AHeap.set_same _ _ _ | assumption | refine (AHeap.set_ne _ _ (by first | assumption | exact Ne.symm (by assumption))).trans ?_)) sz3 (by rfl) (by rfl) (by first | exact Nat.le_refl _ | decide | (simp; done) | (simp; omega)) (Nat.zero_le _) (by first | rfl | (simp (decide := true) only [ev, putD, Slots.put, Slots.get, if_true, if_false, AVal.cells, allScal, Bool.and_true, Bool.true_and, sc_int, sc_str, sc_bool])) ?_
    simp only [AHeap.set_set, AVal.cells]
    simp (decide := true) only [aOps_nil, ev, putD, Slots.get, Slots.keep, if_true, if_false, setAt, List.set_cons_zero, List.set_cons_succ]
    apply hK; clear hK K
    rw [← hlv2]
    -- region 8  law.go:27
    refine awp_rseq [0, 2, 3, 4, 5, 6] (by rfl) fun K hK => ?_
    refine aOps_buildSlice (cs := [.str [88], .str [89], .str [90], .str [71], .str [70, 73, 76, 76, 69, 82]]) (by kernel_rfl) fun k8q0 hk8q0 => ?_
    have ne_8q0_6q1 : k8q0 ≠ k6q1 := by simp only [AHeap.set_none] at hk8q0; simp only [hk8q0, ne_eq, not_false_eq_true]
    have hn_8q0 : H k8q0 = none := by first | assumption | (simp only [AHeap.set_none] at hk8q0; simp only [hk8q0])
    have hf_8q0 : h k8q0 = none := Sub.none hs_H hn_8q0
    have ne_8q0_a : k8q0 ≠ ka := AHeap.ne_some hn_8q0 eb_a
    have ne_8q0_b : k8q0 ≠ kb := AHeap.ne_some hn_8q0 eb_b
    have ne_8q0_r : k8q0 ≠ kr := AHeap.ne_some hn_8q0 eb_r
    simp (decide := true) only [ev, absV, absS, putD, Slots.put, Slots.get, if_true, if_false, true_and, ↓ap_move, pop_move, ↓ap_indexAddrL, apL_mk, pIndexAddr_slice Tryd.underlying23 sz58, ↓ap_fieldAddr, pop_fieldAddr, fa58_1, ↓ap_loadL, pLoad_one ag5, ↓ap_binOp, pop_binOp, isNilC_int, cond_false, pBinX_int, pI_rem, pIndexAddr_slice Tryd.underlying48 sz9, pLoad_one ag9, fa44_0, rd_any, Nat.zero_add, lv_int, lv_str, (er _).2 _ _ hk8q0, hm5, Nat.mul_one, nmE_get, Int.toNat_natCast]
    repeat (with_reducible refine And.intro ?_ ?_; · first | trivial | omega | (intro hg; simp only [Bool.and_eq_true, Bool.or_eq_true, Bool.not_eq_true', Bool.and_eq_false_iff, Bool.or_eq_false_iff, Bool.not_eq_false', decide_eq_true_eq, decide_eq_false_iff_not, eqNil] at hg; omega) )
    refine aOps_store (by rfl) (by rfl) (by repeat (first | exact AHeap.set_same _ _ _ | assumption | refine (AHeap.set_ne _ _ (by first | assumption | exact Ne.symm (by assumption))).trans ?_)) sz9 (by rfl) (by rfl) (by first | exact Nat.le_refl _ | decide | (simp; done) | (simp; omega)) (Nat.zero_le _) (by first | rfl | (simp (decide := true) only [ev, putD, Slots.put, Slots.get, if_true, if_false, AVal.cells, allScal, Bool.and_true, Bool.true_and, sc_int, sc_str, sc_bool])) ?_
    simp only [AVal.cells]
    simp (decide := true) only [aOps_nil, ev, putD, Slots.get, Slots.keep, if_true, if_false, setAt, List.set_cons_zero]
    apply hK; clear hK K
    -- region 9  law.go:28
    refine awp_rseq [0, 2, 3, 4, 5, 6] (by rfl) fun K hK => ?_
    simp (decide := true) only [ev, absV, absS, putD, Slots.put, Slots.get, if_true, if_false, true_and, ↓ap_move, pop_move, ↓ap_len, pop_len, pLen_slice Tryd.underlying25, ↓ap_binOp, pop_binOp, isNilC_int, cond_false, pBinX_int, pI_sub, ↓ap_fieldAddr, pop_fieldAddr, fa44_2, Nat.zero_add]
    try simp (disch := omega) only [wrap_i64]
    refine aOps_store (by rfl) (by rfl) (by repeat (first | exact AHeap.set_same _ _ _ | assumption | refine (AHeap.set_ne _ _ (by first | assumption | exact Ne.symm (by assumption))).trans ?_)) sz3 (by rfl) (by rfl) (by first | exact Nat.le_refl _ | decide | (simp; done) | (simp; omega)) (Nat.zero_le _) (by first | rfl | (simp (decide := true) only [ev, putD, Slots.put, Slots.get, if_true, if_false, AVal.cells, allScal, Bool.and_true, Bool.true_and, sc_int, sc_str, sc_bool])) ?_
    simp only [AHeap.set_set, AVal.cells]
    simp (decide := true) only [aOps_nil, ev, putD, Slots.get, Slots.keep, if_true, if_false, setAt, List.set_cons_zero, List.set_cons_succ]
    apply hK; clear hK K
    refine awp_seq ?_
    refine awp_block ?_
    refine awp_loopG [0, 2, 3, 4, 5, 6] (fun p : Int => [(0, .slice lce oe es.length ce), (2, .ptr (.own ka) 0), (3, .ptr (.own kb) 0), (4, .slice (.own kr) 0 l.length c), (5, .int .i64 i), (6, .ptr (.own k6q1) 0)]) (fun p : Int => H.set k6q1 ⟨[.str (nmE e.name), .int .i64 lv, .int .i64 p, .int .u8 0, .int .u8 0, .str [], .int .i64 0, .int .i64 0, .bool false, .bool false, .bool false, .bool false, .bool false, .int .i64 0, .int .i64 0, .int .i64 1, .int .i64 0, .int .i64 (-1), .int .i64 (-1), .int .i64 (-1), .int .i64 (-1), .nilSlice], 0⟩) (fun p : Int => 0 ≤ p ∧ p < l.length ∧ searchE (items l) lv (items l).length p = searchE (items l) lv (items l).length ((l.length : Int) - 1)) (fun p : Int => p.toNat) ((l.length : Int) - 1) (by rfl) (by repeat (first | exact Sub.refl _ | assumption | refine Sub.set_both ?_ _ _ | refine Sub.trans_set ?_ (by repeat (first | assumption | refine (AHeap.set_ne _ _ (by first | assumption | exact Ne.symm (by assumption))).trans ?_)))) ⟨by omega, by omega, rfl⟩ ?_
    rintro p ⟨hp0, hp1, hps⟩
    have hrl := it_rd hLr (i := p.toNat) (by omega) (j := 1) (by decide)
    have hrp := it_rd hLr (i := p.toNat) (by omega) (j := 2) (by decide)
    rw [Nat.zero_add] at hrl hrp
    obtain ⟨⟨x, q⟩, hx⟩ : ∃ a, l.getD p.toNat default = a := ⟨_, rfl⟩
    rw [hx] at hrl hrp
    have hrl' : (l.map itC).flatten.getD (p.toNat * 22 + 1) .dead = .int .i64 x.level := (rd_own w₀ eb_r _).symm.trans hrl
    have hrp' : (l.map itC).flatten.getD (p.toNat * 22 + 2) .dead = .int .i64 x.parent := (rd_own w₀ eb_r _).symm.trans hrp
    have hxi : (items l).getD p.toNat default = x := by rw [items_getD, hx]
    refine awp_seq ?_
    -- region 10  law.go:29
    refine awp_dseq_all [0, 2, 3, 4, 5, 6, 55] mixed (by kernel_rfl) (by rfl) (by rfl) fun K hK => ?_
    simp (decide := true) only [aOps_nil, ev, putD, Slots.put, Slots.get, Slots.keep, if_true, if_false, true_and, ↓ap_move, pop_move, ↓ap_fieldAddr, pop_fieldAddr, fa44_2, ↓ap_loadL, apL_mk, pLoad_one ag3, ↓ap_indexAddrL, pIndexAddr_slice Tryd.underlying25 sz44, fa44_1, ↓ap_binOp, pop_binOp, isNilC_tmp, cond_false, pBinX_int, pI_geq, rd_ne', ne_eq, not_false_eq_true, ne_6q1_r.symm, rd_own w₀ eb_r, rd_any, List.getD_cons_zero, List.getD_cons_succ, Nat.zero_add, lv_int, hrl']
    repeat (with_reducible refine And.intro ?_ ?_; · first | trivial | omega | (intro hg; simp only [Bool.and_eq_true, Bool.or_eq_true, Bool.not_eq_true', Bool.and_eq_false_iff, Bool.or_eq_false_iff, Bool.not_eq_false', decide_eq_true_eq, decide_eq_false_iff_not, eqNil] at hg; omega) )
    apply hK; clear hK K
    refine awp_cond (b := _) rfl (fun hb2 => ?_) (fun hb2 => ?_)
    · try simp only [decide_eq_true_eq] at hb2
      obtain ⟨s1, s2, s3⟩ := search_step hgd hlvb.1 hp0 (by rw [hin]; exact hp1) (by rw [hxi]; exact hb2)
      rw [hxi] at s1 s2 s3
      refine awp_skip ?_
      change Awp _ _ _ _ _ _ _
      refine awp_block ?_
      -- region 11  law.go:30
      refine awp_r [0, 2, 3, 4, 5, 6] (by rfl) ?_
      simp (decide := true) only [ev, putD, Slots.put, Slots.get, if_true, if_false, true_and, ↓ap_move, pop_move, ↓ap_fieldAddr, pop_fieldAddr, fa44_2, ↓ap_loadL, apL_mk, pLoad_one ag3, ↓ap_indexAddrL, pIndexAddr_slice Tryd.underlying25 sz44, rd_ne', ne_eq, not_false_eq_true, ne_6q1_r.symm, rd_own w₀ eb_r, rd_any, List.getD_cons_zero, List.getD_cons_succ, Nat.zero_add, lv_int, hrp']
      repeat (with_reducible refine And.intro ?_ ?_; · first | trivial | omega | (intro hg; simp only [Bool.and_eq_true, Bool.or_eq_true, Bool.not_eq_true', Bool.and_eq_false_iff, Bool.or_eq_false_iff, Bool.not_eq_false', decide_eq_true_eq, decide_eq_false_iff_not, eqNil] at hg; omega) )
      refine aOps_store (by rfl) (by rfl) (by repeat (first | exact AHeap.set_same _ _ _ | assumption | refine (AHeap.set_ne _ _ (by first | assumption | exact Ne.symm (by assumption))).trans ?_)) sz3 (by rfl) (by rfl) (by first | exact Nat.le_refl _ | decide | (simp; done) | (simp; omega)) (Nat.zero_le _) (by first | rfl | (simp (decide := true) only [ev, putD, Slots.put, Slots.get, if_true, if_false, AVal.cells, allScal, Bool.and_true, Bool.true_and, sc_int, sc_str, sc_bool])) ?_
      simp only [AHeap.set_set, AVal.cells]
      simp (decide := true) only [aOps_nil, ev, putD, Slots.get, Slots.keep, if_true, if_false, setAt, List.set_cons_zero, List.set_cons_succ]
      try simp only [thenA_normal, inBlockA_normal]
      exact ⟨x.parent, rfl, Sub.refl _, ⟨s2, by omega, by rw [← s1]; exact hps⟩, by omega⟩
    · try simp only [decide_eq_false_iff_not] at hb2
      have hT := search_stop (l := items l) (lv := lv) (p := p) (by rw [hin]; omega) (by rw [hxi]; exact hb2)
      rw [hT, hin] at hps
      have hpl : plainE (items l) e = ⟨nmE e.name, lv, p, 0, 1, -1, -1⟩ := by
        unfold plainE rootP
        rw [hin, ← hlv2, ← hps]
      refine awp_exit ?_
      change Awp _ _ _ _ _ _ _
      refine awp_seq ?_
      -- region 12  law.go:32
      refine awp_rseq [0, 2, 3, 4, 5, 6, 68] (by rfl) fun K hK => ?_
      simp (decide := true) only [aOps_nil, ev, absV, absS, putD, Slots.put, Slots.get, Slots.keep, if_true, if_false, true_and, ↓ap_move, pop_move, ↓ap_indexAddrL, apL_mk, pIndexAddr_slice Tryd.underlying23 sz58, ↓ap_fieldAddr, pop_fieldAddr, fa58_3, ↓ap_loadL, pLoad_one ag5, ↓ap_binOp, pop_binOp, isNilC_int, cond_false, pBinX_int, pI_rem, lv_int, er3, hm12, Int.toNat_natCast]
      repeat (with_reducible refine And.intro ?_ ?_; · first | trivial | omega | (intro hg; simp only [Bool.and_eq_true, Bool.or_eq_true, Bool.not_eq_true', Bool.and_eq_false_iff, Bool.or_eq_false_iff, Bool.not_eq_false', decide_eq_true_eq, decide_eq_false_iff_not, eqNil] at hg; omega) )
      apply hK; clear hK K
      refine awp_block ?_
      -- region 13  law.go:33
      refine awp_rseq [0, 2, 3, 4, 5, 6, 68, 69] (by rfl) fun K hK => ?_
      simp (decide := true) only [aOps_nil, ev, absV, absS, putD, Slots.put, Slots.get, Slots.keep, if_true, if_false, true_and, ↓ap_binOp, pop_binOp, isNilC_int, cond_false, pBinX_int, pI_eql, ↓ap_assign, pop_assign]
      apply hK; clear hK K
      refine awp_cond (b := _) rfl (fun hb3 => ?_) (fun hb3 => ?_)
      · try simp only [decide_eq_true_eq] at hb3
        have hst : stepE (items l) e = ⟨nmE e.name, lv, p, 0, 3, -1, -1⟩ := by
          unfold stepE
          rw [show e.flag % 12 = 0 by omega, hpl]
          rfl
        -- region 14  law.go:34
        refine awp_r [0, 2, 3, 4, 5, 6] (by rfl) ?_
        simp (decide := true) only [ev, putD, Slots.put, Slots.get, if_true, if_false, true_and, ↓ap_fieldAddr, pop_fieldAddr, fa44_5, Nat.zero_add]
        refine aOps_store (by rfl) (by rfl) (by repeat (first | exact AHeap.set_same _ _ _ | assumption | refine (AHeap.set_ne _ _ (by first | assumption | exact Ne.symm (by assumption))).trans ?_)) sz3 (by rfl) (by rfl) (by first | exact Nat.le_refl _ | decide | (simp; done) | (simp; omega)) (Nat.zero_le _) (by first | rfl | (simp (decide := true) only [ev, putD, Slots.put, Slots.get, if_true, if_false, AVal.cells, allScal, Bool.and_true, Bool.true_and, sc_int, sc_str, sc_bool])) ?_
        simp only [AHeap.set_set, AVal.cells]
        simp (decide := true) only [aOps_nil, ev, absV, absS, putD, Slots.keep, if_true, if_false, setAt, List.set_cons_zero, List.set_cons_succ]
        change Awp _ _ _ _ _ _ _
        -- region 24  law.go:46
        refine awp_r [0, 2, 3, 4, 5] (by rfl) ?_
        simp (decide := true) only [ev, putD, Slots.put, Slots.get, if_true, if_false, true_and, ↓ap_move, pop_move, ↓ap_loadL, apL_mk, pLoad_agg ag44 sz44, rd_any, cellsAt, List.getD_cons_zero, List.getD_cons_succ, Nat.zero_add, Nat.reduceAdd, lv_bool, lv_int, lv_str, lv_nilSlice, allLive, Bool.and_true]
        refine aOps_buildSlice (cs := itC (stepE (items l) e, namO)) (by rw [hst]; kernel_rfl) fun k24q2 hk24q2 => ?_
        have hn_24q2 : H k24q2 = none := by (simp only [AHeap.set_none] at hk24q2; simp only [hk24q2])
        have ne_24q2_6q1 : k24q2 ≠ k6q1 := by (simp only [AHeap.set_none] at hk24q2; simp only [hk24q2, ne_eq, not_false_eq_true])
        have ne_24q2_r : k24q2 ≠ kr := AHeap.ne_some hn_24q2 eb_r
        refine aOps_appendRow (es := 22) (k := kr) (c := c) (xs := l.map itC) (ys := [itC (stepE (items l) e, namO)]) (by rfl) (by rfl) Tryd.underlying25 Tryd.underlying25 (fun k e => by cases e) sz44 by44 ze44 (by rfl) (by decide) (by rw [List.length_map]; rfl) hcap (by repeat (first | exact AHeap.set_same _ _ _ | assumption | refine (AHeap.set_ne _ _ (by first | assumption | exact Ne.symm (by assumption))).trans ?_)) hwd hal (by rfl) (IsL.own (b := ⟨itC (stepE (items l) e, namO), 0⟩) (by repeat (first | exact AHeap.set_same _ _ _ | assumption | refine (AHeap.set_ne _ _ (by first | assumption | exact Ne.symm (by assumption))).trans ?_)) (by intro x hx; rw [List.mem_singleton.1 hx]; rfl) (by simp) (by rw [hst]; rfl) (.exact 1) (Nat.le_refl _)) (by rw [hst]; rfl) (by simp) (by simp; omega) (by simp; omega) fun k24 h24 g1 g2 g3 => ?_
        simp (decide := true) only [aOps_nil, ev, putD, Slots.put, Slots.get, Slots.keep, if_true, if_false, true_and, ↓ap_assign, pop_assign]
        change Awp _ _ _ _ _ _ _
        -- region 5  law.go:24
        refine awp_r [0, 2, 3, 4, 5] (by rfl) ?_
        simp (decide := true) only [aOps_nil, ev, absV, absS, putD, Slots.put, Slots.get, Slots.keep, if_true, if_false, true_and, ↓ap_move, pop_move, ↓ap_binOp, pop_binOp, isNilC_int, cond_false, pBinX_int, pI_add, ↓ap_assign, pop_assign]
        try simp (disch := omega) only [wrap_i64]
        try simp only [thenA_normal]
        refine ⟨⟨i + 1, h24, k24, .grow 22, l ++ [(stepE (items l) e, namO)]⟩, ?_, Sub.refl _, of_step ⟨⟨hi1, hi2⟩, hs_H, eb_a, eb_b, eb_r, ⟨hnr, ne_r_a, ne_r_b⟩, hcap, heq, hlen, hoth⟩ hi' (by omega) he hn_6q1 hn_24q2 g1 g2 g3, by simp only; omega⟩
        simp only [List.length_map, List.length_append]
        rfl
      · try simp only [decide_eq_false_iff_not] at hb3
        -- region 15  law.go:35
        refine awp_rseq [0, 2, 3, 4, 5, 6, 68, 72] (by rfl) fun K hK => ?_
        simp (decide := true) only [aOps_nil, ev, absV, absS, putD, Slots.put, Slots.get, Slots.keep, if_true, if_false, true_and, ↓ap_binOp, pop_binOp, isNilC_int, cond_false, pBinX_int, pI_eql, ↓ap_assign, pop_assign]
        apply hK; clear hK K
        refine awp_cond (b := _) rfl (fun hb4 => ?_) (fun hb4 => ?_)
        · try simp only [decide_eq_true_eq] at hb4
          have hst : stepE (items l) e = ⟨nmE e.name, lv, p, 0, 1, -1, 0⟩ := by
            unfold stepE
            rw [show e.flag % 12 = 1 by omega, hpl]
            rfl
          -- region 16  law.go:36
          refine awp_r [0, 2, 3, 4, 5, 6] (by rfl) ?_
          simp (decide := true) only [ev, putD, Slots.put, Slots.get, if_true, if_false, true_and, ↓ap_fieldAddr, pop_fieldAddr, fa44_8, Nat.zero_add]
          refine aOps_store (by rfl) (by rfl) (by repeat (first | exact AHeap.set_same _ _ _ | assumption | refine (AHeap.set_ne _ _ (by first | assumption | exact Ne.symm (by assumption))).trans ?_)) sz3 (by rfl) (by rfl) (by first | exact Nat.le_refl _ | decide | (simp; done) | (simp; omega)) (Nat.zero_le _) (by first | rfl | (simp (decide := true) only [ev, putD, Slots.put, Slots.get, if_true, if_false, AVal.cells, allScal, Bool.and_true, Bool.true_and, sc_int, sc_str, sc_bool])) ?_
          simp only [AHeap.set_set, AVal.cells]
          simp (decide := true) only [aOps_nil, ev, absV, absS, putD, Slots.keep, if_true, if_false, setAt, List.set_cons_zero, List.set_cons_succ]
          change Awp _ _ _ _ _ _ _
          -- region 24  law.go:46
          refine awp_r [0, 2, 3, 4, 5] (by rfl) ?_
          simp (decide := true) only [ev, putD, Slots.put, Slots.get, if_true, if_false, true_and, ↓ap_move, pop_move, ↓ap_loadL, apL_mk, pLoad_agg ag44 sz44, rd_any, cellsAt, List.getD_cons_zero, List.getD_cons_succ, Nat.zero_add, Nat.reduceAdd, lv_bool, lv_int, lv_str, lv_nilSlice, allLive, Bool.and_true]
          refine aOps_buildSlice (cs := itC (stepE (items l) e, namO)) (by rw [hst]; kernel_rfl) fun k24q2 hk24q2 => ?_
          have hn_24q2 : H k24q2 = none := by (simp only [AHeap.set_none] at hk24q2; simp only [hk24q2])
          have ne_24q2_6q1 : k24q2 ≠ k6q1 := by (simp only [AHeap.set_none] at hk24q2; simp only [hk24q2, ne_eq, not_false_eq_true])
          have ne_24q2_r : k24q2 ≠ kr := AHeap.ne_some hn_24q2 eb_r
          refine aOps_appendRow (es := 22) (k := kr) (c := c) (xs := l.map itC) (ys := [itC (stepE (items l) e, namO)]) (by rfl) (by rfl) Tryd.underlying25 Tryd.underlying25 (fun k e => by cases e) sz44 by44 ze44 (by rfl) (by decide) (by rw [List.length_map]; rfl) hcap (by repeat (first | exact AHeap.set_same _ _ _ | assumption | refine (AHeap.set_ne _ _ (by first | assumption | exact Ne.symm (by assumption))).trans ?_)) hwd hal (by rfl) (IsL.own (b := ⟨itC (stepE (items l) e, namO), 0⟩) (by repeat (first | exact AHeap.set_same _ _ _ | assumption | refine (AHeap.set_ne _ _ (by first | assumption | exact Ne.symm (by assumption))).trans ?_)) (by intro x hx; rw [List.mem_singleton.1 hx]; rfl) (by simp) (by rw [hst]; rfl) (.exact 1) (Nat.le_refl _)) (by rw [hst]; rfl) (by simp) (by simp; omega) (by simp; omega) fun k24 h24 g1 g2 g3 => ?_
          simp (decide := true) only [aOps_nil, ev, putD, Slots.put, Slots.get, Slots.keep, if_true, if_false, true_and, ↓ap_assign, pop_assign]
          change Awp _ _ _ _ _ _ _
          -- region 5  law.go:24
          refine awp_r [0, 2, 3, 4, 5] (by rfl) ?_
          simp (decide := true) only [aOps_nil, ev, absV, absS, putD, Slots.put, Slots.get, Slots.keep, if_true, if_false, true_and, ↓ap_move, pop_move, ↓ap_binOp, pop_binOp, isNilC_int, cond_false, pBinX_int, pI_add, ↓ap_assign, pop_assign]
          try simp (disch := omega) only [wrap_i64]
          try simp only [thenA_normal]
          refine ⟨⟨i + 1, h24, k24, .grow 22, l ++ [(stepE (items l) e, namO)]⟩, ?_, Sub.refl _, of_step ⟨⟨hi1, hi2⟩, hs_H, eb_a, eb_b, eb_r, ⟨hnr, ne_r_a, ne_r_b⟩, hcap, heq, hlen, hoth⟩ hi' (by omega) he hn_6q1 hn_24q2 g1 g2 g3, by simp only; omega⟩
          simp only [List.length_map, List.length_append]
          rfl
        · try simp only [decide_eq_false_iff_not] at hb4
          -- region 17  law.go:37
          refine awp_rseq [0, 2, 3, 4, 5, 6, 68, 75] (by rfl) fun K hK => ?_
          simp (decide := true) only [aOps_nil, ev, absV, absS, putD, Slots.put, Slots.get, Slots.keep, if_true, if_false, true_and, ↓ap_binOp, pop_binOp, isNilC_int, cond_false, pBinX_int, pI_eql, ↓ap_assign, pop_assign]
          apply hK; clear hK K
          refine awp_cond (b := _) rfl (fun hb5 => ?_) (fun hb5 => ?_)
          · try simp only [decide_eq_true_eq] at hb5
            have hst : stepE (items l) e = ⟨nmE e.name, lv, p, 0, 1, 0, -1⟩ := by
              unfold stepE
              rw [show e.flag % 12 = 2 by omega, hpl]
              rfl
            -- region 18  law.go:38
            refine awp_r [0, 2, 3, 4, 5, 6] (by rfl) ?_
            simp (decide := true) only [ev, putD, Slots.put, Slots.get, if_true, if_false, true_and, ↓ap_fieldAddr, pop_fieldAddr, fa44_7, Nat.zero_add]
            refine aOps_store (by rfl) (by rfl) (by repeat (first | exact AHeap.set_same _ _ _ | assumption | refine (AHeap.set_ne _ _ (by first | assumption | exact Ne.symm (by assumption))).trans ?_)) sz3 (by rfl) (by rfl) (by first | exact Nat.le_refl _ | decide | (simp; done) | (simp; omega)) (Nat.zero_le _) (by first | rfl | (simp (decide := true) only [ev, putD, Slots.put, Slots.get, if_true, if_false, AVal.cells, allScal, Bool.and_true, Bool.true_and, sc_int, sc_str, sc_bool])) ?_
            simp only [AHeap.set_set, AVal.cells]
            simp (decide := true) only [aOps_nil, ev, absV, absS, putD, Slots.keep, if_true, if_false, setAt, List.set_cons_zero, List.set_cons_succ]
            change Awp _ _ _ _ _ _ _
            -- region 24  law.go:46
            refine awp_r [0, 2, 3, 4, 5] (by rfl) ?_
            simp (decide := true) only [ev, putD, Slots.put, Slots.get, if_true, if_false, true_and, ↓ap_move, pop_move, ↓ap_loadL, apL_mk, pLoad_agg ag44 sz44, rd_any, cellsAt, List.getD_cons_zero, List.getD_cons_succ, Nat.zero_add, Nat.reduceAdd, lv_bool, lv_int, lv_str, lv_nilSlice, allLive, Bool.and_true]
            refine aOps_buildSlice (cs := itC (stepE (items l) e, namO)) (by rw [hst]; kernel_rfl) fun k24q2 hk24q2 => ?_
            have hn_24q2 : H k24q2 = none := by (simp only [AHeap.set_none] at hk24q2; simp only [hk24q2])
            have ne_24q2_6q1 : k24q2 ≠ k6q1 := by (simp only [AHeap.set_none] at hk24q2; simp only [hk24q2, ne_eq, not_false_eq_true])
            have ne_24q2_r : k24q2 ≠ kr := AHeap.ne_some hn_24q2 eb_r
            refine aOps_appendRow (es := 22) (k := kr) (c := c) (xs := l.map itC) (ys := [itC (stepE (items l) e, namO)]) (by rfl) (by rfl) Tryd.underlying25 Tryd.underlying25 (fun k e => by cases e) sz44 by44 ze44 (by rfl) (by decide) (by rw [List.length_map]; rfl) hcap (by repeat (first | exact AHeap.set_same _ _ _ | assumption | refine (AHeap.set_ne _ _ (by first | assumption | exact Ne.symm (by assumption))).trans ?_)) hwd hal (by rfl) (IsL.own (b := ⟨itC (stepE (items l) e, namO), 0⟩) (by repeat (first | exact AHeap.set_same _ _ _ | assumption | refine (AHeap.set_ne _ _ (by first | assumption | exact Ne.symm (by assumption))).trans ?_)) (by intro x hx; rw [List.mem_singleton.1 hx]; rfl) (by simp) (by rw [hst]; rfl) (.exact 1) (Nat.le_refl _)) (by rw [hst]; rfl) (by simp) (by simp; omega) (by simp; omega) fun k24 h24 g1 g2 g3 => ?_
            simp (decide := true) only [aOps_nil, ev, putD, Slots.put, Slots.get, Slots.keep, if_true, if_false, true_and, ↓ap_assign, pop_assign]
            change Awp _ _ _ _ _ _ _
            -- region 5  law.go:24
            refine awp_r [0, 2, 3, 4, 5] (by rfl) ?_
            simp (decide := true) only [aOps_nil, ev, absV, absS, putD, Slots.put, Slots.get, Slots.keep, if_true, if_false, true_and, ↓ap_move, pop_move, ↓ap_binOp, pop_binOp, isNilC_int, cond_false, pBinX_int, pI_add, ↓ap_assign, pop_assign]
            try simp (disch := omega) only [wrap_i64]
            try simp only [thenA_normal]
            refine ⟨⟨i + 1, h24, k24, .grow 22, l ++ [(stepE (items l) e, namO)]⟩, ?_, Sub.refl _, of_step ⟨⟨hi1, hi2⟩, hs_H, eb_a, eb_b, eb_r, ⟨hnr, ne_r_a, ne_r_b⟩, hcap, heq, hlen, hoth⟩ hi' (by omega) he hn_6q1 hn_24q2 g1 g2 g3, by simp only; omega⟩
            simp only [List.length_map, List.length_append]
            rfl
          · try simp only [decide_eq_false_iff_not] at hb5
            -- region 19  law.go:39
            refine awp_rseq [0, 2, 3, 4, 5, 6, 78] (by rfl) fun K hK => ?_
            simp (decide := true) only [aOps_nil, ev, absV, absS, putD, Slots.put, Slots.get, Slots.keep, if_true, if_false, true_and, ↓ap_binOp, pop_binOp, isNilC_int, cond_false, pBinX_int, pI_eql, ↓ap_assign, pop_assign]
            apply hK; clear hK K
            refine awp_cond (b := _) rfl (fun hb6 => ?_) (fun hb6 => ?_)
            · try simp only [decide_eq_true_eq] at hb6
              have hrl2 := it_rd hLr (i := l.length - 1) (by omega) (j := 1) (by decide)
              have hrp2 := it_rd hLr (i := l.length - 1) (by omega) (j := 2) (by decide)
              rw [Nat.zero_add] at hrl2 hrp2
              obtain ⟨⟨y, qy⟩, hy⟩ : ∃ a, l.getD (l.length - 1) default = a := ⟨_, rfl⟩
              rw [hy] at hrl2 hrp2
              have htn : ((l.length : Int) - 1).toNat = l.length - 1 := by omega
              have hrl2' : (l.map itC).flatten.getD ((l.length - 1) * 22 + 1) .dead = .int .i64 y.level := (rd_own w₀ eb_r _).symm.trans hrl2
              have hrp2' : (l.map itC).flatten.getD ((l.length - 1) * 22 + 2) .dead = .int .i64 y.parent := (rd_own w₀ eb_r _).symm.trans hrp2
              have hyl : lvl (items l) (((items l).length : Int) - 1) = y.level ∧ par (items l) (((items l).length : Int) - 1) = y.parent := by
                unfold lvl par
                rw [hin, htn, items_getD, hy]
                exact ⟨rfl, rfl⟩
              -- region 20  law.go:40
              refine awp_rseq [0, 2, 3, 4, 5, 6] (by rfl) fun K hK => ?_
              simp (decide := true) only [ev, putD, Slots.put, Slots.get, if_true, if_false, true_and, ↓ap_fieldAddr, pop_fieldAddr, fa44_1, Nat.zero_add]
              refine aOps_store (by rfl) (by rfl) (by repeat (first | exact AHeap.set_same _ _ _ | assumption | refine (AHeap.set_ne _ _ (by first | assumption | exact Ne.symm (by assumption))).trans ?_)) sz3 (by rfl) (by rfl) (by first | exact Nat.le_refl _ | decide | (simp; done) | (simp; omega)) (Nat.zero_le _) (by first | rfl | (simp (decide := true) only [ev, putD, Slots.put, Slots.get, if_true, if_false, AVal.cells, allScal, Bool.and_true, Bool.true_and, sc_int, sc_str, sc_bool])) ?_
              simp only [AHeap.set_set, AVal.cells]
              simp (decide := true) only [aOps_nil, ev, absV, absS, putD, Slots.keep, if_true, if_false, setAt, List.set_cons_zero, List.set_cons_succ]
              apply hK; clear hK K
              -- region 21  law.go:41
              refine awp_rseq [0, 2, 3, 4, 5, 6] (by rfl) fun K hK => ?_
              simp (decide := true) only [ev, absV, absS, putD, Slots.put, Slots.get, if_true, if_false, true_and, ↓ap_move, pop_move, ↓ap_len, pop_len, pLen_slice Tryd.underlying25, ↓ap_binOp, pop_binOp, isNilC_int, cond_false, pBinX_int, pI_sub, ↓ap_fieldAddr, pop_fieldAddr, fa44_2, Nat.zero_add]
              try simp (disch := omega) only [wrap_i64]
              refine aOps_store (by rfl) (by rfl) (by repeat (first | exact AHeap.set_same _ _ _ | assumption | refine (AHeap.set_ne _ _ (by first | assumption | exact Ne.symm (by assumption))).trans ?_)) sz3 (by rfl) (by rfl) (by first | exact Nat.le_refl _ | decide | (simp; done) | (simp; omega)) (Nat.zero_le _) (by first | rfl | (simp (decide := true) only [ev, putD, Slots.put, Slots.get, if_true, if_false, AVal.cells, allScal, Bool.and_true, Bool.true_and, sc_int, sc_str, sc_bool])) ?_
              simp only [AHeap.set_set, AVal.cells]
              simp (decide := true) only [aOps_nil, ev, putD, Slots.get, Slots.keep, if_true, if_false, setAt, List.set_cons_zero, List.set_cons_succ]
              apply hK; clear hK K
              -- region 22  law.go:42
              refine awp_rseq [0, 2, 3, 4, 5, 6, 91] (by rfl) fun K hK => ?_
              simp (decide := true) only [aOps_nil, ev, absV, absS, putD, Slots.put, Slots.get, Slots.keep, if_true, if_false, true_and, ↓ap_move, pop_move, ↓ap_fieldAddr, pop_fieldAddr, fa44_2, ↓ap_loadL, apL_mk, pLoad_one ag3, ↓ap_indexAddrL, pIndexAddr_slice Tryd.underlying25 sz44, fa44_1, ↓ap_binOp, pop_binOp, isNilC_int, cond_false, pBinX_int, pI_eql, rd_ne', ne_eq, not_false_eq_true, ne_6q1_r.symm, rd_own w₀ eb_r, rd_any, List.getD_cons_zero, List.getD_cons_succ, Nat.zero_add, lv_int, htn, hrl2']
              repeat (with_reducible refine And.intro ?_ ?_; · first | trivial | omega | (intro hg; simp only [Bool.and_eq_true, Bool.or_eq_true, Bool.not_eq_true', Bool.and_eq_false_iff, Bool.or_eq_false_iff, Bool.not_eq_false', decide_eq_true_eq, decide_eq_false_iff_not, eqNil] at hg; omega) )
              apply hK; clear hK K
              refine awp_cond (b := _) rfl (fun hb7 => ?_) (fun hb7 => ?_)
              · try simp only [decide_eq_true_eq] at hb7
                have hst : stepE (items l) e = ⟨nmE e.name, 88, y.parent, 0, 1, -1, -1⟩ := by
                  unfold stepE
                  rw [show e.flag % 12 = 3 by omega, hpl]
                  simp only
                  rw [hyl.1, hyl.2, if_pos hb7]
                -- region 23  law.go:43
                refine awp_r [0, 2, 3, 4, 5, 6] (by rfl) ?_
                simp (decide := true) only [ev, putD, Slots.put, Slots.get, if_true, if_false, true_and, ↓ap_move, pop_move, ↓ap_fieldAddr, pop_fieldAddr, fa44_2, ↓ap_loadL, apL_mk, pLoad_one ag3, ↓ap_indexAddrL, pIndexAddr_slice Tryd.underlying25 sz44, rd_ne', ne_eq, not_false_eq_true, ne_6q1_r.symm, rd_own w₀ eb_r, rd_any, List.getD_cons_zero, List.getD_cons_succ, Nat.zero_add, lv_int, htn, hrp2']
                repeat (with_reducible refine And.intro ?_ ?_; · first | trivial | omega | (intro hg; simp only [Bool.and_eq_true, Bool.or_eq_true, Bool.not_eq_true', Bool.and_eq_false_iff, Bool.or_eq_false_iff, Bool.not_eq_false', decide_eq_true_eq, decide_eq_false_iff_not, eqNil] at hg; omega) )
                refine aOps_store (by rfl) (by rfl) (by repeat (first | exact AHeap.set_same _ _ _ | assumption | refine (AHeap.set_ne _ _ (by first | assumption | exact Ne.symm (by assumption))).trans ?_)) sz3 (by rfl) (by rfl) (by first | exact Nat.le_refl _ | decide | (simp; done) | (simp; omega)) (Nat.zero_le _) (by first | rfl | (simp (decide := true) only [ev, putD, Slots.put, Slots.get, if_true, if_false, AVal.cells, allScal, Bool.and_true, Bool.true_and, sc_int, sc_str, sc_bool])) ?_
                simp only [AHeap.set_set, AVal.cells]
                simp (decide := true) only [aOps_nil, ev, putD, Slots.get, Slots.keep, if_true, if_false, setAt, List.set_cons_zero, List.set_cons_succ]
                change Awp _ _ _ _ _ _ _
                -- region 24  law.go:46
                refine awp_r [0, 2, 3, 4, 5] (by rfl) ?_
                simp (decide := true) only [ev, putD, Slots.put, Slots.get, if_true, if_false, true_and, ↓ap_move, pop_move, ↓ap_loadL, apL_mk, pLoad_agg ag44 sz44, rd_any, cellsAt, List.getD_cons_zero, List.getD_cons_succ, Nat.zero_add, Nat.reduceAdd, lv_bool, lv_int, lv_str, lv_nilSlice, allLive, Bool.and_true]
                refine aOps_buildSlice (cs := itC (stepE (items l) e, namO)) (by rw [hst]; kernel_rfl) fun k24q2 hk24q2 => ?_
                have hn_24q2 : H k24q2 = none := by (simp only [AHeap.set_none] at hk24q2; simp only [hk24q2])
                have ne_24q2_6q1 : k24q2 ≠ k6q1 := by (simp only [AHeap.set_none] at hk24q2; simp only [hk24q2, ne_eq, not_false_eq_true])
                have ne_24q2_r : k24q2 ≠ kr := AHeap.ne_some hn_24q2 eb_r
                refine aOps_appendRow (es := 22) (k := kr) (c := c) (xs := l.map itC) (ys := [itC (stepE (items l) e, namO)]) (by rfl) (by rfl) Tryd.underlying25 Tryd.underlying25 (fun k e => by cases e) sz44 by44 ze44 (by rfl) (by decide) (by rw [List.length_map]; rfl) hcap (by repeat (first | exact AHeap.set_same _ _ _ | assumption | refine (AHeap.set_ne _ _ (by first | assumption | exact Ne.symm (by assumption))).trans ?_)) hwd hal (by rfl) (IsL.own (b := ⟨itC (stepE (items l) e, namO), 0⟩) (by repeat (first | exact AHeap.set_same _ _ _ | assumption | refine (AHeap.set_ne _ _ (by first | assumption | exact Ne.symm (by assumption))).trans ?_)) (by intro x hx; rw [List.mem_singleton.1 hx]; rfl) (by simp) (by rw [hst]; rfl) (.exact 1) (Nat.le_refl _)) (by rw [hst]; rfl) (by simp) (by simp; omega) (by simp; omega) fun k24 h24 g1 g2 g3 => ?_
                simp (decide := true) only [aOps_nil, ev, putD, Slots.put, Slots.get, Slots.keep, if_true, if_false, true_and, ↓ap_assign, pop_assign]
                change Awp _ _ _ _ _ _ _
                -- region 5  law.go:24
                refine awp_r [0, 2, 3, 4, 5] (by rfl) ?_
                simp (decide := true) only [aOps_nil, ev, absV, absS, putD, Slots.put, Slots.get, Slots.keep, if_true, if_false, true_and, ↓ap_move, pop_move, ↓ap_binOp, pop_binOp, isNilC_int, cond_false, pBinX_int, pI_add, ↓ap_assign, pop_assign]
                try simp (disch := omega) only [wrap_i64]
                try simp only [thenA_normal]
                refine ⟨⟨i + 1, h24, k24, .grow 22, l ++ [(stepE (items l) e, namO)]⟩, ?_, Sub.refl _, of_step ⟨⟨hi1, hi2⟩, hs_H, eb_a, eb_b, eb_r, ⟨hnr, ne_r_a, ne_r_b⟩, hcap, heq, hlen, hoth⟩ hi' (by omega) he hn_6q1 hn_24q2 g1 g2 g3, by simp only; omega⟩
                simp only [List.length_map, List.length_append]
                rfl
              · try simp only [decide_eq_false_iff_not] at hb7
                have hst : stepE (items l) e = ⟨nmE e.name, 88, (l.length : Int) - 1, 0, 1, -1, -1⟩ := by
                  unfold stepE
                  rw [show e.flag % 12 = 3 by omega, hpl]
                  simp only
                  rw [hyl.1, if_neg hb7, hin]
                refine awp_skip ?_
                change Awp _ _ _ _ _ _ _
                -- region 24  law.go:46
                refine awp_r [0, 2, 3, 4, 5] (by rfl) ?_
                simp (decide := true) only [ev, putD, Slots.put, Slots.get, if_true, if_false, true_and, ↓ap_move, pop_move, ↓ap_loadL, apL_mk, pLoad_agg ag44 sz44, rd_any, cellsAt, List.getD_cons_zero, List.getD_cons_succ, Nat.zero_add, Nat.reduceAdd, lv_bool, lv_int, lv_str, lv_nilSlice, allLive, Bool.and_true]
                refine aOps_buildSlice (cs := itC (stepE (items l) e, namO)) (by rw [hst]; kernel_rfl) fun k24q2 hk24q2 => ?_
                have hn_24q2 : H k24q2 = none := by (simp only [AHeap.set_none] at hk24q2; simp only [hk24q2])
                have ne_24q2_6q1 : k24q2 ≠ k6q1 := by (simp only [AHeap.set_none] at hk24q2; simp only [hk24q2, ne_eq, not_false_eq_true])
                have ne_24q2_r : k24q2 ≠ kr := AHeap.ne_some hn_24q2 eb_r
                refine aOps_appendRow (es := 22) (k := kr) (c := c) (xs := l.map itC) (ys := [itC (stepE (items l) e, namO)]) (by rfl) (by rfl) Tryd.underlying25 Tryd.underlying25 (fun k e => by cases e) sz44 by44 ze44 (by rfl) (by decide) (by rw [List.length_map]; rfl) hcap (by repeat (first | exact AHeap.set_same _ _ _ | assumption | refine (AHeap.set_ne _ _ (by first | assumption | exact Ne.symm (by assumption))).trans ?_)) hwd hal (by rfl) (IsL.own (b := ⟨itC (stepE (items l) e, namO), 0⟩) (by repeat (first | exact AHeap.set_same _ _ _ | assumption | refine (AHeap.set_ne _ _ (by first | assumption | exact Ne.symm (by assumption))).trans ?_)) (by intro x hx; rw [List.mem_singleton.1 hx]; rfl) (by simp) (by rw [hst]; rfl) (.exact 1) (Nat.le_refl _)) (by rw [hst]; rfl) (by simp) (by simp; omega) (by simp; omega) fun k24 h24 g1 g2 g3 => ?_
                simp (decide := true) only [aOps_nil, ev, putD, Slots.put, Slots.get, Slots.keep, if_true, if_false, true_and, ↓ap_assign, pop_assign]
                change Awp _ _ _ _ _ _ _
                -- region 5  law.go:24
                refine awp_r [0, 2, 3, 4, 5] (by rfl) ?_
                simp (decide := true) only [aOps_nil, ev, absV, absS, putD, Slots.put, Slots.get, Slots.keep, if_true, if_false, true_and, ↓ap_move, pop_move, ↓ap_binOp, pop_binOp, isNilC_int, cond_false, pBinX_int, pI_add, ↓ap_assign, pop_assign]
                try simp (disch := omega) only [wrap_i64]
                try simp only [thenA_normal]
                refine ⟨⟨i + 1, h24, k24, .grow 22, l ++ [(stepE (items l) e, namO)]⟩, ?_, Sub.refl _, of_step ⟨⟨hi1, hi2⟩, hs_H, eb_a, eb_b, eb_r, ⟨hnr, ne_r_a, ne_r_b⟩, hcap, heq, hlen, hoth⟩ hi' (by omega) he hn_6q1 hn_24q2 g1 g2 g3, by simp only; omega⟩
                simp only [List.length_map, List.length_append]
                rfl
            · try simp only [decide_eq_false_iff_not] at hb6
              have hst : stepE (items l) e = ⟨nmE e.name, lv, p, 0, 1, -1, -1⟩ := by
                unfold stepE
                split
                · omega
                · omega
                · omega
                · omega
                · exact hpl
              refine awp_skip ?_
              change Awp _ _ _ _ _ _ _
              -- region 24  law.go:46
              refine awp_r [0, 2, 3, 4, 5] (by rfl) ?_
              simp (decide := true) only [ev, putD, Slots.put, Slots.get, if_true, if_false, true_and, ↓ap_move, pop_move, ↓ap_loadL, apL_mk, pLoad_agg ag44 sz44, rd_any, cellsAt, List.getD_cons_zero, List.getD_cons_succ, Nat.zero_add, Nat.reduceAdd, lv_bool, lv_int, lv_str, lv_nilSlice, allLive, Bool.and_true]
              refine aOps_buildSlice (cs := itC (stepE (items l) e, namO)) (by rw [hst]; kernel_rfl) fun k24q2 hk24q2 => ?_
              have hn_24q2 : H k24q2 = none := by (simp only [AHeap.set_none] at hk24q2; simp only [hk24q2])
              have ne_24q2_6q1 : k24q2 ≠ k6q1 := by (simp only [AHeap.set_none] at hk24q2; simp only [hk24q2, ne_eq, not_false_eq_true])
              have ne_24q2_r : k24q2 ≠ kr := AHeap.ne_some hn_24q2 eb_r
              refine aOps_appendRow (es := 22) (k := kr) (c := c) (xs := l.map itC) (ys := [itC (stepE (items l) e, namO)]) (by rfl) (by rfl) Tryd.underlying25 Tryd.underlying25 (fun k e => by cases e) sz44 by44 ze44 (by rfl) (by decide) (by rw [List.length_map]; rfl) hcap (by repeat (first | exact AHeap.set_same _ _ _ | assumption | refine (AHeap.set_ne _ _ (by first | assumption | exact Ne.symm (by assumption))).trans ?_)) hwd hal (by rfl) (IsL.own (b := ⟨itC (stepE (items l) e, namO), 0⟩) (by repeat (first | exact AHeap.set_same _ _ _ | assumption | refine (AHeap.set_ne _ _ (by first | assumption | exact Ne.symm (by assumption))).trans ?_)) (by intro x hx; rw [List.mem_singleton.1 hx]; rfl) (by simp) (by rw [hst]; rfl) (.exact 1) (Nat.le_refl _)) (by rw [hst]; rfl) (by simp) (by simp; omega) (by simp; omega) fun k24 h24 g1 g2 g3 => ?_
              simp (decide := true) only [aOps_nil, ev, putD, Slots.put, Slots.get, Slots.keep, if_true, if_false, true_and, ↓ap_assign, pop_assign]
              change Awp _ _ _ _ _ _ _
              -- region 5  law.go:24
              refine awp_r [0, 2, 3, 4, 5] (by rfl) ?_
              simp (decide := true) only [aOps_nil, ev, absV, absS, putD, Slots.put, Slots.get, Slots.keep, if_true, if_false, true_and, ↓ap_move, pop_move, ↓ap_binOp, pop_binOp, isNilC_int, cond_false, pBinX_int, pI_add, ↓ap_assign, pop_assign]
              try simp (disch := omega) only [wrap_i64]
              try simp only [thenA_normal]
              refine ⟨⟨i + 1, h24, k24, .grow 22, l ++ [(stepE (items l) e, namO)]⟩, ?_, Sub.refl _, of_step ⟨⟨hi1, hi2⟩, hs_H, eb_a, eb_b, eb_r, ⟨hnr, ne_r_a, ne_r_b⟩, hcap, heq, hlen, hoth⟩ hi' (by omega) he hn_6q1 hn_24q2 g1 g2 g3, by simp only; omega⟩
              simp only [List.length_map, List.length_append]
              rfl
  · try simp only [decide_eq_false_iff_not, Bool.and_eq_false_iff] at hb1
    refine awp_exit ?_
    change Awp _ _ _ _ _ _ _
    refine Awp.keep [0, 2, 4] ?_
    refine hrest ⟨i, H, kr, c, l⟩ ⟨⟨hi1, hi2⟩, hs_H, eb_a, eb_b, eb_r, ⟨hnr, ne_r_a, ne_r_b⟩, hcap, heq, hlen, hoth⟩ ?_
    simp only
    rw [heq]
    unfold rawE
    congr 1
    rcases Nat.lt_or_ge i 20 with h20 | h20
    · rw [List.take_of_length_le (by omega), List.take_of_length_le (by omega)]
    · rw [show i = 20 by omega]
end Go.Proofs.YtgnebodlkfblcaaDoor

/-
  Contracts: the records that the laws build, their categories.
  Conditions: none.
-/
namespace Go.AM
open Go.Prs
open Go.Proofs
theorem getD_set_self {α : Type} [Inhabited α] {l : List α} {i : Nat} (a : α) (hi : i < l.length) : (l.set i a).getD i default = a := by simp [List.getD, hi]
theorem getD_set_other {α : Type} [Inhabited α] {l : List α} {i j : Nat} (a : α) (h : j ≠ i) : (l.set i a).getD j default = l.getD j default := by simp [List.getD, Ne.symm h]
end Go.AM
namespace Go.Proofs.YtgnebodlkfblcaaDoor
open Go.AM
open Go.Proofs
open Go.Col
open Go.Prs
set_option maxRecDepth 100000

def shE (c : Int) (pic : Str) (n : Int) : List AVal := [.int .u8 c, .int .u8 0, .str pic, .int .i64 n, .int .i64 0, .bool false, .bool false, .bool false, .bool false, .bool false, .int .i64 1]
def shO (c : Int) (pic : Str) (n : Int) (q : ItemP × ItemO) : ItemP × ItemO := ({ q.1 with cat := c }, { q.2 with us := 0, pic := pic, dig := n, scl := 0, sgn := false, lea := false, sep := false, jus := false, bla := false, siz := 1 })
theorem shO_set (c : Int) (pic : Str) (n : Int) (q : ItemP × ItemO) : setAt (itC q) 3 (shE c pic n) = itC (shO c pic n q) := rfl
theorem itC_set {l : List (ItemP × ItemO)} {i : Nat} (hi : i < l.length) (c : Int) (pic : Str) (n : Int) : setAt (l.map itC).flatten (i * 22 + 3) (shE c pic n) = ((l.set i (shO c pic n (l.getD i default))).map itC).flatten := by
  rw [flat_setAt (es := 22) _ it_wide i 3 (by rw [List.length_map]; exact hi) (by simp [shE]), List.map_set]
  congr 2
  rw [List.getD, List.getElem?_map, List.getElem?_eq_getElem hi, ← shO_set, List.getD, List.getElem?_eq_getElem hi]
  rfl
theorem aOps_storeShape {P : Program} {w₀ : World} {ops rest : List Oper} {s : Slots} {H : AHeap} {K : Slots → AHeap → Prop} {dst : Option Tmp} {ty : TypeId} {pos : String} {af : Array Edge} {t : TypeId} {x y : Operand} {k i : Nat} {l : List (ItemP × ItemO)} {c : Int} {pic : Str} {n : Int}
    (hx : ev s x = .ptr (.own k) (i * 22 + 3)) (hv : ev s y = .agg (shE c pic n)) (hb : H k = some ⟨(l.map itC).flatten, 0⟩) (hi : i < l.length) (hn : szOf P t = some 11)
    (hk : aOps P w₀ ops rest (putD s dst (.tuple [])) (H.set k ⟨((l.set i (shO c pic n (l.getD i default))).map itC).flatten, 0⟩) K) :
    aOps P w₀ ops (⟨dst, .store t x y, ty, pos, af, none⟩ :: rest) s H K := by
  refine aOps_store hx hv hb hn rfl rfl ?_ (Nat.zero_le _) rfl ?_
  · simp only
    rw [flatten_len (es := 22) it_wide, List.length_map]
    omega
  · simp only [AVal.cells]
    rw [itC_set hi]
    exact hk

/-! ### Groups -/
def grpN (l : List ItemP) (i k : Nat) : Bool := decide ((i : Int) = 0) || (List.range k).any fun j => decide (i < j) && (decide ((l.getD j default).parent = i) && decide ((l.getD j default).level < 50))
theorem grpN_all (l : List ItemP) (i : Nat) : grpN l i l.length = groupAt l i := by
  unfold grpN groupAt
  congr 1
  rw [Bool.eq_iff_iff]
  simp
theorem grpN_start (l : List ItemP) (i : Nat) : grpN l i (i + 1) = decide ((i : Int) = 0) := by
  unfold grpN
  rw [Bool.eq_iff_iff]
  simp only [Bool.or_eq_true, decide_eq_true_eq, List.any_eq_true, List.mem_range, Bool.and_eq_true]
  constructor
  · rintro (h | ⟨j, hj, h, _⟩)
    · exact h
    · omega
  · exact .inl
theorem grpN_step (l : List ItemP) {i k : Nat} (h : i < k) : grpN l i (k + 1) = (grpN l i k || (decide ((l.getD k default).parent = i) && decide ((l.getD k default).level < 50))) := by
  unfold grpN
  rw [List.range_succ, List.any_append, Bool.or_assoc]
  simp [h]
theorem grow_cat : ∀ (x : List EntryP) (l : List ItemP), (∀ y ∈ l, y.cat = 0) → ∀ y ∈ growE x l, y.cat = 0
  | [], l, h => h
  | e :: x, l, h => grow_cat x _ fun y hy => by
    rcases List.mem_append.1 hy with h' | h'
    · exact h y h'
    · rw [List.mem_singleton.1 h']
      unfold stepE
      split <;> rfl
theorem raw_cat (x : List EntryP) : ∀ y ∈ rawE x, y.cat = 0 := grow_cat _ _ fun y hy => by rw [List.mem_singleton.1 hy]; rfl

structure OfH where
  i : Nat
  H : AHeap
  l : List (ItemP × ItemO)
structure OfP (h : AHeap) (ka kr : Nat) (es : List EntryP) (n : Nat) (s : OfH) : Prop where
  i : s.i ≤ n
  sub : Sub h s.H
  res : s.H ka = some ⟨[.nilSlice, .int .i64 0], 0⟩
  row : s.H kr = some ⟨(s.l.map itC).flatten, 0⟩
  len : s.l.length = n
  at_ : ∀ j, j < n → (s.l.getD j default).1 = { (rawE es).getD j default with cat := if j < s.i then catE (rawE es) es j else 0 } ∧ (s.l.getD j default).2.val = .nilSlice
theorem ofp_done {h : AHeap} {ka kr n : Nat} {es : List EntryP} {s : OfH} (hok : OfP h ka kr es n s) (hn : (rawE es).length = n) (hi : n ≤ s.i) : items s.l = ofE es ∧ ∀ q ∈ s.l, q.2.val = .nilSlice := by
  obtain ⟨-, -, -, -, hl, ha⟩ := hok
  constructor
  · refine List.ext_getElem ?_ fun j h1 h2 => ?_
    · rw [items_len, hl, of_len, ← raw_len, hn]
    · have hj : j < n := by rw [items_len, hl] at h1; exact h1
      have h0 := (ha j hj).1
      rw [if_pos (by omega)] at h0
      have e1 : (items s.l)[j] = (s.l.getD j default).1 := by
        rw [← items_getD, List.getD, List.getElem?_eq_getElem h1]; rfl
      have e2 : (ofE es)[j] = (ofE es).getD j default := by
        rw [List.getD, List.getElem?_eq_getElem h2]; rfl
      rw [e1, e2, h0, of_get (by omega)]
  · intro q hq
    obtain ⟨j, hj, rfl⟩ := List.getElem_of_mem hq
    have := (ha j (by omega)).2
    rwa [List.getD, List.getElem?_eq_getElem hj] at this
theorem ofp_step {h H H' : AHeap} {ka kr n i : Nat} {es : List EntryP} {l l' : List (ItemP × ItemO)} {c : Int} (hok : OfP h ka kr es n ⟨i, H, l⟩) (hn : (rawE es).length = n) (hi : i < n) (hc : c = catE (rawE es) es i) (hs : Sub h H') (he : H' ka = H ka) (hr : H' kr = some ⟨(l'.map itC).flatten, 0⟩) (hl : l'.length = n)
    (h0 : (l'.getD i default).1 = { (l.getD i default).1 with cat := c } ∧ (l'.getD i default).2.val = .nilSlice) (h1 : ∀ j, j ≠ i → l'.getD j default = l.getD j default) : OfP h ka kr es n ⟨i + 1, H', l'⟩ := by
  obtain ⟨-, -, ea, -, -, ha⟩ := hok
  simp only at ea ha
  refine ⟨hi, hs, he.trans ea, hr, hl, fun j hj => ?_⟩
  simp only
  by_cases e : j = i
  · subst e
    rw [if_pos (Nat.lt_succ_self _), h0.1, (ha j hj).1, hc]
    exact ⟨rfl, h0.2⟩
  · rw [h1 j e, (ha j hj).1]
    refine ⟨?_, (ha j hj).2⟩
    congr 1
    by_cases h : j < i
    · rw [if_pos h, if_pos (by omega)]
    · rw [if_neg h, if_neg (by omega)]
structure OfRes (h : AHeap) (es : List EntryP) (r : AVal) (h' : AHeap) : Prop where
  ex : ∃ k lA c, r = .agg [.slice (.own k) 0 lA.length c, .int .i64 0] ∧ h' k = some ⟨(lA.map itC).flatten, 0⟩ ∧ h k = none ∧ items lA = ofE es ∧ (∀ q ∈ lA, q.2.val = .nilSlice) ∧ (c = .exact lA.length ∨ c = .grow 22)
  sub : Sub h h'

set_option maxHeartbeats 4000000 in
theorem l_Of2 (w₀ : World) (h : AHeap) (ka kb : Nat) (cR : List AVal) (v : AVal) (es : List EntryP) (hv : IsL w₀ h 4 v (es.map entC)) (hes : ∀ e ∈ es, EntOk e) (hl : es.length ≤ 9223372036854775807) (s : OfG) (hka : h ka = none) (hok : OfOk h ka kb cR es s) (hraw : items s.l = rawE es) :
    Awp Tryd.prog w₀ 163 (dropSeq 4 (bodyOf Tryd.f8)) (retA Tryd.prog w₀ [.cell 2 27] (OfRes h es)) [(0, v), (2, .ptr (.own ka) 0), (4, .slice (.own s.k) 0 s.l.length s.c)] (s.H) := by
  have hlv := hv.live
  have nv := ent_len hv
  obtain ⟨i0, H0, kr, c, l0⟩ := s
  obtain ⟨⟨hi1, hi2⟩, hs0, ea0, -, er0, ⟨hnr, ne_r_a, -⟩, hcap, -, hlen, hoth⟩ := hok
  simp only at hi1 hi2 hs0 ea0 er0 hnr ne_r_a hcap hlen hoth hraw ⊢
  obtain ⟨n, hn⟩ : ∃ n, n = l0.length := ⟨_, rfl⟩
  have hrl : (rawE es).length = n := by rw [← hraw, items_len, hn]
  have nl : ∀ H : AHeap, pLenH Tryd.prog H 25 (.slice (.own kr) 0 n c) = ⟨True, .int .i64 n⟩ := by
    have hLr : IsL w₀ H0 22 (.slice (.own kr) 0 l0.length c) (l0.map itC) := by
      have := IsL.own (w₀ := w₀) (xs := l0.map itC) er0 it_wide rfl (row_live hoth).1 c (capOk_of hcap)
      rwa [List.length_map] at this
    rw [hn]
    exact it_len hLr
  have hst : OfP h ka kr es n ⟨0, H0, l0⟩ := by
    refine ⟨Nat.zero_le _, hs0, ea0, er0, hn.symm, fun j hj => ?_⟩
    have hj' : j < l0.length := by omega
    have e1 : (l0.getD j default).1 = (rawE es).getD j default := by rw [← hraw, items_getD]
    constructor
    · simp only
      rw [e1, if_neg (by omega), ← raw_cat es ((rawE es).getD j default) (by rw [List.getD, List.getElem?_eq_getElem (by omega)]; exact List.getElem_mem _)]
    · simp only
      rw [List.getD, List.getElem?_eq_getElem hj']
      exact hoth _ (List.getElem_mem hj')
  rw [← hn]
  rw [List.length_map, ← hn] at hcap
  change Awp _ _ _ (Code.seq _ _) _ _ _
  refine awp_seq ?_
  -- region 25  law.go:49
  refine awp_rseq [0, 2, 4, 7] (by rfl) fun K hK => ?_
  simp (decide := true) only [aOps_nil, ev, absV, absS, putD, Slots.put, Slots.keep, if_true, if_false, true_and, ↓ap_assign, pop_assign]
  apply hK; clear hK K
  refine awp_block ?_
  refine awp_loopG [0, 2, 4, 7] (fun g : OfH => [(0, v), (2, .ptr (.own ka) 0), (4, .slice (.own kr) 0 n c), (7, .int .i64 g.i)]) (fun g : OfH => g.H) (fun g : OfH => OfP h ka kr es n g) (fun g : OfH => n - g.i) ⟨0, H0, l0⟩ (by rfl) (Sub.refl _) hst ?_
  rintro ⟨i, H, l⟩ hok
  obtain ⟨hi, hs_H, eb_a, eb_r, hln, hat⟩ := id hok
  simp only at hi hs_H eb_a eb_r hln hat ⊢
  have hotl : ∀ q ∈ l, q.2.val = .nilSlice := by
   intro q hq
   obtain ⟨j, hj, rfl⟩ := List.getElem_of_mem hq
   have := (hat j (by omega)).2
   rwa [List.getD, List.getElem?_eq_getElem hj] at this
  have hLr : IsL w₀ H 22 (.slice (.own kr) 0 l.length c) (l.map itC) := by
   have := IsL.own (w₀ := w₀) (xs := l.map itC) eb_r it_wide rfl (row_live hotl).1 c (capOk_of (by rw [List.length_map, hln]; exact hcap))
   rwa [List.length_map] at this
  refine awp_seq ?_
  -- region 26  law.go:49
  refine awp_rseq [0, 2, 4, 7, 106] (by rfl) fun K hK => ?_
  simp (decide := true) only [aOps_nil, ev, putD, Slots.put, Slots.get, Slots.keep, if_true, if_false, true_and, ↓ap_move, pop_move, ↓ap_len, pop_len, pLen_slice Tryd.underlying25, ↓ap_binOp, pop_binOp, isNilC_tmp, cond_false, pBinX_int, pI_lss]
  apply hK; clear hK K
  refine awp_cond (b := _) rfl (fun hb1 => ?_) (fun hb1 => ?_)
  · try simp only [decide_eq_true_eq] at hb1
    have hi' : i < n := by omega
    refine awp_skip ?_
    change Awp _ _ _ _ _ _ _
    refine awp_seq ?_
    refine awp_block ?_
    -- region 28  law.go:50
    refine awp_rseq [0, 2, 4, 7, 8] (by rfl) fun K hK => ?_
    simp (decide := true) only [aOps_nil, ev, absV, absS, putD, Slots.put, Slots.get, Slots.keep, if_true, if_false, true_and, ↓ap_move, pop_move, ↓ap_binOp, pop_binOp, isNilC_int, cond_false, pBinX_int, pI_eql, ↓ap_assign, pop_assign]
    apply hK; clear hK K
    refine awp_seq ?_
    -- region 29  law.go:51
    refine awp_rseq [0, 2, 4, 7, 8, 9] (by rfl) fun K hK => ?_
    simp (decide := true) only [aOps_nil, ev, absV, absS, putD, Slots.put, Slots.get, Slots.keep, if_true, if_false, true_and, ↓ap_move, pop_move, ↓ap_binOp, pop_binOp, isNilC_int, cond_false, pBinX_int, pI_add, ↓ap_assign, pop_assign]
    try simp (disch := omega) only [wrap_i64]
    apply hK; clear hK K
    refine awp_block ?_
    refine awp_loopG [0, 2, 4, 7, 8, 9] (fun p : Nat × Bool => [(0, v), (2, .ptr (.own ka) 0), (4, .slice (.own kr) 0 n c), (7, .int .i64 i), (8, .bool p.2), (9, .int .i64 p.1)]) (fun p : Nat × Bool => H) (fun p : Nat × Bool => i < p.1 ∧ p.1 ≤ n ∧ p.2 = grpN (rawE es) i p.1) (fun p : Nat × Bool => n - p.1) (i + 1, decide ((i : Int) = 0)) (by rfl) (Sub.refl _) ⟨Nat.lt_succ_self _, hi', (grpN_start _ _).symm⟩ ?_
    rintro ⟨k, b⟩ ⟨hk1, hk2, hk3⟩
    simp only at hk1 hk2 hk3 ⊢
    refine awp_seq ?_
    -- region 30  law.go:51
    refine awp_rseq [0, 2, 4, 7, 8, 9, 116] (by rfl) fun K hK => ?_
    simp (decide := true) only [aOps_nil, ev, putD, Slots.put, Slots.get, Slots.keep, if_true, if_false, true_and, ↓ap_move, pop_move, ↓ap_len, pop_len, pLen_slice Tryd.underlying25, ↓ap_binOp, pop_binOp, isNilC_tmp, cond_false, pBinX_int, pI_lss]
    apply hK; clear hK K
    refine awp_cond (b := _) rfl (fun hb2 => ?_) (fun hb2 => ?_)
    · try simp only [decide_eq_true_eq] at hb2
      have hk' : k < n := by omega
      obtain ⟨x, hx⟩ : ∃ a, (rawE es).getD k default = a := ⟨_, rfl⟩
      have hrl := it_rd hLr (i := k) (by omega) (j := 1) (by decide)
      have hrp := it_rd hLr (i := k) (by omega) (j := 2) (by decide)
      have hxk := (hat k hk').1
      rw [hx] at hxk
      have hxl : (l.getD k default).1.level = x.level := by rw [hxk]
      have hxp : (l.getD k default).1.parent = x.parent := by rw [hxk]
      have hrl' : (l.map itC).flatten.getD (k * 22 + 1) .dead = .int .i64 x.level := by
       rw [← rd_own w₀ eb_r, ← Nat.zero_add (k * 22), hrl, ← hxl]; rfl
      have hrp' : (l.map itC).flatten.getD (k * 22 + 2) .dead = .int .i64 x.parent := by
       rw [← rd_own w₀ eb_r, ← Nat.zero_add (k * 22), hrp, ← hxp]; rfl
      refine awp_skip ?_
      change Awp _ _ _ _ _ _ _
      refine awp_seq ?_
      refine awp_block ?_
      -- region 32  law.go:52
      refine awp_r [0, 2, 4, 7, 8, 9] (by rfl) ?_
      simp (decide := true) only [aOps_nil, ev, absV, absS, putD, Slots.put, Slots.get, Slots.keep, if_true, if_false, true_and, ↓ap_move, pop_move, ↓ag_move, agP, agQ_some, nthDst, gKnown_bool, gKnown_cond, guardB_cond, guardB_bool_true, guardB_bool_false, cv_cv, implies_true, ↓ag_indexAddrL, agQL_some, agL_mk, agL_il2, agL_il3, agL_ir2, agL_ir3, pIndexAddr_slice Tryd.underlying25 sz44, ↓ag_fieldAddr, pop_fieldAddr, fa44_2, cv_fieldAddr, cp_fieldAddr, ↓ag_loadL, agL_ld2, agL_ld3, pLoad_one ag3, ↓ag_binOp, pop_binOp, isNilC_tmp, cond_false, cv_binl, cv_binr, cp_binl, cp_binr, pBinX_int, pI_eql, fa44_1, isNilC_int, pI_lss, ↓ag_pick, pop_pick, pPick_bool, pickV_cond_r, cp_nest1, pickV_and, pickV_or, cv_pick, cp_pick, ↓ap_pick, ↓ap_assign, pop_assign, rd_own w₀ eb_r, Nat.zero_add, lv_int, Int.toNat_natCast, hrl', hrp']
      repeat (with_reducible refine And.intro ?_ ?_; · first | trivial | omega | (intro hg; simp only [Bool.and_eq_true, Bool.or_eq_true, Bool.not_eq_true', Bool.and_eq_false_iff, Bool.or_eq_false_iff, Bool.not_eq_false', decide_eq_true_eq, decide_eq_false_iff_not, eqNil] at hg; omega) )
      change Awp _ _ _ _ _ _ _
      -- region 31  law.go:51
      refine awp_r [0, 2, 4, 7, 8, 9] (by rfl) ?_
      simp (decide := true) only [aOps_nil, ev, absV, absS, putD, Slots.put, Slots.get, Slots.keep, if_true, if_false, true_and, ↓ap_move, pop_move, ↓ap_binOp, pop_binOp, isNilC_int, cond_false, pBinX_int, pI_add, ↓ap_assign, pop_assign]
      try simp (disch := omega) only [wrap_i64]
      try simp only [thenA_normal]
      refine ⟨(k + 1, b || (decide (x.parent = i) && decide (x.level < 50))), rfl, Sub.refl _, ⟨Nat.lt_succ_of_lt hk1, hk', ?_⟩, by simp only; omega⟩
      simp only
      rw [grpN_step _ hk1, hx, hk3]
    · try simp only [decide_eq_false_iff_not] at hb2
      have hkn : k = n := by omega
      subst hkn
      have hg : b = groupAt (rawE es) i := by rw [hk3, ← grpN_all, hrl]
      have hfin : ∀ c', c' = catE (rawE es) es i → ∀ H' l', (l' = l ∧ H' = H ∧ c' = 0) ∨ (∃ X, H' = H.set kr X ∧ X = ⟨(l'.map itC).flatten, 0⟩ ∧ l'.length = k ∧ (l'.getD i default).1 = { (l.getD i default).1 with cat := c' } ∧ (l'.getD i default).2.val = .nilSlice ∧ ∀ j, j ≠ i → l'.getD j default = l.getD j default) → OfP h ka kr es k ⟨i + 1, H', l'⟩ := by
       intro c' hc' H' l' hh
       rcases hh with ⟨rfl, rfl, h0⟩ | ⟨X, rfl, rfl, h1, h2, h3, h4⟩
       · refine ofp_step hok hrl hi' hc' hs_H rfl eb_r hln ⟨?_, (hat i hi').2⟩ fun _ _ => rfl
         rw [(hat i hi').1, h0]
         simp only
         rw [if_neg (Nat.lt_irrefl _)]
       · exact ofp_step hok hrl hi' hc' (Sub.set_off hs_H hnr _) (AHeap.set_ne _ _ ne_r_a.symm) (AHeap.set_same _ _ _) h1 ⟨h2, h3⟩ h4
      refine awp_exit ?_
      change Awp _ _ _ _ _ _ _
      -- region 33  law.go:54
      refine awp_rseq [0, 2, 4, 7, 138] (by rfl) fun K hK => ?_
      simp (decide := true) only [aOps_nil, ev, putD, Slots.put, Slots.get, Slots.keep, if_true, if_false, true_and, ↓ap_move, pop_move, ↓ap_unOp, pop_unOp, pU_not]
      apply hK; clear hK K
      refine awp_cond (b := _) rfl (fun hb3 => ?_) (fun hb3 => ?_)
      · try simp only [Bool.not_eq_true'] at hb3
        have h0 : 0 < i := by
         rcases Nat.eq_zero_or_pos i with e | e
         · exfalso
           rw [hk3, e] at hb3
           simp [grpN] at hb3
         · exact e
        have hgt : (0 < (i : Int)) = True := eq_true (by omega)
        obtain ⟨lce, oe, ce, rfl⟩ := ent_open hv (by omega)
        obtain ⟨e, he⟩ : ∃ e, e = es.getD (i - 1) default := ⟨_, rfl⟩
        have htn : ((i : Int) - 1).toNat = i - 1 := by omega
        have hwr : IntKind.i64.wrap ((i : Int) - 1) = (i : Int) - 1 := wrap_i64 (by omega) (by omega)
        have hm3 : Int.tmod (e.kind : Int) 3 = ((e.kind % 3 : Nat) : Int) := by rw [Int.tmod_eq_emod_of_nonneg (by omega)]; exact (Int.natCast_emod e.kind 3).symm
        have er2 : ∀ X, rd w₀ (H.set kr X) lce (oe + (i - 1) * 4 + 2) = .int .u8 e.kind := fun X => by
         have hX : Sub h (H.set kr X) := Sub.set_off hs_H hnr X
         have q := ent_rd (hv.mono hX) (i := i - 1) (by omega) (j := 2) (by decide) (w₀ := w₀)
         rwa [← he] at q
        obtain ⟨l2, hl2⟩ : ∃ l2, l2 = l.set i (shO 4 [57] 1 (l.getD i default)) := ⟨_, rfl⟩
        obtain ⟨l3, hl3⟩ : ∃ l3, l3 = l2.set i (shO 2 [88] 0 (l2.getD i default)) := ⟨_, rfl⟩
        have hi2l : i < l.length := by omega
        have hll : l2.length = k ∧ l3.length = k := by rw [hl3, hl2]; simp only [List.length_set]; exact ⟨hln, hln⟩
        -- region 34  law.go:55
        refine awp_rseq [0, 2, 4, 7] (by rfl) fun K hK => ?_
        simp (decide := true) only [ev, absV, absS, putD, Slots.put, Slots.get, if_true, if_false, true_and, ↓ap_move, pop_move, ↓ap_build, ↓pop_buildL, bld41_0_2_3_10, evP, List.map_cons, List.map_nil, ↓ap_indexAddrL, apL_mk, pIndexAddr_slice Tryd.underlying25 sz44, ↓ap_fieldAddr, pop_fieldAddr, fa44_3, Nat.zero_add]
        repeat (with_reducible refine And.intro ?_ ?_; · first | trivial | omega | (intro hg; simp only [Bool.and_eq_true, Bool.or_eq_true, Bool.not_eq_true', Bool.and_eq_false_iff, Bool.or_eq_false_iff, Bool.not_eq_false', decide_eq_true_eq, decide_eq_false_iff_not, eqNil] at hg; omega) )
        refine aOps_storeShape (c := 4) (pic := [57]) (n := 1) (i := i) (l := l) (by rfl) (by rfl) eb_r hi2l sz41 ?_
        rw [← hl2]
        simp (decide := true) only [aOps_nil, putD, Slots.keep, if_true, if_false]
        apply hK; clear hK K
        -- region 35  law.go:56
        refine awp_rseq [0, 2, 4, 7, 155] (by rfl) fun K hK => ?_
        simp (decide := true) only [aOps_nil, ev, absV, absS, putD, Slots.put, Slots.get, Slots.keep, if_true, if_false, true_and, ↓ap_move, pop_move, ↓ap_binOp, pop_binOp, isNilC_int, cond_false, pBinX_int, pI_gtr, ↓ag_move, agP, agQ_some, nthDst, gKnown_bool, guardB_bool_true, implies_true, decide_true, condV_true, forall_const, Bool.true_and, ↓ag_binOp, pI_sub, ↓ag_indexAddrL, agQL_some, agL_mk, pIndexAddr_slice Tryd.underlying23 sz58, ↓ag_fieldAddr, pop_fieldAddr, fa58_2, ↓ag_loadL, pLoad_one ag5, pI_rem, pI_eql, ↓ap_pick, pop_pick, pPick_bool, pickV_and, lv_int, hgt, hwr, htn, er2, hm3]
        repeat (with_reducible refine And.intro ?_ ?_; · first | trivial | omega | (intro hg; simp only [Bool.and_eq_true, Bool.or_eq_true, Bool.not_eq_true', Bool.and_eq_false_iff, Bool.or_eq_false_iff, Bool.not_eq_false', decide_eq_true_eq, decide_eq_false_iff_not, eqNil] at hg; omega) )
        apply hK; clear hK K
        refine awp_cond (b := _) rfl (fun hb4 => ?_) (fun hb4 => ?_)
        · try simp only [decide_eq_true_eq] at hb4
          -- region 36  law.go:57
          refine awp_r [0, 2, 4, 7] (by rfl) ?_
          simp (decide := true) only [ev, absV, absS, putD, Slots.put, Slots.get, if_true, if_false, true_and, ↓ap_move, pop_move, ↓ap_build, ↓pop_buildL, bld41_0_2_10, evP, List.map_cons, List.map_nil, ↓ap_indexAddrL, apL_mk, pIndexAddr_slice Tryd.underlying25 sz44, ↓ap_fieldAddr, pop_fieldAddr, fa44_3, Nat.zero_add]
          repeat (with_reducible refine And.intro ?_ ?_; · first | trivial | omega | (intro hg; simp only [Bool.and_eq_true, Bool.or_eq_true, Bool.not_eq_true', Bool.and_eq_false_iff, Bool.or_eq_false_iff, Bool.not_eq_false', decide_eq_true_eq, decide_eq_false_iff_not, eqNil] at hg; omega) )
          refine aOps_storeShape (c := 2) (pic := [88]) (n := 0) (i := i) (l := l2) (by rfl) (by rfl) (AHeap.set_same _ _ _) (by omega) sz41 ?_
          rw [← hl3, AHeap.set_set]
          have hdone := hfin 2 (by unfold catE; rw [← hg, ← he]; simp [hb3, h0, show e.kind % 3 = 0 by omega]) _ l3 (.inr ⟨_, rfl, rfl, hll.2, by rw [hl3, getD_set_self _ (by omega), hl2, getD_set_self _ hi2l]; rfl, by rw [hl3, getD_set_self _ (by omega), hl2, getD_set_self _ hi2l]; exact (hat i hi').2, fun j hj => by rw [hl3, getD_set_other _ hj, hl2, getD_set_other _ hj]⟩)
          simp (decide := true) only [aOps_nil, putD, Slots.keep, if_true, if_false]
          change Awp _ _ _ _ _ _ _
          -- region 27  law.go:49
          refine awp_r [0, 2, 4, 7] (by rfl) ?_
          simp (decide := true) only [aOps_nil, ev, absV, absS, putD, Slots.put, Slots.get, Slots.keep, if_true, if_false, true_and, ↓ap_move, pop_move, ↓ap_binOp, pop_binOp, isNilC_int, cond_false, pBinX_int, pI_add, ↓ap_assign, pop_assign]
          try simp (disch := omega) only [wrap_i64]
          try simp only [thenA_normal]
          exact ⟨⟨i + 1, _, _⟩, rfl, Sub.refl _, hdone, by simp only; omega⟩
        · try simp only [decide_eq_false_iff_not] at hb4
          have hdone := hfin 4 (by unfold catE; rw [← hg, ← he]; simp [hb3, h0, show ¬ e.kind % 3 = 0 by omega]) _ l2 (.inr ⟨_, rfl, rfl, hll.1, by rw [hl2, getD_set_self _ hi2l]; rfl, by rw [hl2, getD_set_self _ hi2l]; exact (hat i hi').2, fun j hj => by rw [hl2, getD_set_other _ hj]⟩)
          refine awp_skip ?_
          change Awp _ _ _ _ _ _ _
          -- region 27  law.go:49
          refine awp_r [0, 2, 4, 7] (by rfl) ?_
          simp (decide := true) only [aOps_nil, ev, absV, absS, putD, Slots.put, Slots.get, Slots.keep, if_true, if_false, true_and, ↓ap_move, pop_move, ↓ap_binOp, pop_binOp, isNilC_int, cond_false, pBinX_int, pI_add, ↓ap_assign, pop_assign]
          try simp (disch := omega) only [wrap_i64]
          try simp only [thenA_normal]
          exact ⟨⟨i + 1, _, _⟩, rfl, Sub.refl _, hdone, by simp only; omega⟩
      · try simp only [Bool.not_eq_false'] at hb3
        have hdone := hfin 0 (by unfold catE; rw [← hg]; simp [hb3]) H l (.inl ⟨rfl, rfl, rfl⟩)
        refine awp_skip ?_
        change Awp _ _ _ _ _ _ _
        -- region 27  law.go:49
        refine awp_r [0, 2, 4, 7] (by rfl) ?_
        simp (decide := true) only [aOps_nil, ev, absV, absS, putD, Slots.put, Slots.get, Slots.keep, if_true, if_false, true_and, ↓ap_move, pop_move, ↓ap_binOp, pop_binOp, isNilC_int, cond_false, pBinX_int, pI_add, ↓ap_assign, pop_assign]
        try simp (disch := omega) only [wrap_i64]
        try simp only [thenA_normal]
        exact ⟨⟨i + 1, _, _⟩, rfl, Sub.refl _, hdone, by simp only; omega⟩
  · try simp only [decide_eq_false_iff_not] at hb1
    obtain ⟨hitems, hoth'⟩ := ofp_done hok hrl (by simp only; omega)
    refine awp_exit ?_
    change Awp _ _ _ _ _ _ _
    -- region 37  law.go:61
    refine awp_rseq [2] (by rfl) fun K hK => ?_
    simp (decide := true) only [ev, absV, absS, putD, Slots.put, Slots.get, if_true, if_false, true_and, ↓ap_move, pop_move, ↓ap_build, ↓pop_buildL, bld27_0, evP, List.map_cons, List.map_nil, Sc_slice]
    refine aOps_store (by rfl) (by rfl) (by repeat (first | exact AHeap.set_same _ _ _ | assumption | refine (AHeap.set_ne _ _ (by first | assumption | exact Ne.symm (by assumption))).trans ?_)) sz27 (by rfl) (by rfl) (by first | exact Nat.le_refl _ | decide | (simp; done) | (simp; omega)) (Nat.zero_le _) (by rfl) ?_
    simp only [AVal.cells]
    simp (decide := true) only [aOps_nil, ev, putD, Slots.get, Slots.keep, if_true, if_false, setAt, List.set_cons_zero, List.set_cons_succ, Nat.zero_add]
    apply hK; clear hK K
    refine awp_ret ?_
    refine retA_retE (?_) ?_
    · simp (decide := true) only [resPre, resV_cell, Slots.get, if_true, and_true, resV_cell, pLoad_agg ag27 sz27, rd_set, cellsAt, List.getD_cons_zero, List.getD_cons_succ, Nat.zero_add, lv_int, lv_slice, allLive, Bool.and_true, cellsAt, List.getD_cons_zero, List.getD_cons_succ, Nat.zero_add, lv_int, lv_slice, allLive, Bool.and_true]
    
    simp (decide := true) only [Slots.get, if_true, resOfG_one, resV_cell, pLoad_agg ag27 sz27, rd_set, cellsAt, List.getD_cons_zero, List.getD_cons_succ, Nat.zero_add, lv_int, lv_slice, allLive, Bool.and_true, cellsAt, List.getD_cons_zero, List.getD_cons_succ, Nat.zero_add, lv_int, lv_slice, allLive, Bool.and_true]
    refine ⟨_, Sub.refl _, ⟨kr, l, c, by rw [hln], ?_, hnr, hitems, hoth', by rw [hln]; exact hcap⟩, Sub.set_off hs_H hka _⟩
    rw [AHeap.set_ne _ _ ne_r_a]
    exact eb_r

set_option maxHeartbeats 4000000 in
theorem c_Of (w₀ : World) (h : AHeap) (v : AVal) (es : List EntryP) (hv : IsL w₀ h 4 v (es.map entC)) (hes : ∀ e ∈ es, EntOk e) (hl : es.length ≤ 9223372036854775807) : ACall Tryd.prog w₀ 8 [v] h (OfRes h es) := by
  have hlv := hv.live
  refine acall_intro (n := 163) (rs := [.cell 2 27]) Tryd.func8 rfl rfl rfl rfl (Nat.le_of_ble_eq_true rfl) ?_
  simp only [initSlots]
  -- region 0  law.go:21
  refine awp_rseq [0, 2] (by rfl) fun K hK => ?_
  refine aOps_alloc ze27 (cs := [.nilSlice, .int .i64 0]) (by rfl) fun k0q0 hk0q0 => ?_
  try have hf_0q0 : h k0q0 = none := by first | assumption | (simp only [AHeap.set_none] at hk0q0; simp only [hk0q0])
  simp (decide := true) only [aOps_nil, putD, Slots.put, Slots.keep, if_true, if_false]
  apply hK; clear hK K
  -- region 1  law.go:22
  refine awp_rseq [0, 2, 3] (by rfl) fun K hK => ?_
  simp (decide := true) only [ev, absV, absS, putD, Slots.put, Slots.get, if_false, true_and, ↓ap_build, ↓pop_buildL, bld44_0_1_2_5_7_8_9_10, evP, List.map_cons, List.map_nil]
  refine aOps_alloc ze44 (cs := [.str [], .int .i64 0, .int .i64 0, .int .u8 0, .int .u8 0, .str [], .int .i64 0, .int .i64 0, .bool false, .bool false, .bool false, .bool false, .bool false, .int .i64 0, .int .i64 0, .int .i64 0, .int .i64 0, .int .i64 0, .int .i64 0, .int .i64 0, .int .i64 0, .nilSlice]) (by rfl) fun k1q1 hk1q1 => ?_
  have ne_1q1_0q0 : k1q1 ≠ k0q0 := by simp only [AHeap.set_none] at hk1q1; simp only [hk1q1, ne_eq, not_false_eq_true]
  try have hf_1q1 : h k1q1 = none := by first | assumption | (simp only [AHeap.set_none] at hk1q1; simp only [hk1q1])
  refine aOps_store (by rfl) (by rfl) (by repeat (first | exact AHeap.set_same _ _ _ | assumption | refine (AHeap.set_ne _ _ (by first | assumption | exact Ne.symm (by assumption))).trans ?_)) sz44 (by rfl) (by rfl) (by first | exact Nat.le_refl _ | decide | (simp; done) | (simp; omega)) (Nat.zero_le _) (by rfl) ?_
  simp only [AHeap.set_set, AVal.cells]
  simp (decide := true) only [aOps_nil, ev, putD, Slots.put, Slots.get, Slots.keep, if_true, if_false, setAt, List.set_cons_zero, List.set_cons_succ, Nat.zero_add, Nat.reduceAdd]
  apply hK; clear hK K
  -- region 2  law.go:23
  refine awp_rseq [0, 2, 3, 4] (by rfl) fun K hK => ?_
  simp (decide := true) only [ev, putD, Slots.put, Slots.get, if_true, if_false, true_and, ↓ap_loadL, apL_mk, pLoad_agg ag44 sz44, rd_any, cellsAt, List.getD_cons_zero, List.getD_cons_succ, Nat.zero_add, Nat.reduceAdd, lv_bool, lv_int, lv_str, lv_nilSlice, allLive, Bool.and_true]
  refine aOps_buildSlice (cs := itemC rootP namO) (by kernel_rfl) fun k2q1 hk2q1 => ?_
  have ne_2q1_0q0 : k2q1 ≠ k0q0 := by simp only [AHeap.set_none] at hk2q1; simp only [hk2q1, ne_eq, not_false_eq_true]
  have ne_2q1_1q1 : k2q1 ≠ k1q1 := by simp only [AHeap.set_none] at hk2q1; simp only [hk2q1, ne_eq, not_false_eq_true]
  try have hf_2q1 : h k2q1 = none := by first | assumption | (simp only [AHeap.set_none] at hk2q1; simp only [hk2q1])
  simp (decide := true) only [aOps_nil, ev, putD, Slots.put, Slots.get, Slots.keep, if_true, if_false, true_and, ↓ap_assign, pop_assign]
  apply hK; clear hK K
  refine Awp.keep [0, 2, 3, 4] ?_
  have hsub : Sub h (((h.set k0q0 ⟨[.nilSlice, .int .i64 0], 0⟩).set k1q1 ⟨itemC rootP namO, 0⟩).set k2q1 ⟨itemC rootP namO, 0⟩) := by
   refine Sub.set_off (Sub.set_off (Sub.set hf_0q0) hf_1q1 _) hf_2q1 _
  refine l_Of1 w₀ h k0q0 k1q1 v es _ hv hes hl _ k2q1 ⟨⟨Nat.zero_le _, Nat.zero_le _⟩, hsub, (by repeat (first | exact AHeap.set_same _ _ _ | assumption | refine (AHeap.set_ne _ _ (by first | assumption | exact Ne.symm (by assumption))).trans ?_)), (by repeat (first | exact AHeap.set_same _ _ _ | assumption | refine (AHeap.set_ne _ _ (by first | assumption | exact Ne.symm (by assumption))).trans ?_)), (by repeat (first | exact AHeap.set_same _ _ _ | assumption | refine (AHeap.set_ne _ _ (by first | assumption | exact Ne.symm (by assumption))).trans ?_)), ⟨hf_2q1, by assumption, by assumption⟩, .inl rfl, rfl, rfl, ?_⟩ ?_
  · intro q hq
    rw [List.mem_singleton.1 hq]; rfl
  · intro s hs hr
    exact l_Of2 w₀ h k0q0 k1q1 _ v es hv hes hl s hf_0q0 hs hr
end Go.Proofs.YtgnebodlkfblcaaDoor

/-
  The laws' records as groups: names and keys are short; rows of pairs.
  Conditions: none.
-/
namespace Go.Prs
open Go.Col (Str digs)
theorem pGo_all (P : Str → Prop) (g : Int) (only : Bool) : ∀ (l : List ItemP) (i : Nat) (acc : List (Int × List Str)), (∀ x ∈ l, P x.name) → (∀ y ∈ acc, ∀ s ∈ y.2, P s) → ∀ y ∈ pGo g only i l acc, ∀ s ∈ y.2, P s
  | [], _, _, _, h, y, hy => h y hy
  | x :: l, i, acc, hl, h, y, hy => by
    rw [pGo] at hy
    refine pGo_all P g only l (i + 1) (pStep g only acc i x) (fun z hz => hl z (List.mem_cons_of_mem _ hz)) (fun z hz => ?_) y hy
    rw [pStep_eq] at hz
    rcases List.mem_append.1 hz with hz | hz
    · exact h z hz
    · unfold newP at hz
      cases hq : lookA x.parent acc with
      | none => rw [hq] at hz; cases hz
      | some p =>
        have hp := h _ (Go.Proofs.YtgnebodlkfblcaaDoor.lookA_mem hq)
        rw [hq] at hz
        simp only at hz
        split at hz
        · rename_i p' he
          split at he
          · rw [Option.some.injEq] at he
            rw [List.mem_singleton] at hz
            subst hz
            intro s hs
            rw [← he] at hs
            rcases List.mem_append.1 hs with hs | hs
            · exact hp s hs
            · rw [List.mem_singleton.1 hs]; exact hl x List.mem_cons_self
          · cases he
        · cases hz
theorem paths_names {l : List ItemP} {g : Int} {only : Bool} {P : Str → Prop} (h : ∀ x ∈ l, P x.name) {y : Int × List Str} (hy : y ∈ pathsE l g only) : ∀ s ∈ y.2, P s :=
  pGo_all P g only l 0 [(g, [])] h (fun y hy => by rw [List.mem_singleton.1 hy]; simp) y (List.mem_of_mem_tail hy)
theorem key_small : ∀ {p : List Str}, (∀ s ∈ p, s.length ≤ 6) → (keyE p).length ≤ 8 * p.length
  | [], _ => by simp [keyE]
  | s :: r, h => by
    have h1 := h s List.mem_cons_self
    have h2 := key_small fun z hz => h z (List.mem_cons_of_mem _ hz)
    have h3 : (digs s.length).length = 1 := by
      generalize s.length = n at h1
      match n, h1 with
      | 0, _ => decide +kernel
      | 1, _ => decide +kernel
      | 2, _ => decide +kernel
      | 3, _ => decide +kernel
      | 4, _ => decide +kernel
      | 5, _ => decide +kernel
      | 6, _ => decide +kernel
    have h4 : (keyE (s :: r)).length = (digs s.length).length + (s.length + 1) + (keyE r).length := by
      simp only [keyE, partE, List.length_append, List.length_cons]
    rw [h4, h3, List.length_cons]
    have h1' : s.length ≤ 6 := h1
    omega
theorem grow_names : ∀ (x : List EntryP) (l : List ItemP), (∀ y ∈ l, y.name.length ≤ 6) → ∀ y ∈ growE x l, y.name.length ≤ 6
  | [], l, h => h
  | e :: x, l, h => grow_names x _ fun y hy => by
    rcases List.mem_append.1 hy with h' | h'
    · exact h y h'
    · rw [List.mem_singleton.1 h']
      have : (nmE e.name).length ≤ 6 := by
        unfold nmE filler
        split <;> decide
      unfold stepE
      split <;> exact this
theorem of_names (x : List EntryP) : ∀ y ∈ ofE x, y.name.length ≤ 6 := by
  intro y hy
  obtain ⟨i, hi, rfl⟩ := List.getElem_of_mem hy
  have hi' : i < (rawE x).length := by rw [of_len, ← raw_len] at hi; exact hi
  have e : (ofE x)[i] = (ofE x).getD i default := by rw [List.getD, List.getElem?_eq_getElem hi]; rfl
  rw [e, of_get hi']
  have hr : ∀ y ∈ [rootP], y.name.length ≤ 6 := fun y hy => by rw [List.mem_singleton.1 hy]; decide
  refine grow_names (x.take 20) [rootP] hr ((rawE x).getD i default) ?_
  rw [List.getD, List.getElem?_eq_getElem hi']
  exact List.getElem_mem hi'
theorem keys_small {l : List ItemP} (h : ∀ y ∈ l, y.name.length ≤ 6) (hl : l.length ≤ 100000) (g : Int) : ∀ y ∈ pathsE l g true, (keyE y.2).length ≤ 140737488355328 := fun y hy => by
  have h1 := key_small (paths_names (P := fun s => s.length ≤ 6) h hy)
  have h2 := Go.Proofs.YtgnebodlkfblcaaDoor.paths_short hy
  omega
end Go.Prs
namespace Go.Proofs.YtgnebodlkfblcaaDoor
open Go.AM
open Go.Proofs
open Go.Col
open Go.Prs
set_option maxRecDepth 100000
theorem of_rec {w₀ : World} {h h' : AHeap} {es : List EntryP} {r : AVal} (hr : OfRes h es r h') : ∃ sl la, r = .agg [sl, .int .i64 0] ∧ items la = ofE es ∧ (∀ g, GrpOk w₀ h' sl g la) ∧ sl.scal = true ∧ Sub h h' := by
  obtain ⟨⟨k, la, c, rfl, hk, -, hi, ho, hc⟩, hs⟩ := hr
  have hlen : la.length ≤ 21 := by rw [← items_len, hi, of_len]; omega
  refine ⟨_, la, rfl, hi, fun g => ⟨?_, by omega, ?_⟩, rfl, hs⟩
  · have := IsL.own (w₀ := w₀) (xs := la.map itC) hk it_wide rfl (row_live ho).1 c (capOk_of (by rw [List.length_map]; exact hc))
    rwa [List.length_map] at this
  · rw [hi]
    exact keys_small (of_names es) (by rw [← hi, items_len]; omega) g
theorem pr_len {w₀ : World} {h : AHeap} {v : AVal} {ps : List (Int × Int)} (hv : IsL w₀ h 2 v (ps.map pairC)) : ∀ H : AHeap, pLenH Tryd.prog H 30 v = ⟨True, .int .i64 ps.length⟩ := by
  have := hv.len Tryd.underlying30
  rwa [List.length_map] at this
end Go.Proofs.YtgnebodlkfblcaaDoor

/-
  The law PairsSwap.
  Conditions: none.
-/
namespace Go.Prs
end Go.Prs
namespace Go.Proofs.YtgnebodlkfblcaaDoor
open Go.AM
open Go.Proofs
open Go.Col
open Go.Prs
set_option maxRecDepth 100000

end Go.Proofs.YtgnebodlkfblcaaDoor

/-
  The law PairsSelf.
  Conditions: none.
-/
namespace Go.Prs
end Go.Prs
namespace Go.Proofs.YtgnebodlkfblcaaDoor
open Go.AM
open Go.Proofs
open Go.Col
open Go.Prs
set_option maxRecDepth 100000

end Go.Proofs.YtgnebodlkfblcaaDoor

/-
  The law PairsErrors: its parts.
  Conditions: none.
-/
namespace Go.AM
theorem repCells_rows (z : List AVal) (m : Nat) (hz : 0 < z.length) : repCells z (m * z.length) = (List.replicate m z).flatten := by
  have hw : ∀ x ∈ List.replicate m z, x.length = z.length := fun x hx => by rw [(List.mem_replicate.1 hx).2]
  refine List.ext_getElem (by rw [flatten_len hw, List.length_replicate]; simp [repCells]) fun i h1 h2 => ?_
  have hi : i < m * z.length := by simpa [repCells] using h1
  have hd : i / z.length < m := Nat.div_lt_of_lt_mul (by rw [Nat.mul_comm]; exact hi)
  have hm : i % z.length < z.length := Nat.mod_lt _ hz
  have h3 := flatten_get hw (i := i / z.length) (j := i % z.length) (by rw [List.length_replicate]; exact hd) hm
  rw [show i / z.length * z.length + i % z.length = i by rw [Nat.mul_comm]; exact Nat.div_add_mod _ _] at h3
  have h4 : (List.replicate m z).getD (i / z.length) [] = z := by simp [List.getD, hd]
  rw [h4, List.getElem?_eq_getElem h2, List.getElem?_eq_getElem hm] at h3
  have h5 : (repCells z (m * z.length))[i] = z.getD (i % z.length) .dead := by simp [repCells]
  rw [h5, List.getD, List.getElem?_eq_getElem hm]
  exact (Option.some.inj h3).symm
/-- A row of m zero values. -/
theorem aOps_makeRow {P : Program} {w₀ : World} {ops rest : List Oper} {s : Slots} {h : AHeap} {K : Slots → AHeap → Prop} {dst : Option Tmp} {ty : TypeId} {pos : String} {af : Array Edge} {t e : TypeId} {x y : Operand} {m es by' : Nat} {z : Value} {zs : List AVal} {k₁ k₂ : IntKind}
    (ht : P.underlying t = some (.slice e)) (hs : szOf P e = some es) (hb : byOf P e = some by') (hz : zeOf P e = some z) (hzs : z.cells.size = es) (hza : z.cells.toList.map absS = zs) (hes : es ≠ 0) (hx : ev s x = .int k₁ m) (hy : ev s y = .int k₂ m) (h1 : (by' : Int) * m ≤ 281474976710656) (h2 : m ≤ 9223372036854775807)
    (hk : ∀ k, h k = none → aOps P w₀ ops rest (putD s dst (.slice (.own k) 0 m (.exact m))) (h.set k ⟨(List.replicate m zs).flatten, 0⟩) K) :
    aOps P w₀ ops (⟨dst, .makeSlice t x y, ty, pos, af, none⟩ :: rest) s h K := by
  rw [aOps_e]
  simp only [eop, eMake, hx, hy, ht, hs, hb, hz, intA]
  refine ⟨⟨by omega, by omega, h1, by omega, hzs, hes⟩, fun k hk' => ?_⟩
  have hl : zs.length = es := by rw [← hza, List.length_map, Array.length_toList, hzs]
  have e : repCells (z.cells.toList.map absS) ((m : Int).toNat * es) = (List.replicate m zs).flatten := by
    rw [hza, Int.toNat_natCast, ← hl]
    exact repCells_rows zs m (by omega)
  rw [e, Int.toNat_natCast]
  exact hk k hk'
end Go.AM
namespace Go.Prs
open Go.Col (Str digs)
theorem digs_few : ∀ (k n : Nat), n < 10 ^ (k + 1) → (digs n).length ≤ k + 1
  | 0, n, h => by rw [digs_small (by omega)]; simp
  | k + 1, n, h => by
    by_cases h1 : n < 10
    · rw [digs_small h1]; simp
    · rw [digs_big h1, List.length_append]
      have := digs_few k (n / 10) (by
        rw [Nat.pow_succ] at h
        omega)
      simp only [List.length_cons, List.length_nil]
      omega
theorem ord_any (l : List ItemP) : ordE l = !((List.range l.length).any fun j => badAt l j (l.getD j default)) := by
  unfold ordE
  rw [Bool.eq_iff_iff]
  simp
/-- The law's test, item by item. -/
def badTo (l : List ItemP) (i : Nat) : Int := if ((List.range i).any fun j => badAt l j (l.getD j default)) then 1 else 0
theorem badTo_step (l : List ItemP) (i : Nat) : badTo l (i + 1) = if badAt l i (l.getD i default) then 1 else badTo l i := by
  unfold badTo
  rw [List.range_succ, List.any_append]
  simp only [List.any_cons, List.any_nil, Bool.or_false]
  generalize ((List.range i).any fun j => badAt l j (l.getD j default)) = a
  generalize badAt l i (l.getD i default) = b
  cases a <;> cases b <;> rfl
theorem badTo_all (l : List ItemP) : badTo l l.length = if ordE l = false then 1 else 0 := by
  unfold badTo
  rw [ord_any]
  cases ((List.range l.length).any fun j => badAt l j (l.getD j default)) <;> rfl
theorem key_long {B : Nat} : ∀ {p : List Str}, (∀ s ∈ p, s.length ≤ B) → B ≤ 2000000 → (keyE p).length ≤ (B + 30) * p.length
  | [], _, _ => by simp [keyE]
  | s :: r, h, hB => by
    have h1 := h s List.mem_cons_self
    have h2 := key_long (fun z hz => h z (List.mem_cons_of_mem _ hz)) hB
    have h3 : (digs s.length).length ≤ 7 := digs_few 6 _ (by have : s.length ≤ B := h1; omega)
    have h4 : (keyE (s :: r)).length = (digs s.length).length + (s.length + 1) + (keyE r).length := by
      simp only [keyE, partE, List.length_append, List.length_cons]
    rw [h4, List.length_cons, Nat.mul_succ]
    have h1' : s.length ≤ B := h1
    omega
end Go.Prs
namespace Go.Proofs.YtgnebodlkfblcaaDoor
open Go.AM
open Go.Proofs
open Go.Col
open Go.Prs
set_option maxRecDepth 100000
theorem keys_long {l : List ItemP} (h : ∀ y ∈ l, y.name.length ≤ 1048576) (hl : l.length ≤ 30) (g : Int) : ∀ y ∈ pathsE l g true, (keyE y.2).length ≤ 140737488355328 := fun y hy => by
  have h1 := key_long (B := 1048576) (paths_names (P := fun s => s.length ≤ 1048576) h hy) (by decide)
  have h2 := paths_short hy
  omega
theorem of_check0 (x : List EntryP) : checkE (ofE x) 0 = 0 := by
  have h := (of_check x 0).1
  have e : groupE (ofE x) 0 = 0 := by
    unfold groupE
    rw [Nat.zero_mod]
    rfl
  rw [e] at h
  exact h
def paO (n : Int) (q : ItemP × ItemO) : ItemP × ItemO := ({ q.1 with parent := n }, q.2)
theorem paO_set {l : List (ItemP × ItemO)} {i : Nat} (hi : i < l.length) (n : Int) : (l.map itC).flatten.set (i * 22 + 2) (.int .i64 n) = ((l.set i (paO n (l.getD i default))).map itC).flatten := by
  have h1 := flat_set1 (es := 22) (AVal.int .i64 n) (xs := l.map itC) it_wide i 2 (by rw [List.length_map]; exact hi) (by decide)
  rw [h1, List.map_set]
  congr 2
  rw [List.getD, List.getElem?_map, List.getElem?_eq_getElem hi, List.getD, List.getElem?_eq_getElem hi]
  rfl
theorem aOps_storePar {P : Program} {w₀ : World} {ops rest : List Oper} {s : Slots} {H : AHeap} {K : Slots → AHeap → Prop} {dst : Option Tmp} {ty : TypeId} {pos : String} {af : Array Edge} {t : TypeId} {x y : Operand} {k i : Nat} {l : List (ItemP × ItemO)} {n : Int}
    (hx : ev s x = .ptr (.own k) (i * 22 + 2)) (hv : ev s y = .int .i64 n) (hb : H k = some ⟨(l.map itC).flatten, 0⟩) (hi : i < l.length) (hn : szOf P t = some 1)
    (hk : aOps P w₀ ops rest (putD s dst (.tuple [])) (H.set k ⟨((l.set i (paO n (l.getD i default))).map itC).flatten, 0⟩) K) :
    aOps P w₀ ops (⟨dst, .store t x y, ty, pos, af, none⟩ :: rest) s H K := by
  refine aOps_store hx hv hb hn rfl rfl ?_ (Nat.zero_le _) rfl ?_
  · simp only
    rw [flatten_len (es := 22) it_wide, List.length_map]
    omega
  · simp only [AVal.cells, setAt]
    rw [paO_set hi]
    exact hk
def zeroI : ItemP × ItemO := (⟨[], 0, 0, 0, 0, 0, 0⟩, default)
structure FarG where
  i : Nat
  H : AHeap
  l : List (ItemP × ItemO)
structure FarP (h : AHeap) (k11 k20 kr : Nat) (c11 : List AVal) (s : FarG) : Prop where
  i : s.i ≤ 2049
  sub : Sub h s.H
  bad : s.H k11 = some ⟨c11, 0⟩
  far : s.H k20 = some ⟨[.slice (.own kr) 0 2049 (.exact 2049), .int .i64 0, .int .i64 0], 0⟩
  row : s.H kr = some ⟨(s.l.map itC).flatten, 0⟩
  len : s.l.length = 2049
  all : ∀ q ∈ s.l, q.2.val = .nilSlice ∧ q.1.name = []

set_option maxHeartbeats 4000000 in
theorem l_Err22 (w₀ : World) (ht10 : Tab10 w₀) (h H : AHeap) (k11 : Nat) (sl : AVal) (sz n : Int) (l : List (ItemP × ItemO)) (hsl : sl.scal = true)
    (hs_H : Sub h H) (eb_11 : H k11 = some ⟨[sl, .int .i64 sz, .int .i64 n], 0⟩) (hL : IsL w₀ h 22 sl (l.map itC)) (hll : l.length ≤ 30) (hnm : ∀ x ∈ items l, x.name.length ≤ 1048576) (w : Int) (pv qv : AVal) (m1 m2 : Nat) (w4 : Int) (hlpv : pv.live = true) (hlqv : qv.live = true)
    (lp : ∀ H : AHeap, pLenH Tryd.prog H 30 pv = ⟨True, .int .i64 m1⟩) (lq : ∀ H : AHeap, pLenH Tryd.prog H 30 qv = ⟨True, .int .i64 m2⟩) (hc : w = 0 ∨ w ≠ 0 ∧ w4 = w ∧ m1 = 0 ∧ m2 = 0) :
    Awp Tryd.prog w₀ 191 (dropSeq 12 (bodyOf Tryd.f7)) (retA Tryd.prog w₀ [.tmp 6] (fun x h' => x = .bool true ∧ h' = h)) [(7, .int .i64 w), (11, .ptr (.own k11) 0), (12, pv), (13, .int .i64 w), (14, qv), (15, .int .i64 w), (17, .int .i64 w), (19, .int .i64 w4)] (H) := by
  have hlsl := hL.live
  have hinl := items_len l
  have hgl : ∀ g, GrpOk w₀ h sl g l := fun g => ⟨hL, by omega, keys_long hnm (by omega) g⟩
  change Awp _ _ _ (Code.seq _ _) _ _ _
  refine awp_seq ?_
  -- region 22  law.go:264
  refine awp_rseq [11, 156] (by kernel_rfl) fun K hK => ?_
  simp (decide := true) only [aOps_nil, vOps_nil, fOps_nil, kOps_nil, ev, absV, absS, putD, Slots.put, Slots.get, Slots.keep, if_true, if_false, List.contains_cons, List.contains_nil, true_and, and_true, ↓ap_move, pop_move, ↓ap_binOp, pop_binOp, isNilC_tmp, cond_false, pBinX_int, pI_neq, ↓ag_move, agP, agQ_some, gv, nthDst, gKnown_bool, gKnown_cond, guardB_cond, guardB_bool_true, guardB_bool_false, cv_cv, implies_true, Bool.not_not, decide_true, decide_false, Bool.not_false, Bool.not_true, condV_true, condV_false, forall_const, false_implies, pickV_true, pickV_false, Bool.and_true, Bool.and_false, Bool.true_and, Bool.false_and, Bool.or_true, Bool.or_false, Bool.true_or, Bool.false_or, agL_deadT, agL_deadF, agL_deadU, ↓ag_binOp, cv_binl, cv_binr, cp_binl, cp_binr, ↓ap_pick, pop_pick, pPick_bool, pickV_cond_l, pickV_cond_r, pickV_cond_rn, cp_nest1, cp_nest2, cp_nest3, cp_nest4, pickV_and, pickV_or, isNilC_int, ↓ag_len, pop_len, pLen_slice Tryd.underlying30, pLen_nil Tryd.underlying30, cv_len, cp_len, pI_add, pI_gtr, ↓ag_pick, cv_pick, cp_pick, rd_ne', ne_eq, not_false_eq_true, rd_own w₀ eb_11, lv_map, rd_any, AVal.cells, setAt, List.set_cons_zero, List.set_cons_succ, cellsAt, List.getD_cons_zero, List.getD_cons_succ, Nat.zero_add, Nat.reduceAdd, lv_bool, lv_int, lv_str, lv_nilPtr, lv_ptr, lv_nilSlice, lv_slice, lv_nilFunc, lv_func, lv_nilIface, lv_iface, lv_nilMap, lv_agg, lv_tuple, allLive, Bool.and_true, grpA, hlsl, hlpv, hlqv, lp, lq]
  try simp (disch := omega) only [wrap_i64, wrap_u8]
  repeat (with_reducible refine And.intro ?_ ?_; · first | trivial | omega | (intro hg; simp only [Bool.and_eq_true, Bool.or_eq_true, Bool.not_eq_true', Bool.and_eq_false_iff, Bool.or_eq_false_iff, Bool.not_eq_false', decide_eq_true_eq, decide_eq_false_iff_not, eqNil] at hg; omega) )
  apply hK; clear hK K
  refine awp_cond (b := _) rfl (fun hb1 => ?_) (fun hb1 => ?_)
  · try simp only [decide_eq_true_eq, decide_eq_false_iff_not, Bool.not_eq_true', Bool.not_eq_false', Bool.and_eq_true, Bool.and_eq_false_iff, Bool.or_eq_true, Bool.or_eq_false_iff, Bool.true_eq, Bool.false_eq, reduceCtorEq] at hb1
    exfalso
    rcases hc with e | ⟨e, e4, e1, e2⟩
    · exact hb1.1 e
    · subst e1 e2
      rcases hb1.2 with q | q
      · exact q e4
      · rw [wrap_i64 (by omega) (by omega)] at q
        omega
  · try simp only [decide_eq_true_eq, decide_eq_false_iff_not, Bool.not_eq_true', Bool.not_eq_false', Bool.and_eq_true, Bool.and_eq_false_iff, Bool.or_eq_true, Bool.or_eq_false_iff, Bool.true_eq, Bool.false_eq, reduceCtorEq] at hb1
    refine awp_skip ?_
    change Awp _ _ _ _ _ _ _
    -- region 24  law.go:267
    refine awp_rseq [11, 20] (by rfl) fun K hK => ?_
    refine aOps_makeRow (m := 2049) (zs := itC zeroI) Tryd.underlying25 sz44 by44 ze44 (by rfl) (by rfl) (by decide) (by rfl) (by rfl) (by decide) (by decide) fun k24q0 hk24q0 => ?_
    have hn_24q0 : H k24q0 = none := by first | assumption | (simp only [AHeap.set_none] at hk24q0; simp only [hk24q0])
    have hf_24q0 : h k24q0 = none := Sub.none hs_H hn_24q0
    have ne_24q0_11 : k24q0 ≠ k11 := AHeap.ne_some hn_24q0 eb_11
    simp (decide := true) only [aOps_nil, vOps_nil, fOps_nil, kOps_nil, ev, absV, absS, putD, Slots.put, Slots.get, Slots.keep, if_true, if_false, List.contains_cons, List.contains_nil, true_and, and_true, ↓ap_build, pop_build, ↓pop_buildL, bld27_0, evP, List.map_cons, List.map_nil, Sc_slice, Sc_nilSlice, Sc_nilPtr, Sc_ptr, Sc_nilFunc, Sc_func, Sc_nilMap, bld35_0, rd_ne', ne_eq, not_false_eq_true, ne_24q0_11, ne_24q0_11.symm, rd_own w₀ eb_11, lv_map, rd_any, AVal.cells, setAt, List.set_cons_zero, List.set_cons_succ, cellsAt, List.getD_cons_zero, List.getD_cons_succ, Nat.zero_add, Nat.reduceAdd, lv_bool, lv_int, lv_str, lv_nilPtr, lv_ptr, lv_nilSlice, lv_slice, lv_nilFunc, lv_func, lv_nilIface, lv_iface, lv_nilMap, lv_agg, lv_tuple, allLive, Bool.and_true, grpA, hlsl, hlpv, hlqv, lp, lq]
    repeat (with_reducible refine And.intro ?_ ?_; · first | trivial | omega | (intro hg; simp only [Bool.and_eq_true, Bool.or_eq_true, Bool.not_eq_true', Bool.and_eq_false_iff, Bool.or_eq_false_iff, Bool.not_eq_false', decide_eq_true_eq, decide_eq_false_iff_not, eqNil] at hg; omega) )
    refine aOps_alloc ze35 (cs := [.nilSlice, .int .i64 0, .int .i64 0]) (by rfl) fun k24q3 hk24q3 => ?_
    have ne_24q3_24q0 : k24q3 ≠ k24q0 := by simp only [AHeap.set_none] at hk24q3; simp only [hk24q3, ne_eq, not_false_eq_true]
    have hn_24q3 : H k24q3 = none := by first | assumption | (simp only [AHeap.set_none] at hk24q3; simp only [hk24q3])
    have hf_24q3 : h k24q3 = none := Sub.none hs_H hn_24q3
    have ne_24q3_11 : k24q3 ≠ k11 := AHeap.ne_some hn_24q3 eb_11
    refine aOps_store (by rfl) (by rfl) (by repeat (first | exact AHeap.set_same _ _ _ | assumption | refine (AHeap.set_ne _ _ (by first | assumption | exact Ne.symm (by assumption))).trans ?_)) sz35 (by rfl) (by rfl) (by first | exact Nat.le_refl _ | decide | (simp; done) | (simp; omega)) (Nat.zero_le _) (by first | rfl | (simp (decide := true) only [ev, putD, Slots.put, Slots.get, if_true, if_false, AVal.cells, allScal, Bool.and_true, Bool.true_and, hsl, sc_slice, sc_int, sc_str])) ?_
    simp only [AHeap.set_set, setAt, AVal.cells, List.set_cons_zero, List.set_cons_succ, Nat.zero_add, Nat.reduceAdd]
    simp (decide := true) only [aOps_nil, vOps_nil, fOps_nil, kOps_nil, ev, absV, absS, putD, Slots.put, Slots.get, Slots.keep, if_true, if_false, List.contains_cons, List.contains_nil, true_and, and_true, rd_ne', ne_eq, not_false_eq_true, ne_24q0_11, ne_24q0_11.symm, ne_24q3_24q0, ne_24q3_24q0.symm, ne_24q3_11, ne_24q3_11.symm, rd_own w₀ eb_11, lv_map, rd_any, AVal.cells, setAt, List.set_cons_zero, List.set_cons_succ, cellsAt, List.getD_cons_zero, List.getD_cons_succ, Nat.zero_add, Nat.reduceAdd, lv_bool, lv_int, lv_str, lv_nilPtr, lv_ptr, lv_nilSlice, lv_slice, lv_nilFunc, lv_func, lv_nilIface, lv_iface, lv_nilMap, lv_agg, lv_tuple, allLive, Bool.and_true, grpA, hlsl, hlpv, hlqv, lp, lq]
    repeat (with_reducible refine And.intro ?_ ?_; · first | trivial | omega | (intro hg; simp only [Bool.and_eq_true, Bool.or_eq_true, Bool.not_eq_true', Bool.and_eq_false_iff, Bool.or_eq_false_iff, Bool.not_eq_false', decide_eq_true_eq, decide_eq_false_iff_not, eqNil] at hg; omega) )
    apply hK; clear hK K
    refine awp_seq ?_
    have hst : FarP h k11 k24q3 k24q0 [sl, .int .i64 sz, .int .i64 n] ⟨0, (H.set k24q0 ⟨(List.replicate 2049 (itC zeroI)).flatten, 0⟩).set k24q3 ⟨[.slice (.own k24q0) 0 2049 (.exact 2049), .int .i64 0, .int .i64 0], 0⟩, List.replicate 2049 zeroI⟩ := by
     refine ⟨Nat.zero_le _, (by repeat (first | exact Sub.refl _ | assumption | refine Sub.set_both ?_ _ _ | refine Sub.trans_set ?_ (by repeat (first | assumption | refine (AHeap.set_ne _ _ (by first | assumption | exact Ne.symm (by assumption))).trans ?_)))), (by repeat (first | exact AHeap.set_same _ _ _ | assumption | refine (AHeap.set_ne _ _ (by first | assumption | exact Ne.symm (by assumption))).trans ?_)), AHeap.set_same _ _ _, ?_, List.length_replicate, fun q hq => ?_⟩
     · simp only [List.map_replicate]
       rw [AHeap.set_ne _ _ ne_24q3_24q0.symm, AHeap.set_same]
     · rw [(List.mem_replicate.1 hq).2]
       exact ⟨rfl, rfl⟩
    -- region 25  law.go:268
    refine awp_rseq [11, 20, 21] (by rfl) fun K hK => ?_
    simp (decide := true) only [aOps_nil, vOps_nil, fOps_nil, kOps_nil, ev, absV, absS, putD, Slots.put, Slots.get, Slots.keep, if_true, if_false, List.contains_cons, List.contains_nil, true_and, and_true, ↓ap_assign, pop_assign, rd_ne', ne_eq, not_false_eq_true, ne_24q0_11, ne_24q0_11.symm, ne_24q3_24q0, ne_24q3_24q0.symm, ne_24q3_11, ne_24q3_11.symm, rd_own w₀ eb_11, lv_map, rd_any, AVal.cells, setAt, List.set_cons_zero, List.set_cons_succ, cellsAt, List.getD_cons_zero, List.getD_cons_succ, Nat.zero_add, Nat.reduceAdd, lv_bool, lv_int, lv_str, lv_nilPtr, lv_ptr, lv_nilSlice, lv_slice, lv_nilFunc, lv_func, lv_nilIface, lv_iface, lv_nilMap, lv_agg, lv_tuple, allLive, Bool.and_true, grpA, hlsl, hlpv, hlqv, lp, lq]
    repeat (with_reducible refine And.intro ?_ ?_; · first | trivial | omega | (intro hg; simp only [Bool.and_eq_true, Bool.or_eq_true, Bool.not_eq_true', Bool.and_eq_false_iff, Bool.or_eq_false_iff, Bool.not_eq_false', decide_eq_true_eq, decide_eq_false_iff_not, eqNil] at hg; omega) )
    apply hK; clear hK K
    refine awp_block ?_
    refine awp_loopG [11, 20, 21] (fun g : FarG => [(11, .ptr (.own k11) 0), (20, .ptr (.own k24q3) 0), (21, .int .i64 g.i)]) (fun g : FarG => g.H) (fun g : FarG => FarP h k11 k24q3 k24q0 [sl, .int .i64 sz, .int .i64 n] g) (fun g : FarG => 2049 - g.i) ⟨0, _, List.replicate 2049 zeroI⟩ (by rfl) (Sub.refl _) hst ?_
    rintro ⟨i, G, lf⟩ hok
    obtain ⟨hi, hs_G, eb_11, eb_24q3, eb_24q0, hlf, hal⟩ := id hok
    simp only at hi hs_G eb_11 eb_24q3 eb_24q0 hlf hal ⊢
    refine awp_seq ?_
    -- region 26  law.go:268
    refine awp_rseq [11, 20, 21, 161] (by rfl) fun K hK => ?_
    simp (decide := true) only [aOps_nil, vOps_nil, fOps_nil, kOps_nil, ev, absV, absS, putD, Slots.put, Slots.get, Slots.keep, if_true, if_false, List.contains_cons, List.contains_nil, true_and, and_true, ↓ap_move, pop_move, ↓ap_binOp, pop_binOp, isNilC_int, cond_false, pBinX_int, pI_lss, rd_ne', ne_eq, not_false_eq_true, rd_own w₀ eb_11, rd_own w₀ eb_24q3, rd_own w₀ eb_24q0, ne_24q0_11, ne_24q0_11.symm, ne_24q3_24q0, ne_24q3_24q0.symm, ne_24q3_11, ne_24q3_11.symm, lv_map, rd_any, AVal.cells, setAt, List.set_cons_zero, List.set_cons_succ, cellsAt, List.getD_cons_zero, List.getD_cons_succ, Nat.zero_add, Nat.reduceAdd, lv_bool, lv_int, lv_str, lv_nilPtr, lv_ptr, lv_nilSlice, lv_slice, lv_nilFunc, lv_func, lv_nilIface, lv_iface, lv_nilMap, lv_agg, lv_tuple, allLive, Bool.and_true, grpA, hlsl, hlpv, hlqv, lp, lq]
    repeat (with_reducible refine And.intro ?_ ?_; · first | trivial | omega | (intro hg; simp only [Bool.and_eq_true, Bool.or_eq_true, Bool.not_eq_true', Bool.and_eq_false_iff, Bool.or_eq_false_iff, Bool.not_eq_false', decide_eq_true_eq, decide_eq_false_iff_not, eqNil] at hg; omega) )
    apply hK; clear hK K
    refine awp_cond (b := _) rfl (fun hb2 => ?_) (fun hb2 => ?_)
    · try simp only [decide_eq_true_eq, decide_eq_false_iff_not, Bool.not_eq_true', Bool.not_eq_false', Bool.and_eq_true, Bool.and_eq_false_iff, Bool.or_eq_true, Bool.or_eq_false_iff, Bool.true_eq, Bool.false_eq, reduceCtorEq] at hb2
      have hi' : i < lf.length := by omega
      refine awp_skip ?_
      change Awp _ _ _ _ _ _ _
      refine awp_seq ?_
      refine awp_block ?_
      -- region 28  law.go:269
      refine awp_r [11, 20, 21] (by rfl) ?_
      simp (decide := true) only [aOps_nil, vOps_nil, fOps_nil, kOps_nil, ev, absV, absS, putD, Slots.put, Slots.get, Slots.keep, if_true, if_false, List.contains_cons, List.contains_nil, true_and, and_true, ↓ap_fieldAddr, pop_fieldAddr, fa35_0, fa27_0, ↓ap_loadL, apL_mk, pLoad_one ag25, ↓ap_move, pop_move, ↓ap_indexAddrL, pIndexAddr_slice Tryd.underlying25 sz44, fa44_2, rd_ne', ne_eq, not_false_eq_true, rd_own w₀ eb_11, rd_own w₀ eb_24q3, rd_own w₀ eb_24q0, ne_24q0_11, ne_24q0_11.symm, ne_24q3_24q0, ne_24q3_24q0.symm, ne_24q3_11, ne_24q3_11.symm, lv_map, rd_any, AVal.cells, setAt, List.set_cons_zero, List.set_cons_succ, cellsAt, List.getD_cons_zero, List.getD_cons_succ, Nat.zero_add, Nat.reduceAdd, lv_bool, lv_int, lv_str, lv_nilPtr, lv_ptr, lv_nilSlice, lv_slice, lv_nilFunc, lv_func, lv_nilIface, lv_iface, lv_nilMap, lv_agg, lv_tuple, allLive, Bool.and_true, grpA, hlsl, hlpv, hlqv, lp, lq, Int.toNat_natCast]
      repeat (with_reducible refine And.intro ?_ ?_; · first | trivial | omega | (intro hg; simp only [Bool.and_eq_true, Bool.or_eq_true, Bool.not_eq_true', Bool.and_eq_false_iff, Bool.or_eq_false_iff, Bool.not_eq_false', decide_eq_true_eq, decide_eq_false_iff_not, eqNil] at hg; omega) )
      refine aOps_storePar (l := lf) (i := i) (n := -1) (by rfl) (by rfl) eb_24q0 hi' sz3 ?_
      simp (decide := true) only [aOps_nil, vOps_nil, fOps_nil, kOps_nil, ev, absV, absS, putD, Slots.put, Slots.get, Slots.keep, if_true, if_false, List.contains_cons, List.contains_nil, true_and, and_true, rd_ne', ne_eq, not_false_eq_true, rd_own w₀ eb_11, rd_own w₀ eb_24q3, rd_own w₀ eb_24q0, ne_24q0_11, ne_24q0_11.symm, ne_24q3_24q0, ne_24q3_24q0.symm, ne_24q3_11, ne_24q3_11.symm, lv_map, rd_any, AVal.cells, setAt, List.set_cons_zero, List.set_cons_succ, cellsAt, List.getD_cons_zero, List.getD_cons_succ, Nat.zero_add, Nat.reduceAdd, lv_bool, lv_int, lv_str, lv_nilPtr, lv_ptr, lv_nilSlice, lv_slice, lv_nilFunc, lv_func, lv_nilIface, lv_iface, lv_nilMap, lv_agg, lv_tuple, allLive, Bool.and_true, grpA, hlsl, hlpv, hlqv, lp, lq, Int.toNat_natCast]
      repeat (with_reducible refine And.intro ?_ ?_; · first | trivial | omega | (intro hg; simp only [Bool.and_eq_true, Bool.or_eq_true, Bool.not_eq_true', Bool.and_eq_false_iff, Bool.or_eq_false_iff, Bool.not_eq_false', decide_eq_true_eq, decide_eq_false_iff_not, eqNil] at hg; omega) )
      change Awp _ _ _ _ _ _ _
      -- region 27  law.go:268
      refine awp_r [11, 20, 21] (by rfl) ?_
      simp (decide := true) only [aOps_nil, vOps_nil, fOps_nil, kOps_nil, ev, absV, absS, putD, Slots.put, Slots.get, Slots.keep, if_true, if_false, List.contains_cons, List.contains_nil, true_and, and_true, ↓ap_move, pop_move, ↓ap_binOp, pop_binOp, isNilC_int, cond_false, pBinX_int, pI_add, ↓ap_assign, pop_assign, rd_ne', ne_eq, not_false_eq_true, rd_own w₀ eb_11, rd_own w₀ eb_24q3, rd_own w₀ eb_24q0, ne_24q0_11, ne_24q0_11.symm, ne_24q3_24q0, ne_24q3_24q0.symm, ne_24q3_11, ne_24q3_11.symm, lv_map, rd_any, AVal.cells, setAt, List.set_cons_zero, List.set_cons_succ, cellsAt, List.getD_cons_zero, List.getD_cons_succ, Nat.zero_add, Nat.reduceAdd, lv_bool, lv_int, lv_str, lv_nilPtr, lv_ptr, lv_nilSlice, lv_slice, lv_nilFunc, lv_func, lv_nilIface, lv_iface, lv_nilMap, lv_agg, lv_tuple, allLive, Bool.and_true, grpA, hlsl, hlpv, hlqv, lp, lq]
      try simp (disch := omega) only [wrap_i64, wrap_u8]
      repeat (with_reducible refine And.intro ?_ ?_; · first | trivial | omega | (intro hg; simp only [Bool.and_eq_true, Bool.or_eq_true, Bool.not_eq_true', Bool.and_eq_false_iff, Bool.or_eq_false_iff, Bool.not_eq_false', decide_eq_true_eq, decide_eq_false_iff_not, eqNil] at hg; omega) )
      try simp only [thenA_normal, inBlockA_normal]
      refine ⟨⟨i + 1, _, lf.set i (paO (-1) (lf.getD i default))⟩, rfl, Sub.refl _, ⟨by simp only; omega, Sub.set_off hs_G hf_24q0 _, (AHeap.set_ne _ _ ne_24q0_11.symm).trans eb_11, (AHeap.set_ne _ _ ne_24q3_24q0).trans eb_24q3, AHeap.set_same _ _ _, by simp only [List.length_set]; exact hlf, fun q hq => ?_⟩, by simp only; omega⟩
      rcases List.mem_or_eq_of_mem_set hq with e | e
      · exact hal q e
      · rw [e]
        refine hal (lf.getD i default) ?_
        rw [List.getD, List.getElem?_eq_getElem hi']
        exact List.getElem_mem hi'
    · try simp only [decide_eq_true_eq, decide_eq_false_iff_not, Bool.not_eq_true', Bool.not_eq_false', Bool.and_eq_true, Bool.and_eq_false_iff, Bool.or_eq_true, Bool.or_eq_false_iff, Bool.true_eq, Bool.false_eq, reduceCtorEq] at hb2
      refine awp_exit ?_
      change Awp _ _ _ _ _ _ _
      have hrow : IsL w₀ G 22 (.slice (.own k24q0) 0 2049 (.exact 2049)) (lf.map itC) := by
       have := IsL.own (w₀ := w₀) (xs := lf.map itC) eb_24q0 it_wide rfl (row_live fun q hq => (hal q hq).1).1 (.exact 2049) (by simp only [List.length_map]; omega)
       rwa [List.length_map, hlf] at this
      have hfl : (items lf).length = 2049 := by rw [items_len, hlf]
      have hgf : GrpOk w₀ G (.slice (.own k24q0) 0 2049 (.exact 2049)) 0 lf := ⟨hrow, by omega, keys_small (fun y hy => by
       obtain ⟨q, hq, rfl⟩ := List.mem_map.1 hy
       rw [(hal q hq).2]
       exact Nat.zero_le _) (by omega) 0⟩
      have hbad : checkE (items lf) 0 = 1 := check_far (by omega) 0
      -- region 29  law.go:271
      refine awp_rseq [11, 23] (by rfl) fun K hK => ?_
      simp (decide := true) only [aOps_nil, vOps_nil, fOps_nil, kOps_nil, ev, absV, absS, putD, Slots.put, Slots.get, Slots.keep, if_true, if_false, List.contains_cons, List.contains_nil, true_and, and_true, ↓ap_loadL, apL_mk, pLoad_agg ag35 sz35, rd_ne', ne_eq, not_false_eq_true, rd_own w₀ eb_11, rd_own w₀ eb_24q3, rd_own w₀ eb_24q0, ne_24q0_11, ne_24q0_11.symm, ne_24q3_24q0, ne_24q3_24q0.symm, ne_24q3_11, ne_24q3_11.symm, lv_map, rd_any, AVal.cells, setAt, List.set_cons_zero, List.set_cons_succ, cellsAt, List.getD_cons_zero, List.getD_cons_succ, Nat.zero_add, Nat.reduceAdd, lv_bool, lv_int, lv_str, lv_nilPtr, lv_ptr, lv_nilSlice, lv_slice, lv_nilFunc, lv_func, lv_nilIface, lv_iface, lv_nilMap, lv_agg, lv_tuple, allLive, Bool.and_true, grpA, hlsl, hlpv, hlqv, lp, lq]
      repeat (with_reducible refine And.intro ?_ ?_; · first | trivial | omega | (intro hg; simp only [Bool.and_eq_true, Bool.or_eq_true, Bool.not_eq_true', Bool.and_eq_false_iff, Bool.or_eq_false_iff, Bool.not_eq_false', decide_eq_true_eq, decide_eq_false_iff_not, eqNil] at hg; omega) )
      refine aOps_call (by rfl) (by rfl) (c_Pairs w₀ ht10 _ (.slice (.own k24q0) 0 2049 (.exact 2049)) sl 0 sz 0 n lf l (hgf.mono (by repeat (first | exact Sub.refl _ | assumption | refine Sub.set_both ?_ _ _ | refine Sub.trans_set ?_ (by repeat (first | assumption | refine (AHeap.set_ne _ _ (by first | assumption | exact Ne.symm (by assumption))).trans ?_))))) ((hgl _).mono (by repeat (first | exact Sub.refl _ | assumption | refine Sub.set_both ?_ _ _ | refine Sub.trans_set ?_ (by repeat (first | assumption | refine (AHeap.set_ne _ _ (by first | assumption | exact Ne.symm (by assumption))).trans ?_)))))) fun x29q2 h29q2 hx29q2 => ?_
      obtain ⟨fv, rfl, hfv, -, hs29⟩ := hx29q2
      rw [among_bad hbad] at hfv ⊢
      have hlfv := hfv.live
      have hs_h29q2 : Sub h h29q2 := Sub.trans (by repeat (first | exact Sub.refl _ | assumption | refine Sub.trans_set ?_ (by assumption))) hs29
      have hr_h29q2 : Sub G h29q2 := Sub.trans (by repeat (first | exact Sub.refl _ | assumption | refine Sub.trans_set ?_ (by assumption))) hs29
      have eb_11 := hs29 k11 _ (by repeat (first | exact AHeap.set_same _ _ _ | assumption | refine (AHeap.set_ne _ _ (by first | assumption | exact Ne.symm (by assumption))).trans ?_))
      have eb_24q3 := hs29 k24q3 _ (by repeat (first | exact AHeap.set_same _ _ _ | assumption | refine (AHeap.set_ne _ _ (by first | assumption | exact Ne.symm (by assumption))).trans ?_))
      have eb_24q0 := hs29 k24q0 _ (by repeat (first | exact AHeap.set_same _ _ _ | assumption | refine (AHeap.set_ne _ _ (by first | assumption | exact Ne.symm (by assumption))).trans ?_))
      simp (decide := true) only [aOps_nil, vOps_nil, fOps_nil, kOps_nil, ev, absV, absS, putD, Slots.put, Slots.get, Slots.keep, if_true, if_false, List.contains_cons, List.contains_nil, true_and, and_true, ↓ap_move, pop_move, ↓ap_extract, pop_extract, pExt_tuple, List.length_cons, List.length_nil, List.getD_cons_zero, List.getD_cons_succ, ↓ap_assign, pop_assign, rd_ne', ne_eq, not_false_eq_true, rd_own w₀ eb_11, rd_own w₀ eb_24q3, rd_own w₀ eb_24q0, ne_24q0_11, ne_24q0_11.symm, ne_24q3_24q0, ne_24q3_24q0.symm, ne_24q3_11, ne_24q3_11.symm, lv_map, rd_any, AVal.cells, setAt, List.set_cons_zero, List.set_cons_succ, cellsAt, List.getD_cons_zero, List.getD_cons_succ, Nat.zero_add, Nat.reduceAdd, lv_bool, lv_int, lv_str, lv_nilPtr, lv_ptr, lv_nilSlice, lv_slice, lv_nilFunc, lv_func, lv_nilIface, lv_iface, lv_nilMap, lv_agg, lv_tuple, allLive, Bool.and_true, grpA, hlsl, hlpv, hlqv, lp, lq, hlfv]
      repeat (with_reducible refine And.intro ?_ ?_; · first | trivial | omega | (intro hg; simp only [Bool.and_eq_true, Bool.or_eq_true, Bool.not_eq_true', Bool.and_eq_false_iff, Bool.or_eq_false_iff, Bool.not_eq_false', decide_eq_true_eq, decide_eq_false_iff_not, eqNil] at hg; omega) )
      apply hK; clear hK K
      -- region 30  law.go:272
      refine awp_rseq [23, 25] (by rfl) fun K hK => ?_
      simp (decide := true) only [aOps_nil, vOps_nil, fOps_nil, kOps_nil, ev, absV, absS, putD, Slots.put, Slots.get, Slots.keep, if_true, if_false, List.contains_cons, List.contains_nil, true_and, and_true, ↓ap_build, pop_build, ↓pop_buildL, bld35_, evP, List.map_cons, List.map_nil, Sc_slice, Sc_nilSlice, Sc_nilPtr, Sc_ptr, Sc_nilFunc, Sc_func, Sc_nilMap, ↓ap_loadL, apL_mk, pLoad_agg ag35 sz35, rd_ne', ne_eq, not_false_eq_true, rd_own w₀ eb_11, rd_own w₀ eb_24q3, rd_own w₀ eb_24q0, ne_24q0_11, ne_24q0_11.symm, ne_24q3_24q0, ne_24q3_24q0.symm, ne_24q3_11, ne_24q3_11.symm, lv_map, rd_any, AVal.cells, setAt, List.set_cons_zero, List.set_cons_succ, cellsAt, List.getD_cons_zero, List.getD_cons_succ, Nat.zero_add, Nat.reduceAdd, lv_bool, lv_int, lv_str, lv_nilPtr, lv_ptr, lv_nilSlice, lv_slice, lv_nilFunc, lv_func, lv_nilIface, lv_iface, lv_nilMap, lv_agg, lv_tuple, allLive, Bool.and_true, grpA, hlsl, hlpv, hlqv, lp, lq]
      repeat (with_reducible refine And.intro ?_ ?_; · first | trivial | omega | (intro hg; simp only [Bool.and_eq_true, Bool.or_eq_true, Bool.not_eq_true', Bool.and_eq_false_iff, Bool.or_eq_false_iff, Bool.not_eq_false', decide_eq_true_eq, decide_eq_false_iff_not, eqNil] at hg; omega) )
      refine aOps_call (by rfl) (by rfl) (c_Pairs w₀ ht10 _ .nilSlice sl 0 sz 0 n [] l ⟨.nil, Nat.zero_le _, fun y hy => by cases hy⟩ ((hgl _).mono hs_h29q2)) fun x30q2 h30q2 hx30q2 => ?_
      obtain ⟨zv, rfl, hzv, -, hs30⟩ := hx30q2
      rw [among_bad (la := items []) (show checkE (items []) 0 = 1 from check_nil 0)] at hzv ⊢
      have hlzv := hzv.live
      have hs_h30q2 : Sub h h30q2 := Sub.trans (by repeat (first | exact Sub.refl _ | assumption | refine Sub.trans_set ?_ (by assumption))) hs30
      have hr_h30q2 : Sub h29q2 h30q2 := Sub.trans (by repeat (first | exact Sub.refl _ | assumption | refine Sub.trans_set ?_ (by assumption))) hs30
      have eb_11 := hs30 k11 _ (by repeat (first | exact AHeap.set_same _ _ _ | assumption | refine (AHeap.set_ne _ _ (by first | assumption | exact Ne.symm (by assumption))).trans ?_))
      have eb_24q3 := hs30 k24q3 _ (by repeat (first | exact AHeap.set_same _ _ _ | assumption | refine (AHeap.set_ne _ _ (by first | assumption | exact Ne.symm (by assumption))).trans ?_))
      have eb_24q0 := hs30 k24q0 _ (by repeat (first | exact AHeap.set_same _ _ _ | assumption | refine (AHeap.set_ne _ _ (by first | assumption | exact Ne.symm (by assumption))).trans ?_))
      simp (decide := true) only [aOps_nil, vOps_nil, fOps_nil, kOps_nil, ev, absV, absS, putD, Slots.put, Slots.get, Slots.keep, if_true, if_false, List.contains_cons, List.contains_nil, true_and, and_true, ↓ap_move, pop_move, ↓ap_extract, pop_extract, pExt_tuple, List.length_cons, List.length_nil, List.getD_cons_zero, List.getD_cons_succ, ↓ap_assign, pop_assign, rd_ne', ne_eq, not_false_eq_true, rd_own w₀ eb_11, rd_own w₀ eb_24q3, rd_own w₀ eb_24q0, ne_24q0_11, ne_24q0_11.symm, ne_24q3_24q0, ne_24q3_24q0.symm, ne_24q3_11, ne_24q3_11.symm, lv_map, rd_any, AVal.cells, setAt, List.set_cons_zero, List.set_cons_succ, cellsAt, List.getD_cons_zero, List.getD_cons_succ, Nat.zero_add, Nat.reduceAdd, lv_bool, lv_int, lv_str, lv_nilPtr, lv_ptr, lv_nilSlice, lv_slice, lv_nilFunc, lv_func, lv_nilIface, lv_iface, lv_nilMap, lv_agg, lv_tuple, allLive, Bool.and_true, grpA, hlsl, hlpv, hlqv, lp, lq, hlzv]
      repeat (with_reducible refine And.intro ?_ ?_; · first | trivial | omega | (intro hg; simp only [Bool.and_eq_true, Bool.or_eq_true, Bool.not_eq_true', Bool.and_eq_false_iff, Bool.or_eq_false_iff, Bool.not_eq_false', decide_eq_true_eq, decide_eq_false_iff_not, eqNil] at hg; omega) )
      apply hK; clear hK K
      -- region 31  law.go:273
      refine awp_rseq [6] (by rfl) fun K hK => ?_
      simp (decide := true) only [aOps_nil, vOps_nil, fOps_nil, kOps_nil, ev, absV, absS, putD, Slots.put, Slots.get, Slots.keep, if_true, if_false, List.contains_cons, List.contains_nil, true_and, and_true, ↓ap_move, pop_move, ↓ap_binOp, pop_binOp, isNilC_int, cond_false, pBinX_int, pI_eql, ↓ag_move, agP, agQ_some, gv, nthDst, gKnown_bool, gKnown_cond, guardB_cond, guardB_bool_true, guardB_bool_false, cv_cv, implies_true, Bool.not_not, decide_true, decide_false, Bool.not_false, Bool.not_true, condV_true, condV_false, forall_const, false_implies, pickV_true, pickV_false, Bool.and_true, Bool.and_false, Bool.true_and, Bool.false_and, Bool.or_true, Bool.or_false, Bool.true_or, Bool.false_or, agL_deadT, agL_deadF, agL_deadU, ↓ag_binOp, cv_binl, cv_binr, cp_binl, cp_binr, ↓ap_pick, pop_pick, pPick_bool, pickV_cond_l, pickV_cond_r, pickV_cond_rn, cp_nest1, cp_nest2, cp_nest3, cp_nest4, pickV_and, pickV_or, rd_ne', ne_eq, not_false_eq_true, rd_own w₀ eb_11, rd_own w₀ eb_24q3, rd_own w₀ eb_24q0, ne_24q0_11, ne_24q0_11.symm, ne_24q3_24q0, ne_24q3_24q0.symm, ne_24q3_11, ne_24q3_11.symm, lv_map, rd_any, AVal.cells, setAt, List.set_cons_zero, List.set_cons_succ, cellsAt, List.getD_cons_zero, List.getD_cons_succ, Nat.zero_add, Nat.reduceAdd, lv_bool, lv_int, lv_str, lv_nilPtr, lv_ptr, lv_nilSlice, lv_slice, lv_nilFunc, lv_func, lv_nilIface, lv_iface, lv_nilMap, lv_agg, lv_tuple, allLive, Bool.and_true, grpA, hlsl, hlpv, hlqv, lp, lq]
      repeat (with_reducible refine And.intro ?_ ?_; · first | trivial | omega | (intro hg; simp only [Bool.and_eq_true, Bool.or_eq_true, Bool.not_eq_true', Bool.and_eq_false_iff, Bool.or_eq_false_iff, Bool.not_eq_false', decide_eq_true_eq, decide_eq_false_iff_not, eqNil] at hg; omega) )
      first
      | (refine aOps_yes (by rfl) ?_; refine aOps_callV (V := .bool true) (by rfl) (by rfl) (c_lives w₀ ht10 _) ?_)
      | (refine aOps_no (by rfl) (by rfl) ?_)
      | (refine aOps_gcall (V := .bool true) (f := _) (cap := _) (xs := _) (by first | rfl | (simp (decide := true) only [gv, nthDst, Slots.get, if_true, if_false, gKnown_cond, gKnown_bool])) (fun hg => ⟨rfl, ?_⟩) (fun hg => c_lives w₀ ht10 _) ?_; · (simp (decide := true) only [gv, nthDst, putD, Slots.put, Slots.get, if_true, if_false, guardB_bool_true, guardB_bool_false, guardB_cond, Bool.not_not] at hg; simp (decide := true) only [evs, ev, putD, Slots.put, Slots.get, if_true, if_false, hg, condV_true, List.append_nil, List.map_cons, List.map_nil, absV, absS] <;> try rfl))
      simp (decide := true) only [aOps_nil, vOps_nil, fOps_nil, kOps_nil, ev, absV, absS, putD, Slots.put, Slots.get, Slots.keep, if_true, if_false, List.contains_cons, List.contains_nil, true_and, and_true, gv, nthDst, guardB_bool_true, guardB_bool_false, guardB_cond, ↓ap_pick, pop_pick, pPick_bool, pickV_cond_l, pickV_cond_r, pickV_cond_rn, cp_nest1, cp_nest2, cp_nest3, cp_nest4, pickV_and, pickV_or, ↓ap_assign, pop_assign, rd_ne', ne_eq, not_false_eq_true, rd_own w₀ eb_11, rd_own w₀ eb_24q3, rd_own w₀ eb_24q0, ne_24q0_11, ne_24q0_11.symm, ne_24q3_24q0, ne_24q3_24q0.symm, ne_24q3_11, ne_24q3_11.symm, lv_map, rd_any, AVal.cells, setAt, List.set_cons_zero, List.set_cons_succ, cellsAt, List.getD_cons_zero, List.getD_cons_succ, Nat.zero_add, Nat.reduceAdd, lv_bool, lv_int, lv_str, lv_nilPtr, lv_ptr, lv_nilSlice, lv_slice, lv_nilFunc, lv_func, lv_nilIface, lv_iface, lv_nilMap, lv_agg, lv_tuple, allLive, Bool.and_true, grpA, hlsl, hlpv, hlqv, lp, lq]
      repeat (with_reducible refine And.intro ?_ ?_; · first | trivial | omega | (intro hg; simp only [Bool.and_eq_true, Bool.or_eq_true, Bool.not_eq_true', Bool.and_eq_false_iff, Bool.or_eq_false_iff, Bool.not_eq_false', decide_eq_true_eq, decide_eq_false_iff_not, eqNil] at hg; omega) )
      apply hK; clear hK K
      refine awp_ret ?_
      try simp only [thenA_ret, inBlockA_ret]
      refine retA_ret h (by repeat (first | exact Sub.refl _ | assumption | refine Sub.trans_set ?_ (by assumption))) (resPre_tmp (resPre_nil)) ?_
      simp (decide := true) only [aOps_nil, vOps_nil, fOps_nil, kOps_nil, ev, absV, absS, putD, Slots.put, Slots.get, Slots.keep, if_true, if_false, List.contains_cons, List.contains_nil, true_and, and_true, resOf_one, rd_ne', ne_eq, not_false_eq_true, rd_own w₀ eb_11, rd_own w₀ eb_24q3, rd_own w₀ eb_24q0, ne_24q0_11, ne_24q0_11.symm, ne_24q3_24q0, ne_24q3_24q0.symm, ne_24q3_11, ne_24q3_11.symm, lv_map, rd_any, AVal.cells, setAt, List.set_cons_zero, List.set_cons_succ, cellsAt, List.getD_cons_zero, List.getD_cons_succ, Nat.zero_add, Nat.reduceAdd, lv_bool, lv_int, lv_str, lv_nilPtr, lv_ptr, lv_nilSlice, lv_slice, lv_nilFunc, lv_func, lv_nilIface, lv_iface, lv_nilMap, lv_agg, lv_tuple, allLive, Bool.and_true, grpA, hlsl, hlpv, hlqv, lp, lq]
      all_goals first | rfl | exact ⟨rfl, rfl⟩ | (simp (decide := true) only [if_true, if_false, *]; done) | (trace_state; fail)

set_option maxHeartbeats 4000000 in
theorem l_Err16 (w₀ : World) (ht10 : Tab10 w₀) (h H : AHeap) (k0 : Nat) (sl : AVal) (sz n : Int) (l : List (ItemP × ItemO)) (v1 : AVal) (c1 : List EntryP) (hm1 : IsL w₀ h 4 v1 (c1.map entC)) (hl1 : c1.length ≤ 9223372036854775807) (hk1 : ∀ e ∈ c1, EntOk e) (hsl : sl.scal = true)
    (hs_H : Sub h H) (eb_0 : H k0 = some ⟨[sl, .int .i64 sz], 0⟩) (hL : IsL w₀ h 22 sl (l.map itC)) (hll : l.length ≤ 30) (hnm : ∀ x ∈ items l, x.name.length ≤ 1048576) (w : Int) (hw : w = checkE (items l) n) :
    Awp Tryd.prog w₀ 191 (dropSeq 6 (bodyOf Tryd.f7)) (retA Tryd.prog w₀ [.tmp 6] (fun x h' => x = .bool true ∧ h' = h)) [(1, .int .i64 n), (2, v1), (3, .ptr (.own k0) 0), (7, .int .i64 w)] (H) := by
  have hlv1 := hm1.live
  have hlsl := hL.live
  have hinl := items_len l
  have hgl : ∀ g, GrpOk w₀ h sl g l := fun g => ⟨hL, by omega, keys_long hnm (by omega) g⟩
  change Awp _ _ _ (Code.seq _ _) _ _ _
  -- region 16  law.go:258
  refine awp_rseq [1, 3, 7, 10] (by rfl) fun K hK => ?_
  simp (decide := true) only [aOps_nil, vOps_nil, fOps_nil, kOps_nil, ev, absV, absS, putD, Slots.put, Slots.get, Slots.keep, if_true, if_false, List.contains_cons, List.contains_nil, true_and, and_true, ↓ap_move, pop_move, rd_ne', ne_eq, not_false_eq_true, rd_own w₀ eb_0, lv_map, rd_any, AVal.cells, setAt, List.set_cons_zero, List.set_cons_succ, cellsAt, List.getD_cons_zero, List.getD_cons_succ, Nat.zero_add, Nat.reduceAdd, lv_bool, lv_int, lv_str, lv_nilPtr, lv_ptr, lv_nilSlice, lv_slice, lv_nilFunc, lv_func, lv_nilIface, lv_iface, lv_nilMap, lv_agg, lv_tuple, allLive, Bool.and_true, grpA, hlv1, hlsl]
  repeat (with_reducible refine And.intro ?_ ?_; · first | trivial | omega | (intro hg; simp only [Bool.and_eq_true, Bool.or_eq_true, Bool.not_eq_true', Bool.and_eq_false_iff, Bool.or_eq_false_iff, Bool.not_eq_false', decide_eq_true_eq, decide_eq_false_iff_not, eqNil] at hg; omega) )
  refine aOps_call (by rfl) (by rfl) (c_Of w₀ _ v1 c1 (hm1.mono (by repeat (first | exact Sub.refl _ | assumption | refine Sub.set_both ?_ _ _ | refine Sub.trans_set ?_ (by repeat (first | assumption | refine (AHeap.set_ne _ _ (by first | assumption | exact Ne.symm (by assumption))).trans ?_))))) hk1 hl1) fun x16q1 h16q1 hx16q1 => ?_
  obtain ⟨sb, lb, rfl, hib, hgb, hsc, hs1⟩ := of_rec (w₀ := w₀) hx16q1
  have hlsb := (hgb 0).row.live
  have hcb : checkE (items lb) 0 = 0 := by rw [hib]; exact of_check0 c1
  have hs_h16q1 : Sub h h16q1 := Sub.trans (by repeat (first | exact Sub.refl _ | assumption | refine Sub.trans_set ?_ (by assumption))) hs1
  have hr_h16q1 : Sub H h16q1 := Sub.trans (by repeat (first | exact Sub.refl _ | assumption | refine Sub.trans_set ?_ (by assumption))) hs1
  have eb_0 := hs1 k0 _ (by repeat (first | exact AHeap.set_same _ _ _ | assumption | refine (AHeap.set_ne _ _ (by first | assumption | exact Ne.symm (by assumption))).trans ?_))
  simp (decide := true) only [aOps_nil, vOps_nil, fOps_nil, kOps_nil, ev, absV, absS, putD, Slots.put, Slots.get, Slots.keep, if_true, if_false, List.contains_cons, List.contains_nil, true_and, and_true, ↓ap_build, pop_build, ↓pop_buildL, bld35_0, evP, List.map_cons, List.map_nil, Sc_slice, Sc_nilSlice, Sc_nilPtr, Sc_ptr, Sc_nilFunc, Sc_func, Sc_nilMap, rd_ne', ne_eq, not_false_eq_true, rd_own w₀ eb_0, lv_map, rd_any, AVal.cells, setAt, List.set_cons_zero, List.set_cons_succ, cellsAt, List.getD_cons_zero, List.getD_cons_succ, Nat.zero_add, Nat.reduceAdd, lv_bool, lv_int, lv_str, lv_nilPtr, lv_ptr, lv_nilSlice, lv_slice, lv_nilFunc, lv_func, lv_nilIface, lv_iface, lv_nilMap, lv_agg, lv_tuple, allLive, Bool.and_true, grpA, hlv1, hlsl]
  repeat (with_reducible refine And.intro ?_ ?_; · first | trivial | omega | (intro hg; simp only [Bool.and_eq_true, Bool.or_eq_true, Bool.not_eq_true', Bool.and_eq_false_iff, Bool.or_eq_false_iff, Bool.not_eq_false', decide_eq_true_eq, decide_eq_false_iff_not, eqNil] at hg; omega) )
  refine aOps_alloc ze35 (cs := [.nilSlice, .int .i64 0, .int .i64 0]) (by rfl) fun k16q3 hk16q3 => ?_
  have hn_16q3 : h16q1 k16q3 = none := by first | assumption | (simp only [AHeap.set_none] at hk16q3; simp only [hk16q3])
  have hf_16q3 : h k16q3 = none := Sub.none hs_h16q1 hn_16q3
  have ne_16q3_0 : k16q3 ≠ k0 := AHeap.ne_some hn_16q3 eb_0
  refine aOps_store (by rfl) (by rfl) (by repeat (first | exact AHeap.set_same _ _ _ | assumption | refine (AHeap.set_ne _ _ (by first | assumption | exact Ne.symm (by assumption))).trans ?_)) sz35 (by rfl) (by rfl) (by first | exact Nat.le_refl _ | decide | (simp; done) | (simp; omega)) (Nat.zero_le _) (by first | rfl | (simp (decide := true) only [ev, putD, Slots.put, Slots.get, if_true, if_false, AVal.cells, allScal, Bool.and_true, Bool.true_and, hsc, hsl, sc_int, sc_str])) ?_
  simp only [AHeap.set_set, setAt, AVal.cells, List.set_cons_zero, List.set_cons_succ, Nat.zero_add, Nat.reduceAdd]
  simp (decide := true) only [aOps_nil, vOps_nil, fOps_nil, kOps_nil, ev, absV, absS, putD, Slots.put, Slots.get, Slots.keep, if_true, if_false, List.contains_cons, List.contains_nil, true_and, and_true, rd_ne', ne_eq, not_false_eq_true, ne_16q3_0, ne_16q3_0.symm, rd_own w₀ eb_0, lv_map, rd_any, AVal.cells, setAt, List.set_cons_zero, List.set_cons_succ, cellsAt, List.getD_cons_zero, List.getD_cons_succ, Nat.zero_add, Nat.reduceAdd, lv_bool, lv_int, lv_str, lv_nilPtr, lv_ptr, lv_nilSlice, lv_slice, lv_nilFunc, lv_func, lv_nilIface, lv_iface, lv_nilMap, lv_agg, lv_tuple, allLive, Bool.and_true, grpA, hlv1, hlsl]
  repeat (with_reducible refine And.intro ?_ ?_; · first | trivial | omega | (intro hg; simp only [Bool.and_eq_true, Bool.or_eq_true, Bool.not_eq_true', Bool.and_eq_false_iff, Bool.or_eq_false_iff, Bool.not_eq_false', decide_eq_true_eq, decide_eq_false_iff_not, eqNil] at hg; omega) )
  apply hK; clear hK K
  -- region 17  law.go:259
  refine awp_rseq [7, 10, 11] (by rfl) fun K hK => ?_
  simp (decide := true) only [aOps_nil, vOps_nil, fOps_nil, kOps_nil, ev, absV, absS, putD, Slots.put, Slots.get, Slots.keep, if_true, if_false, List.contains_cons, List.contains_nil, true_and, and_true, ↓ap_loadL, apL_mk, pLoad_agg ag27 sz27, ↓ap_move, pop_move, ↓ap_build, pop_build, ↓pop_buildL, bld35_0_1, evP, List.map_cons, List.map_nil, Sc_slice, Sc_nilSlice, Sc_nilPtr, Sc_ptr, Sc_nilFunc, Sc_func, Sc_nilMap, rd_ne', ne_eq, not_false_eq_true, ne_16q3_0, ne_16q3_0.symm, rd_own w₀ eb_0, lv_map, rd_any, AVal.cells, setAt, List.set_cons_zero, List.set_cons_succ, cellsAt, List.getD_cons_zero, List.getD_cons_succ, Nat.zero_add, Nat.reduceAdd, lv_bool, lv_int, lv_str, lv_nilPtr, lv_ptr, lv_nilSlice, lv_slice, lv_nilFunc, lv_func, lv_nilIface, lv_iface, lv_nilMap, lv_agg, lv_tuple, allLive, Bool.and_true, grpA, hlsl, hlsb]
  repeat (with_reducible refine And.intro ?_ ?_; · first | trivial | omega | (intro hg; simp only [Bool.and_eq_true, Bool.or_eq_true, Bool.not_eq_true', Bool.and_eq_false_iff, Bool.or_eq_false_iff, Bool.not_eq_false', decide_eq_true_eq, decide_eq_false_iff_not, eqNil] at hg; omega) )
  refine aOps_alloc ze35 (cs := [.nilSlice, .int .i64 0, .int .i64 0]) (by rfl) fun k17q3 hk17q3 => ?_
  have ne_17q3_16q3 : k17q3 ≠ k16q3 := by simp only [AHeap.set_none] at hk17q3; simp only [hk17q3, ne_eq, not_false_eq_true]
  have hn_17q3 : h16q1 k17q3 = none := by first | assumption | (simp only [AHeap.set_none] at hk17q3; simp only [hk17q3])
  have hf_17q3 : h k17q3 = none := Sub.none hs_h16q1 hn_17q3
  have ne_17q3_0 : k17q3 ≠ k0 := AHeap.ne_some hn_17q3 eb_0
  refine aOps_store (by rfl) (by rfl) (by repeat (first | exact AHeap.set_same _ _ _ | assumption | refine (AHeap.set_ne _ _ (by first | assumption | exact Ne.symm (by assumption))).trans ?_)) sz35 (by rfl) (by rfl) (by first | exact Nat.le_refl _ | decide | (simp; done) | (simp; omega)) (Nat.zero_le _) (by first | rfl | (simp (decide := true) only [ev, putD, Slots.put, Slots.get, if_true, if_false, AVal.cells, allScal, Bool.and_true, Bool.true_and, hsc, hsl, sc_int, sc_str])) ?_
  simp only [AHeap.set_set, setAt, AVal.cells, List.set_cons_zero, List.set_cons_succ, Nat.zero_add, Nat.reduceAdd]
  simp (decide := true) only [aOps_nil, vOps_nil, fOps_nil, kOps_nil, ev, absV, absS, putD, Slots.put, Slots.get, Slots.keep, if_true, if_false, List.contains_cons, List.contains_nil, true_and, and_true, rd_ne', ne_eq, not_false_eq_true, ne_16q3_0, ne_16q3_0.symm, ne_17q3_16q3, ne_17q3_16q3.symm, ne_17q3_0, ne_17q3_0.symm, rd_own w₀ eb_0, lv_map, rd_any, AVal.cells, setAt, List.set_cons_zero, List.set_cons_succ, cellsAt, List.getD_cons_zero, List.getD_cons_succ, Nat.zero_add, Nat.reduceAdd, lv_bool, lv_int, lv_str, lv_nilPtr, lv_ptr, lv_nilSlice, lv_slice, lv_nilFunc, lv_func, lv_nilIface, lv_iface, lv_nilMap, lv_agg, lv_tuple, allLive, Bool.and_true, grpA, hlsl, hlsb]
  repeat (with_reducible refine And.intro ?_ ?_; · first | trivial | omega | (intro hg; simp only [Bool.and_eq_true, Bool.or_eq_true, Bool.not_eq_true', Bool.and_eq_false_iff, Bool.or_eq_false_iff, Bool.not_eq_false', decide_eq_true_eq, decide_eq_false_iff_not, eqNil] at hg; omega) )
  apply hK; clear hK K
  -- region 18  law.go:260
  refine awp_rseq [7, 10, 11, 12, 13] (by rfl) fun K hK => ?_
  simp (decide := true) only [aOps_nil, vOps_nil, fOps_nil, kOps_nil, ev, absV, absS, putD, Slots.put, Slots.get, Slots.keep, if_true, if_false, List.contains_cons, List.contains_nil, true_and, and_true, ↓ap_loadL, apL_mk, pLoad_agg ag35 sz35, rd_ne', ne_eq, not_false_eq_true, ne_16q3_0, ne_16q3_0.symm, ne_17q3_16q3, ne_17q3_16q3.symm, ne_17q3_0, ne_17q3_0.symm, rd_own w₀ eb_0, lv_map, rd_any, AVal.cells, setAt, List.set_cons_zero, List.set_cons_succ, cellsAt, List.getD_cons_zero, List.getD_cons_succ, Nat.zero_add, Nat.reduceAdd, lv_bool, lv_int, lv_str, lv_nilPtr, lv_ptr, lv_nilSlice, lv_slice, lv_nilFunc, lv_func, lv_nilIface, lv_iface, lv_nilMap, lv_agg, lv_tuple, allLive, Bool.and_true, grpA, hlsl, hlsb]
  repeat (with_reducible refine And.intro ?_ ?_; · first | trivial | omega | (intro hg; simp only [Bool.and_eq_true, Bool.or_eq_true, Bool.not_eq_true', Bool.and_eq_false_iff, Bool.or_eq_false_iff, Bool.not_eq_false', decide_eq_true_eq, decide_eq_false_iff_not, eqNil] at hg; omega) )
  refine aOps_call (by rfl) (by rfl) (c_Pairs w₀ ht10 _ sl sb sz 0 n 0 l lb ((hgl _).mono (by repeat (first | exact Sub.refl _ | assumption | refine Sub.set_both ?_ _ _ | refine Sub.trans_set ?_ (by repeat (first | assumption | refine (AHeap.set_ne _ _ (by first | assumption | exact Ne.symm (by assumption))).trans ?_))))) ((hgb _).mono (by repeat (first | exact Sub.refl _ | assumption | refine Sub.set_both ?_ _ _ | refine Sub.trans_set ?_ (by repeat (first | assumption | refine (AHeap.set_ne _ _ (by first | assumption | exact Ne.symm (by assumption))).trans ?_)))))) fun x18q2 h18q2 hx18q2 => ?_
  obtain ⟨pv, rfl, hpv, hcp, hs18⟩ := hx18q2
  obtain ⟨R1, hR1⟩ : ∃ R, R = amongR (items l) (items lb) n 0 (isP (items l) (items lb)) := ⟨_, rfl⟩
  have hw1 : R1.2 = w := by rw [hR1, hw]; exact among_first hcb
  have hn1 : w ≠ 0 → R1.1 = [] := fun e => by rw [hR1]; rw [← hw1, hR1] at e; exact among_none e
  rw [← hR1] at hpv ⊢
  rw [hw1]
  have hlpv := hpv.live
  have hs_h18q2 : Sub h h18q2 := Sub.trans (by repeat (first | exact Sub.refl _ | assumption | refine Sub.trans_set ?_ (by assumption))) hs18
  have hr_h18q2 : Sub h16q1 h18q2 := Sub.trans (by repeat (first | exact Sub.refl _ | assumption | refine Sub.trans_set ?_ (by assumption))) hs18
  have eb_16q3 := hs18 k16q3 _ (by repeat (first | exact AHeap.set_same _ _ _ | assumption | refine (AHeap.set_ne _ _ (by first | assumption | exact Ne.symm (by assumption))).trans ?_))
  have eb_17q3 := hs18 k17q3 _ (by repeat (first | exact AHeap.set_same _ _ _ | assumption | refine (AHeap.set_ne _ _ (by first | assumption | exact Ne.symm (by assumption))).trans ?_))
  have eb_0 := hs18 k0 _ (by repeat (first | exact AHeap.set_same _ _ _ | assumption | refine (AHeap.set_ne _ _ (by first | assumption | exact Ne.symm (by assumption))).trans ?_))
  simp (decide := true) only [aOps_nil, vOps_nil, fOps_nil, kOps_nil, ev, absV, absS, putD, Slots.put, Slots.get, Slots.keep, if_true, if_false, List.contains_cons, List.contains_nil, true_and, and_true, ↓ap_move, pop_move, ↓ap_extract, pop_extract, pExt_tuple, List.length_cons, List.length_nil, List.getD_cons_zero, List.getD_cons_succ, ↓ap_assign, pop_assign, rd_ne', ne_eq, not_false_eq_true, rd_own w₀ eb_0, rd_own w₀ eb_16q3, rd_own w₀ eb_17q3, ne_16q3_0, ne_16q3_0.symm, ne_17q3_16q3, ne_17q3_16q3.symm, ne_17q3_0, ne_17q3_0.symm, lv_map, rd_any, AVal.cells, setAt, List.set_cons_zero, List.set_cons_succ, cellsAt, List.getD_cons_zero, List.getD_cons_succ, Nat.zero_add, Nat.reduceAdd, lv_bool, lv_int, lv_str, lv_nilPtr, lv_ptr, lv_nilSlice, lv_slice, lv_nilFunc, lv_func, lv_nilIface, lv_iface, lv_nilMap, lv_agg, lv_tuple, allLive, Bool.and_true, grpA, hlsl, hlsb, hlpv]
  repeat (with_reducible refine And.intro ?_ ?_; · first | trivial | omega | (intro hg; simp only [Bool.and_eq_true, Bool.or_eq_true, Bool.not_eq_true', Bool.and_eq_false_iff, Bool.or_eq_false_iff, Bool.not_eq_false', decide_eq_true_eq, decide_eq_false_iff_not, eqNil] at hg; omega) )
  apply hK; clear hK K
  -- region 19  law.go:261
  refine awp_rseq [7, 10, 11, 12, 13, 14, 15] (by rfl) fun K hK => ?_
  simp (decide := true) only [aOps_nil, vOps_nil, fOps_nil, kOps_nil, ev, absV, absS, putD, Slots.put, Slots.get, Slots.keep, if_true, if_false, List.contains_cons, List.contains_nil, true_and, and_true, ↓ap_loadL, apL_mk, pLoad_agg ag35 sz35, rd_ne', ne_eq, not_false_eq_true, rd_own w₀ eb_0, rd_own w₀ eb_16q3, rd_own w₀ eb_17q3, ne_16q3_0, ne_16q3_0.symm, ne_17q3_16q3, ne_17q3_16q3.symm, ne_17q3_0, ne_17q3_0.symm, lv_map, rd_any, AVal.cells, setAt, List.set_cons_zero, List.set_cons_succ, cellsAt, List.getD_cons_zero, List.getD_cons_succ, Nat.zero_add, Nat.reduceAdd, lv_bool, lv_int, lv_str, lv_nilPtr, lv_ptr, lv_nilSlice, lv_slice, lv_nilFunc, lv_func, lv_nilIface, lv_iface, lv_nilMap, lv_agg, lv_tuple, allLive, Bool.and_true, grpA, hlsl, hlsb, hlpv]
  repeat (with_reducible refine And.intro ?_ ?_; · first | trivial | omega | (intro hg; simp only [Bool.and_eq_true, Bool.or_eq_true, Bool.not_eq_true', Bool.and_eq_false_iff, Bool.or_eq_false_iff, Bool.not_eq_false', decide_eq_true_eq, decide_eq_false_iff_not, eqNil] at hg; omega) )
  refine aOps_call (by rfl) (by rfl) (c_Pairs w₀ ht10 _ sb sl 0 sz 0 n lb l ((hgb _).mono hr_h18q2) ((hgl _).mono hs_h18q2)) fun x19q2 h19q2 hx19q2 => ?_
  obtain ⟨qv, rfl, hqv, hcq, hs19⟩ := hx19q2
  obtain ⟨R2, hR2⟩ : ∃ R, R = amongR (items lb) (items l) 0 n (isP (items lb) (items l)) := ⟨_, rfl⟩
  have hw2 : R2.2 = w := by rw [hR2, hw]; exact among_second hcb
  have hn2 : w ≠ 0 → R2.1 = [] := fun e => by rw [hR2]; rw [← hw2, hR2] at e; exact among_none e
  rw [← hR2] at hqv ⊢
  rw [hw2]
  have hlqv := hqv.live
  have hs_h19q2 : Sub h h19q2 := Sub.trans (by repeat (first | exact Sub.refl _ | assumption | refine Sub.trans_set ?_ (by assumption))) hs19
  have hr_h19q2 : Sub h18q2 h19q2 := Sub.trans (by repeat (first | exact Sub.refl _ | assumption | refine Sub.trans_set ?_ (by assumption))) hs19
  have eb_0 := hs19 k0 _ (by repeat (first | exact AHeap.set_same _ _ _ | assumption | refine (AHeap.set_ne _ _ (by first | assumption | exact Ne.symm (by assumption))).trans ?_))
  have eb_16q3 := hs19 k16q3 _ (by repeat (first | exact AHeap.set_same _ _ _ | assumption | refine (AHeap.set_ne _ _ (by first | assumption | exact Ne.symm (by assumption))).trans ?_))
  have eb_17q3 := hs19 k17q3 _ (by repeat (first | exact AHeap.set_same _ _ _ | assumption | refine (AHeap.set_ne _ _ (by first | assumption | exact Ne.symm (by assumption))).trans ?_))
  simp (decide := true) only [aOps_nil, vOps_nil, fOps_nil, kOps_nil, ev, absV, absS, putD, Slots.put, Slots.get, Slots.keep, if_true, if_false, List.contains_cons, List.contains_nil, true_and, and_true, ↓ap_move, pop_move, ↓ap_extract, pop_extract, pExt_tuple, List.length_cons, List.length_nil, List.getD_cons_zero, List.getD_cons_succ, ↓ap_assign, pop_assign, rd_ne', ne_eq, not_false_eq_true, rd_own w₀ eb_0, rd_own w₀ eb_16q3, rd_own w₀ eb_17q3, ne_16q3_0, ne_16q3_0.symm, ne_17q3_16q3, ne_17q3_16q3.symm, ne_17q3_0, ne_17q3_0.symm, lv_map, rd_any, AVal.cells, setAt, List.set_cons_zero, List.set_cons_succ, cellsAt, List.getD_cons_zero, List.getD_cons_succ, Nat.zero_add, Nat.reduceAdd, lv_bool, lv_int, lv_str, lv_nilPtr, lv_ptr, lv_nilSlice, lv_slice, lv_nilFunc, lv_func, lv_nilIface, lv_iface, lv_nilMap, lv_agg, lv_tuple, allLive, Bool.and_true, grpA, hlsl, hlsb, hlpv, hlqv]
  repeat (with_reducible refine And.intro ?_ ?_; · first | trivial | omega | (intro hg; simp only [Bool.and_eq_true, Bool.or_eq_true, Bool.not_eq_true', Bool.and_eq_false_iff, Bool.or_eq_false_iff, Bool.not_eq_false', decide_eq_true_eq, decide_eq_false_iff_not, eqNil] at hg; omega) )
  apply hK; clear hK K
  -- region 20  law.go:262
  refine awp_rseq [7, 11, 12, 13, 14, 15, 17] (by rfl) fun K hK => ?_
  simp (decide := true) only [aOps_nil, vOps_nil, fOps_nil, kOps_nil, ev, absV, absS, putD, Slots.put, Slots.get, Slots.keep, if_true, if_false, List.contains_cons, List.contains_nil, true_and, and_true, ↓ap_loadL, apL_mk, pLoad_agg ag35 sz35, rd_ne', ne_eq, not_false_eq_true, rd_own w₀ eb_0, rd_own w₀ eb_16q3, rd_own w₀ eb_17q3, ne_16q3_0, ne_16q3_0.symm, ne_17q3_16q3, ne_17q3_16q3.symm, ne_17q3_0, ne_17q3_0.symm, lv_map, rd_any, AVal.cells, setAt, List.set_cons_zero, List.set_cons_succ, cellsAt, List.getD_cons_zero, List.getD_cons_succ, Nat.zero_add, Nat.reduceAdd, lv_bool, lv_int, lv_str, lv_nilPtr, lv_ptr, lv_nilSlice, lv_slice, lv_nilFunc, lv_func, lv_nilIface, lv_iface, lv_nilMap, lv_agg, lv_tuple, allLive, Bool.and_true, grpA, hlsl, hlsb, hlpv, hlqv]
  repeat (with_reducible refine And.intro ?_ ?_; · first | trivial | omega | (intro hg; simp only [Bool.and_eq_true, Bool.or_eq_true, Bool.not_eq_true', Bool.and_eq_false_iff, Bool.or_eq_false_iff, Bool.not_eq_false', decide_eq_true_eq, decide_eq_false_iff_not, eqNil] at hg; omega) )
  refine aOps_call (by rfl) (by rfl) (c_Numbers w₀ ht10 _ sl sb sz 0 n 0 l lb ((hgl _).mono hs_h19q2) (((hgb _).mono hr_h18q2).mono hr_h19q2)) fun x20q2 h20q2 hx20q2 => ?_
  obtain ⟨mv, rfl, hmv, hcm, hs20⟩ := hx20q2
  have hw3 : (amongR (items l) (items lb) n 0 (isN (items l) (items lb))).2 = w := by rw [hw]; exact among_first hcb
  rw [hw3]
  have hlmv := hmv.live
  have hs_h20q2 : Sub h h20q2 := Sub.trans (by repeat (first | exact Sub.refl _ | assumption | refine Sub.trans_set ?_ (by assumption))) hs20
  have hr_h20q2 : Sub h19q2 h20q2 := Sub.trans (by repeat (first | exact Sub.refl _ | assumption | refine Sub.trans_set ?_ (by assumption))) hs20
  have eb_0 := hs20 k0 _ (by repeat (first | exact AHeap.set_same _ _ _ | assumption | refine (AHeap.set_ne _ _ (by first | assumption | exact Ne.symm (by assumption))).trans ?_))
  have eb_16q3 := hs20 k16q3 _ (by repeat (first | exact AHeap.set_same _ _ _ | assumption | refine (AHeap.set_ne _ _ (by first | assumption | exact Ne.symm (by assumption))).trans ?_))
  have eb_17q3 := hs20 k17q3 _ (by repeat (first | exact AHeap.set_same _ _ _ | assumption | refine (AHeap.set_ne _ _ (by first | assumption | exact Ne.symm (by assumption))).trans ?_))
  simp (decide := true) only [aOps_nil, vOps_nil, fOps_nil, kOps_nil, ev, absV, absS, putD, Slots.put, Slots.get, Slots.keep, if_true, if_false, List.contains_cons, List.contains_nil, true_and, and_true, ↓ap_move, pop_move, ↓ap_extract, pop_extract, pExt_tuple, List.length_cons, List.length_nil, List.getD_cons_zero, List.getD_cons_succ, ↓ap_assign, pop_assign, rd_ne', ne_eq, not_false_eq_true, rd_own w₀ eb_0, rd_own w₀ eb_16q3, rd_own w₀ eb_17q3, ne_16q3_0, ne_16q3_0.symm, ne_17q3_16q3, ne_17q3_16q3.symm, ne_17q3_0, ne_17q3_0.symm, lv_map, rd_any, AVal.cells, setAt, List.set_cons_zero, List.set_cons_succ, cellsAt, List.getD_cons_zero, List.getD_cons_succ, Nat.zero_add, Nat.reduceAdd, lv_bool, lv_int, lv_str, lv_nilPtr, lv_ptr, lv_nilSlice, lv_slice, lv_nilFunc, lv_func, lv_nilIface, lv_iface, lv_nilMap, lv_agg, lv_tuple, allLive, Bool.and_true, grpA, hlsl, hlsb, hlpv, hlqv, hlmv]
  repeat (with_reducible refine And.intro ?_ ?_; · first | trivial | omega | (intro hg; simp only [Bool.and_eq_true, Bool.or_eq_true, Bool.not_eq_true', Bool.and_eq_false_iff, Bool.or_eq_false_iff, Bool.not_eq_false', decide_eq_true_eq, decide_eq_false_iff_not, eqNil] at hg; omega) )
  apply hK; clear hK K
  -- region 21  law.go:263
  refine awp_rseq [7, 11, 12, 13, 14, 15, 17, 19] (by rfl) fun K hK => ?_
  simp (decide := true) only [aOps_nil, vOps_nil, fOps_nil, kOps_nil, ev, absV, absS, putD, Slots.put, Slots.get, Slots.keep, if_true, if_false, List.contains_cons, List.contains_nil, true_and, and_true, ↓ap_loadL, apL_mk, pLoad_agg ag35 sz35, rd_ne', ne_eq, not_false_eq_true, rd_own w₀ eb_0, rd_own w₀ eb_16q3, rd_own w₀ eb_17q3, ne_16q3_0, ne_16q3_0.symm, ne_17q3_16q3, ne_17q3_16q3.symm, ne_17q3_0, ne_17q3_0.symm, lv_map, rd_any, AVal.cells, setAt, List.set_cons_zero, List.set_cons_succ, cellsAt, List.getD_cons_zero, List.getD_cons_succ, Nat.zero_add, Nat.reduceAdd, lv_bool, lv_int, lv_str, lv_nilPtr, lv_ptr, lv_nilSlice, lv_slice, lv_nilFunc, lv_func, lv_nilIface, lv_iface, lv_nilMap, lv_agg, lv_tuple, allLive, Bool.and_true, grpA, hlsl, hlsb, hlpv, hlqv]
  repeat (with_reducible refine And.intro ?_ ?_; · first | trivial | omega | (intro hg; simp only [Bool.and_eq_true, Bool.or_eq_true, Bool.not_eq_true', Bool.and_eq_false_iff, Bool.or_eq_false_iff, Bool.not_eq_false', decide_eq_true_eq, decide_eq_false_iff_not, eqNil] at hg; omega) )
  refine aOps_call (by rfl) (by rfl) (c_Path w₀ _ sl sz n 0 l (hL.mono hs_h20q2) (by omega)) fun x21q1 h21q1 hx21q1 => ?_
  obtain ⟨tv, rfl, htv, hct, hs21⟩ := hx21q1
  have hltv := htv.live
  have hs_h21q1 : Sub h h21q1 := Sub.trans (by repeat (first | exact Sub.refl _ | assumption | refine Sub.trans_set ?_ (by assumption))) hs21
  have hr_h21q1 : Sub h20q2 h21q1 := Sub.trans (by repeat (first | exact Sub.refl _ | assumption | refine Sub.trans_set ?_ (by assumption))) hs21
  have eb_0 := hs21 k0 _ (by repeat (first | exact AHeap.set_same _ _ _ | assumption | refine (AHeap.set_ne _ _ (by first | assumption | exact Ne.symm (by assumption))).trans ?_))
  have eb_16q3 := hs21 k16q3 _ (by repeat (first | exact AHeap.set_same _ _ _ | assumption | refine (AHeap.set_ne _ _ (by first | assumption | exact Ne.symm (by assumption))).trans ?_))
  have eb_17q3 := hs21 k17q3 _ (by repeat (first | exact AHeap.set_same _ _ _ | assumption | refine (AHeap.set_ne _ _ (by first | assumption | exact Ne.symm (by assumption))).trans ?_))
  simp (decide := true) only [aOps_nil, vOps_nil, fOps_nil, kOps_nil, ev, absV, absS, putD, Slots.put, Slots.get, Slots.keep, if_true, if_false, List.contains_cons, List.contains_nil, true_and, and_true, ↓ap_move, pop_move, ↓ap_extract, pop_extract, pExt_tuple, List.length_cons, List.length_nil, List.getD_cons_zero, List.getD_cons_succ, ↓ap_assign, pop_assign, rd_ne', ne_eq, not_false_eq_true, rd_own w₀ eb_0, rd_own w₀ eb_16q3, rd_own w₀ eb_17q3, ne_16q3_0, ne_16q3_0.symm, ne_17q3_16q3, ne_17q3_16q3.symm, ne_17q3_0, ne_17q3_0.symm, lv_map, rd_any, AVal.cells, setAt, List.set_cons_zero, List.set_cons_succ, cellsAt, List.getD_cons_zero, List.getD_cons_succ, Nat.zero_add, Nat.reduceAdd, lv_bool, lv_int, lv_str, lv_nilPtr, lv_ptr, lv_nilSlice, lv_slice, lv_nilFunc, lv_func, lv_nilIface, lv_iface, lv_nilMap, lv_agg, lv_tuple, allLive, Bool.and_true, grpA, hlsl, hlsb, hlpv, hlqv, hltv]
  repeat (with_reducible refine And.intro ?_ ?_; · first | trivial | omega | (intro hg; simp only [Bool.and_eq_true, Bool.or_eq_true, Bool.not_eq_true', Bool.and_eq_false_iff, Bool.or_eq_false_iff, Bool.not_eq_false', decide_eq_true_eq, decide_eq_false_iff_not, eqNil] at hg; omega) )
  apply hK; clear hK K
  have hpv2 : IsL w₀ h21q1 2 pv (R1.1.map pairC) := ((hpv.mono hr_h19q2).mono hr_h20q2).mono hr_h21q1
  have hqv2 : IsL w₀ h21q1 2 qv (R2.1.map pairC) := (hqv.mono hr_h20q2).mono hr_h21q1
  obtain ⟨R4, hR4⟩ : ∃ R, R = pathR (items l) n 0 := ⟨_, rfl⟩
  rw [← hR4]
  have hw4 : w ≠ 0 → R4.2 = w := fun e => by
   rw [hR4]
   unfold pathR
   rw [if_pos (by rw [← hw]; exact e), hw]
  refine Awp.keep [7, 11, 12, 13, 14, 15, 17, 19] ?_
  refine l_Err22 w₀ ht10 h h21q1 k17q3 sl sz n l hsl hs_h21q1 eb_17q3 hL hll hnm w pv qv R1.1.length R2.1.length R4.2 hlpv hlqv (pr_len hpv2) (pr_len hqv2) ?_
  rcases Decidable.em (w = 0) with e | e
  · exact .inl e
  · exact .inr ⟨e, hw4 e, by rw [hn1 e]; rfl, by rw [hn2 e]; rfl⟩

set_option maxHeartbeats 4000000 in
theorem l_PairsErrors (w₀ : World) (ht10 : Tab10 w₀) (h : AHeap) (sl : AVal) (sz : Int) (l : List (ItemP × ItemO)) (hL : IsL w₀ h 22 sl (l.map itC)) (hsl : sl.scal = true) (hll : l.length ≤ 9223372036854775807) (hnm : ∀ x ∈ items l, x.name.length ≤ 1048576) (n : Int) (hn0 : -9223372036854775808 ≤ n) (hn1 : n ≤ 9223372036854775807) (v1 : AVal) (c1 : List EntryP) (hm1 : IsL w₀ h 4 v1 (c1.map entC)) (hl1 : c1.length ≤ 9223372036854775807) (hk1 : ∀ e ∈ c1, EntOk e) :
    ACall Tryd.prog w₀ 7 [.agg [sl, .int .i64 sz], .int .i64 n, v1] h (fun x _ => x = .bool true) := by
  refine ACall.mono (R := fun x h' => x = .bool true ∧ h' = h) ?_ fun x h' hx => hx.1
  have hlv1 := hm1.live
  have hlsl := hL.live
  have hinl := items_len l
  have nl := it_len hL
  refine acall_intro (n := 191) (rs := [.tmp 6]) Tryd.func7 rfl rfl rfl rfl (Nat.le_of_ble_eq_true rfl) ?_
  simp only [initSlots]
  -- region 0  law.go:239
  refine awp_rseq [1, 2, 3] (by rfl) fun K hK => ?_
  refine aOps_box (by rfl) (by rfl) (by rfl) fun k0q0 hk0q0 => ?_
  try have hf_0q0 : h k0q0 = none := by first | assumption | (simp only [AHeap.set_none] at hk0q0; simp only [hk0q0])
  skip
  simp (decide := true) only [aOps_nil, vOps_nil, fOps_nil, kOps_nil, ev, absV, absS, putD, Slots.put, Slots.get, Slots.keep, if_true, if_false, List.contains_cons, List.contains_nil, true_and, and_true, ↓ap_assign, pop_assign, rd_ne', ne_eq, not_false_eq_true, lv_map, rd_any, AVal.cells, setAt, List.set_cons_zero, List.set_cons_succ, cellsAt, List.getD_cons_zero, List.getD_cons_succ, Nat.zero_add, Nat.reduceAdd, lv_bool, lv_int, lv_str, lv_nilPtr, lv_ptr, lv_nilSlice, lv_slice, lv_nilFunc, lv_func, lv_nilIface, lv_iface, lv_nilMap, lv_agg, lv_tuple, allLive, Bool.and_true, grpA, hlv1, hlsl, nl]
  repeat (with_reducible refine And.intro ?_ ?_; · first | trivial | omega | (intro hg; simp only [Bool.and_eq_true, Bool.or_eq_true, Bool.not_eq_true', Bool.and_eq_false_iff, Bool.or_eq_false_iff, Bool.not_eq_false', decide_eq_true_eq, decide_eq_false_iff_not, eqNil] at hg; omega) )
  apply hK; clear hK K
  refine awp_seq ?_
  -- region 1  law.go:240
  refine awp_rseq [1, 2, 3, 29] (by rfl) fun K hK => ?_
  simp (decide := true) only [aOps_nil, vOps_nil, fOps_nil, kOps_nil, ev, absV, absS, putD, Slots.put, Slots.get, Slots.keep, if_true, if_false, List.contains_cons, List.contains_nil, true_and, and_true, ↓ap_fieldAddr, pop_fieldAddr, fa27_0, ↓ap_loadL, apL_mk, pLoad_one ag25, ↓ap_len, pop_len, pLen_slice Tryd.underlying25, pLen_nil Tryd.underlying25, ↓ap_binOp, pop_binOp, isNilC_int, cond_false, pBinX_int, pI_gtr, rd_ne', ne_eq, not_false_eq_true, lv_map, rd_any, AVal.cells, setAt, List.set_cons_zero, List.set_cons_succ, cellsAt, List.getD_cons_zero, List.getD_cons_succ, Nat.zero_add, Nat.reduceAdd, lv_bool, lv_int, lv_str, lv_nilPtr, lv_ptr, lv_nilSlice, lv_slice, lv_nilFunc, lv_func, lv_nilIface, lv_iface, lv_nilMap, lv_agg, lv_tuple, allLive, Bool.and_true, grpA, hlv1, hlsl, nl]
  repeat (with_reducible refine And.intro ?_ ?_; · first | trivial | omega | (intro hg; simp only [Bool.and_eq_true, Bool.or_eq_true, Bool.not_eq_true', Bool.and_eq_false_iff, Bool.or_eq_false_iff, Bool.not_eq_false', decide_eq_true_eq, decide_eq_false_iff_not, eqNil] at hg; omega) )
  apply hK; clear hK K
  refine awp_cond (b := _) rfl (fun hb1 => ?_) (fun hb1 => ?_)
  · try simp only [decide_eq_true_eq, decide_eq_false_iff_not, Bool.not_eq_true', Bool.not_eq_false', Bool.and_eq_true, Bool.and_eq_false_iff, Bool.or_eq_true, Bool.or_eq_false_iff, Bool.true_eq, Bool.false_eq, reduceCtorEq] at hb1
    -- region 2  law.go:241
    refine awp_rseq [6] (by rfl) fun K hK => ?_
    refine aOps_callV (V := .bool true) (by rfl) (by rfl) (c_lives w₀ ht10 _) ?_
    simp (decide := true) only [aOps_nil, vOps_nil, fOps_nil, kOps_nil, ev, absV, absS, putD, Slots.put, Slots.get, Slots.keep, if_true, if_false, List.contains_cons, List.contains_nil, true_and, and_true, ↓ap_assign, pop_assign, rd_ne', ne_eq, not_false_eq_true, lv_map, rd_any, AVal.cells, setAt, List.set_cons_zero, List.set_cons_succ, cellsAt, List.getD_cons_zero, List.getD_cons_succ, Nat.zero_add, Nat.reduceAdd, lv_bool, lv_int, lv_str, lv_nilPtr, lv_ptr, lv_nilSlice, lv_slice, lv_nilFunc, lv_func, lv_nilIface, lv_iface, lv_nilMap, lv_agg, lv_tuple, allLive, Bool.and_true, grpA, hlv1, hlsl, nl]
    repeat (with_reducible refine And.intro ?_ ?_; · first | trivial | omega | (intro hg; simp only [Bool.and_eq_true, Bool.or_eq_true, Bool.not_eq_true', Bool.and_eq_false_iff, Bool.or_eq_false_iff, Bool.not_eq_false', decide_eq_true_eq, decide_eq_false_iff_not, eqNil] at hg; omega) )
    apply hK; clear hK K
    refine awp_ret ?_
    try simp only [thenA_ret, inBlockA_ret]
    refine retA_ret h (by repeat (first | exact Sub.refl _ | assumption | refine Sub.trans_set ?_ (by assumption))) (resPre_tmp (resPre_nil)) ?_
    simp (decide := true) only [aOps_nil, vOps_nil, fOps_nil, kOps_nil, ev, absV, absS, putD, Slots.put, Slots.get, Slots.keep, if_true, if_false, List.contains_cons, List.contains_nil, true_and, and_true, resOf_one, rd_ne', ne_eq, not_false_eq_true, lv_map, rd_any, AVal.cells, setAt, List.set_cons_zero, List.set_cons_succ, cellsAt, List.getD_cons_zero, List.getD_cons_succ, Nat.zero_add, Nat.reduceAdd, lv_bool, lv_int, lv_str, lv_nilPtr, lv_ptr, lv_nilSlice, lv_slice, lv_nilFunc, lv_func, lv_nilIface, lv_iface, lv_nilMap, lv_agg, lv_tuple, allLive, Bool.and_true, grpA, hlv1, hlsl, nl]
    all_goals first | rfl | exact ⟨rfl, rfl⟩ | (simp (decide := true) only [if_true, if_false, *]; done) | (trace_state; fail)
  · try simp only [decide_eq_true_eq, decide_eq_false_iff_not, Bool.not_eq_true', Bool.not_eq_false', Bool.and_eq_true, Bool.and_eq_false_iff, Bool.or_eq_true, Bool.or_eq_false_iff, Bool.true_eq, Bool.false_eq, reduceCtorEq] at hb1
    refine awp_skip ?_
    change Awp _ _ _ _ _ _ _
    -- region 3  law.go:243
    refine awp_rseq [1, 2, 3, 7] (by rfl) fun K hK => ?_
    simp (decide := true) only [aOps_nil, vOps_nil, fOps_nil, kOps_nil, ev, absV, absS, putD, Slots.put, Slots.get, Slots.keep, if_true, if_false, List.contains_cons, List.contains_nil, true_and, and_true, ↓ap_assign, pop_assign, rd_ne', ne_eq, not_false_eq_true, lv_map, rd_any, AVal.cells, setAt, List.set_cons_zero, List.set_cons_succ, cellsAt, List.getD_cons_zero, List.getD_cons_succ, Nat.zero_add, Nat.reduceAdd, lv_bool, lv_int, lv_str, lv_nilPtr, lv_ptr, lv_nilSlice, lv_slice, lv_nilFunc, lv_func, lv_nilIface, lv_iface, lv_nilMap, lv_agg, lv_tuple, allLive, Bool.and_true, grpA, hlv1, hlsl, nl]
    repeat (with_reducible refine And.intro ?_ ?_; · first | trivial | omega | (intro hg; simp only [Bool.and_eq_true, Bool.or_eq_true, Bool.not_eq_true', Bool.and_eq_false_iff, Bool.or_eq_false_iff, Bool.not_eq_false', decide_eq_true_eq, decide_eq_false_iff_not, eqNil] at hg; omega) )
    apply hK; clear hK K
    refine awp_seq ?_
    -- region 4  law.go:244
    refine awp_rseq [1, 2, 3, 7, 8] (by rfl) fun K hK => ?_
    simp (decide := true) only [aOps_nil, vOps_nil, fOps_nil, kOps_nil, ev, absV, absS, putD, Slots.put, Slots.get, Slots.keep, if_true, if_false, List.contains_cons, List.contains_nil, true_and, and_true, ↓ap_assign, pop_assign, rd_ne', ne_eq, not_false_eq_true, lv_map, rd_any, AVal.cells, setAt, List.set_cons_zero, List.set_cons_succ, cellsAt, List.getD_cons_zero, List.getD_cons_succ, Nat.zero_add, Nat.reduceAdd, lv_bool, lv_int, lv_str, lv_nilPtr, lv_ptr, lv_nilSlice, lv_slice, lv_nilFunc, lv_func, lv_nilIface, lv_iface, lv_nilMap, lv_agg, lv_tuple, allLive, Bool.and_true, grpA, hlv1, hlsl, nl]
    repeat (with_reducible refine And.intro ?_ ?_; · first | trivial | omega | (intro hg; simp only [Bool.and_eq_true, Bool.or_eq_true, Bool.not_eq_true', Bool.and_eq_false_iff, Bool.or_eq_false_iff, Bool.not_eq_false', decide_eq_true_eq, decide_eq_false_iff_not, eqNil] at hg; omega) )
    apply hK; clear hK K
    refine awp_block ?_
    refine awp_loopG [1, 2, 3, 7, 8] (fun i : Nat => [(1, .int .i64 n), (2, v1), (3, .ptr (.own k0q0) 0), (7, .int .i64 (badTo (items l) i)), (8, .int .i64 i)]) (fun i : Nat => h.set k0q0 ⟨[sl, .int .i64 sz], 0⟩) (fun i : Nat => i ≤ l.length) (fun i : Nat => l.length - i) 0 (by rfl) (Sub.refl _) (Nat.zero_le _) ?_
    rintro i hi
    refine awp_seq ?_
    -- region 5  law.go:244
    refine awp_rseq [1, 2, 3, 7, 8, 35] (by rfl) fun K hK => ?_
    simp (decide := true) only [aOps_nil, vOps_nil, fOps_nil, kOps_nil, ev, absV, absS, putD, Slots.put, Slots.get, Slots.keep, if_true, if_false, List.contains_cons, List.contains_nil, true_and, and_true, ↓ap_move, pop_move, ↓ap_fieldAddr, pop_fieldAddr, fa27_0, ↓ap_loadL, apL_mk, pLoad_one ag25, ↓ap_len, pop_len, pLen_slice Tryd.underlying25, pLen_nil Tryd.underlying25, ↓ap_binOp, pop_binOp, isNilC_tmp, cond_false, pBinX_int, pI_lss, rd_ne', ne_eq, not_false_eq_true, lv_map, rd_any, AVal.cells, setAt, List.set_cons_zero, List.set_cons_succ, cellsAt, List.getD_cons_zero, List.getD_cons_succ, Nat.zero_add, Nat.reduceAdd, lv_bool, lv_int, lv_str, lv_nilPtr, lv_ptr, lv_nilSlice, lv_slice, lv_nilFunc, lv_func, lv_nilIface, lv_iface, lv_nilMap, lv_agg, lv_tuple, allLive, Bool.and_true, grpA, hlv1, hlsl, nl]
    repeat (with_reducible refine And.intro ?_ ?_; · first | trivial | omega | (intro hg; simp only [Bool.and_eq_true, Bool.or_eq_true, Bool.not_eq_true', Bool.and_eq_false_iff, Bool.or_eq_false_iff, Bool.not_eq_false', decide_eq_true_eq, decide_eq_false_iff_not, eqNil] at hg; omega) )
    apply hK; clear hK K
    refine awp_cond (b := _) rfl (fun hb2 => ?_) (fun hb2 => ?_)
    · try simp only [decide_eq_true_eq, decide_eq_false_iff_not, Bool.not_eq_true', Bool.not_eq_false', Bool.and_eq_true, Bool.and_eq_false_iff, Bool.or_eq_true, Bool.or_eq_false_iff, Bool.true_eq, Bool.false_eq, reduceCtorEq] at hb2
      have hi' : i < l.length := by omega
      obtain ⟨lc, o, c, rfl⟩ := it_open hL (by omega)
      have hsub : Sub h (h.set k0q0 ⟨[.slice lc o l.length c, .int .i64 sz], 0⟩) := Sub.set hf_0q0
      have hLk := hL.mono hsub
      obtain ⟨⟨x, qo⟩, hx⟩ : ∃ a, l.getD i default = a := ⟨_, rfl⟩
      have hrl := it_rd hLk hi' (j := 1) (by decide) (w₀ := w₀)
      have hrp := it_rd hLk hi' (j := 2) (by decide) (w₀ := w₀)
      rw [hx] at hrl hrp
      have hrl' : rd w₀ (h.set k0q0 ⟨[.slice lc o l.length c, .int .i64 sz], 0⟩) lc (o + i * 22 + 1) = .int .i64 x.level := hrl
      have hrp' : rd w₀ (h.set k0q0 ⟨[.slice lc o l.length c, .int .i64 sz], 0⟩) lc (o + i * 22 + 2) = .int .i64 x.parent := hrp
      have hxi : (items l).getD i default = x := by rw [items_getD, hx]
      have hstep := badTo_step (items l) i
      rw [hxi, badAt_eq] at hstep
      simp only [Bool.or_eq_true, Bool.and_eq_true, decide_eq_true_eq] at hstep
      refine awp_skip ?_
      change Awp _ _ _ _ _ _ _
      refine awp_seq ?_
      refine awp_block ?_
      -- region 7  law.go:245
      refine awp_rseq [1, 2, 3, 7, 8, 9] (by rfl) fun K hK => ?_
      simp (decide := true) only [aOps_nil, vOps_nil, fOps_nil, kOps_nil, ev, absV, absS, putD, Slots.put, Slots.get, Slots.keep, if_true, if_false, List.contains_cons, List.contains_nil, true_and, and_true, ↓ap_fieldAddr, pop_fieldAddr, fa27_0, ↓ap_loadL, apL_mk, pLoad_one ag25, ↓ap_move, pop_move, ↓ap_indexAddrL, pIndexAddr_slice Tryd.underlying25 sz44, fa44_2, pLoad_one ag3, ↓ap_assign, pop_assign, rd_ne', ne_eq, not_false_eq_true, lv_map, rd_any, AVal.cells, setAt, List.set_cons_zero, List.set_cons_succ, cellsAt, List.getD_cons_zero, List.getD_cons_succ, Nat.zero_add, Nat.reduceAdd, lv_bool, lv_int, lv_str, lv_nilPtr, lv_ptr, lv_nilSlice, lv_slice, lv_nilFunc, lv_func, lv_nilIface, lv_iface, lv_nilMap, lv_agg, lv_tuple, allLive, Bool.and_true, grpA, hlv1, hlsl, nl, Int.toNat_natCast, hrp']
      repeat (with_reducible refine And.intro ?_ ?_; · first | trivial | omega | (intro hg; simp only [Bool.and_eq_true, Bool.or_eq_true, Bool.not_eq_true', Bool.and_eq_false_iff, Bool.or_eq_false_iff, Bool.not_eq_false', decide_eq_true_eq, decide_eq_false_iff_not, eqNil] at hg; omega) )
      apply hK; clear hK K
      -- region 8  law.go:246
      refine awp_rseq [1, 2, 3, 7, 8, 9, 50] (by rfl) fun K hK => ?_
      simp (decide := true) only [aOps_nil, vOps_nil, fOps_nil, kOps_nil, ev, absV, absS, putD, Slots.put, Slots.get, Slots.keep, if_true, if_false, List.contains_cons, List.contains_nil, true_and, and_true, ↓ap_move, pop_move, ↓ap_binOp, pop_binOp, isNilC_int, cond_false, pBinX_int, pI_lss, ↓ag_move, agP, agQ_some, gv, nthDst, gKnown_bool, gKnown_cond, guardB_cond, guardB_bool_true, guardB_bool_false, cv_cv, implies_true, Bool.not_not, decide_true, decide_false, Bool.not_false, Bool.not_true, condV_true, condV_false, forall_const, false_implies, pickV_true, pickV_false, Bool.and_true, Bool.and_false, Bool.true_and, Bool.false_and, Bool.or_true, Bool.or_false, Bool.true_or, Bool.false_or, agL_deadT, agL_deadF, agL_deadU, ↓ag_binOp, isNilC_tmp, cv_binl, cv_binr, cp_binl, cp_binr, pI_geq, ↓ap_pick, pop_pick, pPick_bool, pickV_cond_l, pickV_cond_r, pickV_cond_rn, cp_nest1, cp_nest2, cp_nest3, cp_nest4, pickV_and, pickV_or, rd_ne', ne_eq, not_false_eq_true, lv_map, rd_any, AVal.cells, setAt, List.set_cons_zero, List.set_cons_succ, cellsAt, List.getD_cons_zero, List.getD_cons_succ, Nat.zero_add, Nat.reduceAdd, lv_bool, lv_int, lv_str, lv_nilPtr, lv_ptr, lv_nilSlice, lv_slice, lv_nilFunc, lv_func, lv_nilIface, lv_iface, lv_nilMap, lv_agg, lv_tuple, allLive, Bool.and_true, grpA, hlv1, hlsl, nl]
      repeat (with_reducible refine And.intro ?_ ?_; · first | trivial | omega | (intro hg; simp only [Bool.and_eq_true, Bool.or_eq_true, Bool.not_eq_true', Bool.and_eq_false_iff, Bool.or_eq_false_iff, Bool.not_eq_false', decide_eq_true_eq, decide_eq_false_iff_not, eqNil] at hg; omega) )
      apply hK; clear hK K
      refine awp_cond (b := _) rfl (fun hb3 => ?_) (fun hb3 => ?_)
      · try simp only [decide_eq_true_eq, decide_eq_false_iff_not, Bool.not_eq_true', Bool.not_eq_false', Bool.and_eq_true, Bool.and_eq_false_iff, Bool.or_eq_true, Bool.or_eq_false_iff, Bool.true_eq, Bool.false_eq, reduceCtorEq] at hb3
        rw [if_pos (.inl hb3)] at hstep
        -- region 9  law.go:247
        refine awp_r [1, 2, 3, 7, 8] (by rfl) ?_
        simp (decide := true) only [aOps_nil, vOps_nil, fOps_nil, kOps_nil, ev, absV, absS, putD, Slots.put, Slots.get, Slots.keep, if_true, if_false, List.contains_cons, List.contains_nil, true_and, and_true, ↓ap_assign, pop_assign, rd_ne', ne_eq, not_false_eq_true, lv_map, rd_any, AVal.cells, setAt, List.set_cons_zero, List.set_cons_succ, cellsAt, List.getD_cons_zero, List.getD_cons_succ, Nat.zero_add, Nat.reduceAdd, lv_bool, lv_int, lv_str, lv_nilPtr, lv_ptr, lv_nilSlice, lv_slice, lv_nilFunc, lv_func, lv_nilIface, lv_iface, lv_nilMap, lv_agg, lv_tuple, allLive, Bool.and_true, grpA, hlv1, hlsl, nl]
        repeat (with_reducible refine And.intro ?_ ?_; · first | trivial | omega | (intro hg; simp only [Bool.and_eq_true, Bool.or_eq_true, Bool.not_eq_true', Bool.and_eq_false_iff, Bool.or_eq_false_iff, Bool.not_eq_false', decide_eq_true_eq, decide_eq_false_iff_not, eqNil] at hg; omega) )
        change Awp _ _ _ _ _ _ _
        -- region 6  law.go:244
        refine awp_r [1, 2, 3, 7, 8] (by rfl) ?_
        simp (decide := true) only [aOps_nil, vOps_nil, fOps_nil, kOps_nil, ev, absV, absS, putD, Slots.put, Slots.get, Slots.keep, if_true, if_false, List.contains_cons, List.contains_nil, true_and, and_true, ↓ap_move, pop_move, ↓ap_binOp, pop_binOp, isNilC_int, cond_false, pBinX_int, pI_add, ↓ap_assign, pop_assign, rd_ne', ne_eq, not_false_eq_true, lv_map, rd_any, AVal.cells, setAt, List.set_cons_zero, List.set_cons_succ, cellsAt, List.getD_cons_zero, List.getD_cons_succ, Nat.zero_add, Nat.reduceAdd, lv_bool, lv_int, lv_str, lv_nilPtr, lv_ptr, lv_nilSlice, lv_slice, lv_nilFunc, lv_func, lv_nilIface, lv_iface, lv_nilMap, lv_agg, lv_tuple, allLive, Bool.and_true, grpA, hlv1, hlsl, nl]
        try simp (disch := omega) only [wrap_i64, wrap_u8]
        repeat (with_reducible refine And.intro ?_ ?_; · first | trivial | omega | (intro hg; simp only [Bool.and_eq_true, Bool.or_eq_true, Bool.not_eq_true', Bool.and_eq_false_iff, Bool.or_eq_false_iff, Bool.not_eq_false', decide_eq_true_eq, decide_eq_false_iff_not, eqNil] at hg; omega) )
        try simp only [thenA_normal, inBlockA_normal]
        exact ⟨i + 1, by rw [hstep]; rfl, Sub.refl _, hi', by omega⟩
      · try simp only [decide_eq_true_eq, decide_eq_false_iff_not, Bool.not_eq_true', Bool.not_eq_false', Bool.and_eq_true, Bool.and_eq_false_iff, Bool.or_eq_true, Bool.or_eq_false_iff, Bool.true_eq, Bool.false_eq, reduceCtorEq] at hb3
        have hpr : x.parent.toNat < l.length := by omega
        have hrq := it_rd hLk hpr (j := 1) (by decide) (w₀ := w₀)
        have hrq' : rd w₀ (h.set k0q0 ⟨[.slice lc o l.length c, .int .i64 sz], 0⟩) lc (o + x.parent.toNat * 22 + 1) = .int .i64 ((items l).getD x.parent.toNat default).level := by rw [hrq, items_getD]; rfl
        -- region 10  law.go:248
        refine awp_dseq_all [1, 2, 3, 7, 8, 67] mixed (by kernel_rfl) (by rfl) (by rfl) fun K hK => ?_
        simp (decide := true) only [aOps_nil, vOps_nil, fOps_nil, kOps_nil, ev, absV, absS, putD, Slots.put, Slots.get, Slots.keep, if_true, if_false, List.contains_cons, List.contains_nil, true_and, and_true, ↓ap_move, pop_move, ↓ap_binOp, pop_binOp, isNilC_int, cond_false, pBinX_int, pI_geq, ↓ag_fieldAddr, pop_fieldAddr, agP, agQ_some, gv, nthDst, gKnown_bool, gKnown_cond, guardB_cond, guardB_bool_true, guardB_bool_false, cv_cv, implies_true, Bool.not_not, decide_true, decide_false, Bool.not_false, Bool.not_true, condV_true, condV_false, forall_const, false_implies, pickV_true, pickV_false, Bool.and_true, Bool.and_false, Bool.true_and, Bool.false_and, Bool.or_true, Bool.or_false, Bool.true_or, Bool.false_or, fa27_0, cv_fieldAddr, cp_fieldAddr, agL_deadT, agL_deadF, agL_deadU, ↓ag_loadL, apL_mk, agQL_some, agL_mk, agL_ld1, agL_ld2, agL_ld3, agL_ld4, agL_ld5, agL_ld6, pLoad_one ag25, cv_load, cp_load, ↓ag_move, ↓ag_indexAddrL, agL_il1, agL_il2, agL_il3, agL_il4, agL_il5, agL_il6, agL_ir5, agL_ir6, agL_ir1, agL_ir2, agL_ir3, agL_ir4, pIndexAddr_slice Tryd.underlying25 sz44, cv_iaddrl, cv_iaddrr, cp_iaddrl, cp_iaddrr, fa44_1, pLoad_one ag3, ↓ag_binOp, isNilC_tmp, cv_binl, cv_binr, cp_binl, cp_binr, ↓ap_pick, pop_pick, pPick_bool, pickV_cond_l, pickV_cond_r, pickV_cond_rn, cp_nest1, cp_nest2, cp_nest3, cp_nest4, pickV_and, pickV_or, rd_ne', ne_eq, not_false_eq_true, lv_map, rd_any, AVal.cells, setAt, List.set_cons_zero, List.set_cons_succ, cellsAt, List.getD_cons_zero, List.getD_cons_succ, Nat.zero_add, Nat.reduceAdd, lv_bool, lv_int, lv_str, lv_nilPtr, lv_ptr, lv_nilSlice, lv_slice, lv_nilFunc, lv_func, lv_nilIface, lv_iface, lv_nilMap, lv_agg, lv_tuple, allLive, Bool.and_true, grpA, hlv1, hlsl, nl, Int.toNat_natCast, hrl', hrq']
        repeat (with_reducible refine And.intro ?_ ?_; · first | trivial | omega | (intro hg; simp only [Bool.and_eq_true, Bool.or_eq_true, Bool.not_eq_true', Bool.and_eq_false_iff, Bool.or_eq_false_iff, Bool.not_eq_false', decide_eq_true_eq, decide_eq_false_iff_not, eqNil] at hg; omega) )
        apply hK; clear hK K
        refine awp_cond (b := _) rfl (fun hb4 => ?_) (fun hb4 => ?_)
        · try simp only [decide_eq_true_eq, decide_eq_false_iff_not, Bool.not_eq_true', Bool.not_eq_false', Bool.and_eq_true, Bool.and_eq_false_iff, Bool.or_eq_true, Bool.or_eq_false_iff, Bool.true_eq, Bool.false_eq, reduceCtorEq] at hb4
          rw [if_pos (.inr hb4)] at hstep
          -- region 11  law.go:249
          refine awp_r [1, 2, 3, 7, 8] (by rfl) ?_
          simp (decide := true) only [aOps_nil, vOps_nil, fOps_nil, kOps_nil, ev, absV, absS, putD, Slots.put, Slots.get, Slots.keep, if_true, if_false, List.contains_cons, List.contains_nil, true_and, and_true, ↓ap_assign, pop_assign, rd_ne', ne_eq, not_false_eq_true, lv_map, rd_any, AVal.cells, setAt, List.set_cons_zero, List.set_cons_succ, cellsAt, List.getD_cons_zero, List.getD_cons_succ, Nat.zero_add, Nat.reduceAdd, lv_bool, lv_int, lv_str, lv_nilPtr, lv_ptr, lv_nilSlice, lv_slice, lv_nilFunc, lv_func, lv_nilIface, lv_iface, lv_nilMap, lv_agg, lv_tuple, allLive, Bool.and_true, grpA, hlv1, hlsl, nl]
          repeat (with_reducible refine And.intro ?_ ?_; · first | trivial | omega | (intro hg; simp only [Bool.and_eq_true, Bool.or_eq_true, Bool.not_eq_true', Bool.and_eq_false_iff, Bool.or_eq_false_iff, Bool.not_eq_false', decide_eq_true_eq, decide_eq_false_iff_not, eqNil] at hg; omega) )
          change Awp _ _ _ _ _ _ _
          -- region 6  law.go:244
          refine awp_r [1, 2, 3, 7, 8] (by rfl) ?_
          simp (decide := true) only [aOps_nil, vOps_nil, fOps_nil, kOps_nil, ev, absV, absS, putD, Slots.put, Slots.get, Slots.keep, if_true, if_false, List.contains_cons, List.contains_nil, true_and, and_true, ↓ap_move, pop_move, ↓ap_binOp, pop_binOp, isNilC_int, cond_false, pBinX_int, pI_add, ↓ap_assign, pop_assign, rd_ne', ne_eq, not_false_eq_true, lv_map, rd_any, AVal.cells, setAt, List.set_cons_zero, List.set_cons_succ, cellsAt, List.getD_cons_zero, List.getD_cons_succ, Nat.zero_add, Nat.reduceAdd, lv_bool, lv_int, lv_str, lv_nilPtr, lv_ptr, lv_nilSlice, lv_slice, lv_nilFunc, lv_func, lv_nilIface, lv_iface, lv_nilMap, lv_agg, lv_tuple, allLive, Bool.and_true, grpA, hlv1, hlsl, nl]
          try simp (disch := omega) only [wrap_i64, wrap_u8]
          repeat (with_reducible refine And.intro ?_ ?_; · first | trivial | omega | (intro hg; simp only [Bool.and_eq_true, Bool.or_eq_true, Bool.not_eq_true', Bool.and_eq_false_iff, Bool.or_eq_false_iff, Bool.not_eq_false', decide_eq_true_eq, decide_eq_false_iff_not, eqNil] at hg; omega) )
          try simp only [thenA_normal, inBlockA_normal]
          exact ⟨i + 1, by rw [hstep]; rfl, Sub.refl _, hi', by omega⟩
        · try simp only [decide_eq_true_eq, decide_eq_false_iff_not, Bool.not_eq_true', Bool.not_eq_false', Bool.and_eq_true, Bool.and_eq_false_iff, Bool.or_eq_true, Bool.or_eq_false_iff, Bool.true_eq, Bool.false_eq, reduceCtorEq] at hb4
          rw [if_neg (fun q => by omega)] at hstep
          refine awp_skip ?_
          change Awp _ _ _ _ _ _ _
          -- region 6  law.go:244
          refine awp_r [1, 2, 3, 7, 8] (by rfl) ?_
          simp (decide := true) only [aOps_nil, vOps_nil, fOps_nil, kOps_nil, ev, absV, absS, putD, Slots.put, Slots.get, Slots.keep, if_true, if_false, List.contains_cons, List.contains_nil, true_and, and_true, ↓ap_move, pop_move, ↓ap_binOp, pop_binOp, isNilC_int, cond_false, pBinX_int, pI_add, ↓ap_assign, pop_assign, rd_ne', ne_eq, not_false_eq_true, lv_map, rd_any, AVal.cells, setAt, List.set_cons_zero, List.set_cons_succ, cellsAt, List.getD_cons_zero, List.getD_cons_succ, Nat.zero_add, Nat.reduceAdd, lv_bool, lv_int, lv_str, lv_nilPtr, lv_ptr, lv_nilSlice, lv_slice, lv_nilFunc, lv_func, lv_nilIface, lv_iface, lv_nilMap, lv_agg, lv_tuple, allLive, Bool.and_true, grpA, hlv1, hlsl, nl]
          try simp (disch := omega) only [wrap_i64, wrap_u8]
          repeat (with_reducible refine And.intro ?_ ?_; · first | trivial | omega | (intro hg; simp only [Bool.and_eq_true, Bool.or_eq_true, Bool.not_eq_true', Bool.and_eq_false_iff, Bool.or_eq_false_iff, Bool.not_eq_false', decide_eq_true_eq, decide_eq_false_iff_not, eqNil] at hg; omega) )
          try simp only [thenA_normal, inBlockA_normal]
          exact ⟨i + 1, by rw [hstep]; rfl, Sub.refl _, hi', by omega⟩
    · try simp only [decide_eq_true_eq, decide_eq_false_iff_not, Bool.not_eq_true', Bool.not_eq_false', Bool.and_eq_true, Bool.and_eq_false_iff, Bool.or_eq_true, Bool.or_eq_false_iff, Bool.true_eq, Bool.false_eq, reduceCtorEq] at hb2
      obtain rfl : i = l.length := by omega
      have hWl := badTo_all (items l)
      rw [hinl] at hWl
      obtain ⟨W, hW⟩ : ∃ W, W = badTo (items l) l.length := ⟨_, rfl⟩
      rw [← hW] at hWl ⊢
      have hwant := want_check (l := items l) (by omega) n
      unfold wantE at hwant
      refine awp_exit ?_
      change Awp _ _ _ _ _ _ _
      refine awp_seq ?_
      -- region 12  law.go:252
      refine awp_rseq [1, 2, 3, 7, 76] (by rfl) fun K hK => ?_
      simp (decide := true) only [aOps_nil, vOps_nil, fOps_nil, kOps_nil, ev, absV, absS, putD, Slots.put, Slots.get, Slots.keep, if_true, if_false, List.contains_cons, List.contains_nil, true_and, and_true, ↓ap_move, pop_move, ↓ap_binOp, pop_binOp, isNilC_int, cond_false, pBinX_int, pI_lss, ↓ag_move, agP, agQ_some, gv, nthDst, gKnown_bool, gKnown_cond, guardB_cond, guardB_bool_true, guardB_bool_false, cv_cv, implies_true, Bool.not_not, decide_true, decide_false, Bool.not_false, Bool.not_true, condV_true, condV_false, forall_const, false_implies, pickV_true, pickV_false, Bool.and_true, Bool.and_false, Bool.true_and, Bool.false_and, Bool.or_true, Bool.or_false, Bool.true_or, Bool.false_or, agL_deadT, agL_deadF, agL_deadU, ↓ag_fieldAddr, pop_fieldAddr, fa27_0, cv_fieldAddr, cp_fieldAddr, ↓ag_loadL, apL_mk, agQL_some, agL_mk, agL_ld1, agL_ld2, agL_ld3, agL_ld4, agL_ld5, agL_ld6, pLoad_one ag25, cv_load, cp_load, ↓ag_len, pop_len, pLen_slice Tryd.underlying25, pLen_nil Tryd.underlying25, cv_len, cp_len, ↓ag_binOp, isNilC_tmp, cv_binl, cv_binr, cp_binl, cp_binr, pI_geq, ↓ap_pick, pop_pick, pPick_bool, pickV_cond_l, pickV_cond_r, pickV_cond_rn, cp_nest1, cp_nest2, cp_nest3, cp_nest4, pickV_and, pickV_or, rd_ne', ne_eq, not_false_eq_true, lv_map, rd_any, AVal.cells, setAt, List.set_cons_zero, List.set_cons_succ, cellsAt, List.getD_cons_zero, List.getD_cons_succ, Nat.zero_add, Nat.reduceAdd, lv_bool, lv_int, lv_str, lv_nilPtr, lv_ptr, lv_nilSlice, lv_slice, lv_nilFunc, lv_func, lv_nilIface, lv_iface, lv_nilMap, lv_agg, lv_tuple, allLive, Bool.and_true, grpA, hlv1, hlsl, nl]
      repeat (with_reducible refine And.intro ?_ ?_; · first | trivial | omega | (intro hg; simp only [Bool.and_eq_true, Bool.or_eq_true, Bool.not_eq_true', Bool.and_eq_false_iff, Bool.or_eq_false_iff, Bool.not_eq_false', decide_eq_true_eq, decide_eq_false_iff_not, eqNil] at hg; omega) )
      apply hK; clear hK K
      refine awp_cond (b := _) rfl (fun hb5 => ?_) (fun hb5 => ?_)
      · try simp only [decide_eq_true_eq, decide_eq_false_iff_not, Bool.not_eq_true', Bool.not_eq_false', Bool.and_eq_true, Bool.and_eq_false_iff, Bool.or_eq_true, Bool.or_eq_false_iff, Bool.true_eq, Bool.false_eq, reduceCtorEq] at hb5
        have qa : n = n := rfl
        have ql : n = n := rfl
        have hwe : (1 : Int) = checkE (items l) n := by rw [← hwant, if_pos (by rw [hinl]; omega)]
        -- region 13  law.go:253
        refine awp_r [1, 2, 3, 7] (by rfl) ?_
        simp (decide := true) only [aOps_nil, vOps_nil, fOps_nil, kOps_nil, ev, absV, absS, putD, Slots.put, Slots.get, Slots.keep, if_true, if_false, List.contains_cons, List.contains_nil, true_and, and_true, ↓ap_assign, pop_assign, rd_ne', ne_eq, not_false_eq_true, lv_map, rd_any, AVal.cells, setAt, List.set_cons_zero, List.set_cons_succ, cellsAt, List.getD_cons_zero, List.getD_cons_succ, Nat.zero_add, Nat.reduceAdd, lv_bool, lv_int, lv_str, lv_nilPtr, lv_ptr, lv_nilSlice, lv_slice, lv_nilFunc, lv_func, lv_nilIface, lv_iface, lv_nilMap, lv_agg, lv_tuple, allLive, Bool.and_true, grpA, hlv1, hlsl, nl]
        repeat (with_reducible refine And.intro ?_ ?_; · first | trivial | omega | (intro hg; simp only [Bool.and_eq_true, Bool.or_eq_true, Bool.not_eq_true', Bool.and_eq_false_iff, Bool.or_eq_false_iff, Bool.not_eq_false', decide_eq_true_eq, decide_eq_false_iff_not, eqNil] at hg; omega) )
        change Awp _ _ _ _ _ _ _
        refine awp_seq ?_
        -- region 14  law.go:255
        refine awp_rseq [1, 2, 3, 7, 97] (by rfl) fun K hK => ?_
        simp (decide := true) only [aOps_nil, vOps_nil, fOps_nil, kOps_nil, ev, absV, absS, putD, Slots.put, Slots.get, Slots.keep, if_true, if_false, List.contains_cons, List.contains_nil, true_and, and_true, ↓ap_move, pop_move, ↓ap_binOp, pop_binOp, isNilC_int, cond_false, pBinX_int, pI_eql, ↓ag_fieldAddr, pop_fieldAddr, agP, agQ_some, gv, nthDst, gKnown_bool, gKnown_cond, guardB_cond, guardB_bool_true, guardB_bool_false, cv_cv, implies_true, Bool.not_not, decide_true, decide_false, Bool.not_false, Bool.not_true, condV_true, condV_false, forall_const, false_implies, pickV_true, pickV_false, Bool.and_true, Bool.and_false, Bool.true_and, Bool.false_and, Bool.or_true, Bool.or_false, Bool.true_or, Bool.false_or, fa27_0, cv_fieldAddr, cp_fieldAddr, agL_deadT, agL_deadF, agL_deadU, ↓ag_loadL, apL_mk, agQL_some, agL_mk, agL_ld1, agL_ld2, agL_ld3, agL_ld4, agL_ld5, agL_ld6, pLoad_one ag25, cv_load, cp_load, ↓ag_move, ↓ag_indexAddrL, agL_il1, agL_il2, agL_il3, agL_il4, agL_il5, agL_il6, agL_ir5, agL_ir6, agL_ir1, agL_ir2, agL_ir3, agL_ir4, pIndexAddr_slice Tryd.underlying25 sz44, cv_iaddrl, cv_iaddrr, cp_iaddrl, cp_iaddrr, fa44_3, fa41_0, pLoad_one ag38, ↓ag_binOp, cv_binl, cv_binr, cp_binl, cp_binr, pI_neq, fa44_1, pLoad_one ag3, pI_gtr, ↓ag_pick, pop_pick, pPick_bool, pickV_cond_l, pickV_cond_r, pickV_cond_rn, cp_nest1, cp_nest2, cp_nest3, cp_nest4, pickV_and, pickV_or, cv_pick, cp_pick, ↓ap_pick, rd_ne', ne_eq, not_false_eq_true, lv_map, rd_any, AVal.cells, setAt, List.set_cons_zero, List.set_cons_succ, cellsAt, List.getD_cons_zero, List.getD_cons_succ, Nat.zero_add, Nat.reduceAdd, lv_bool, lv_int, lv_str, lv_nilPtr, lv_ptr, lv_nilSlice, lv_slice, lv_nilFunc, lv_func, lv_nilIface, lv_iface, lv_nilMap, lv_agg, lv_tuple, allLive, Bool.and_true, grpA, hlv1, hlsl, nl, qa, ql]
        repeat (with_reducible refine And.intro ?_ ?_; · first | trivial | omega | (intro hg; simp only [Bool.and_eq_true, Bool.or_eq_true, Bool.not_eq_true', Bool.and_eq_false_iff, Bool.or_eq_false_iff, Bool.not_eq_false', decide_eq_true_eq, decide_eq_false_iff_not, eqNil] at hg; omega) )
        apply hK; clear hK K
        refine awp_cond (b := _) rfl (fun hb6 => ?_) (fun hb6 => ?_)
        · exact absurd hb6 (by simp)
        · try simp only [decide_eq_true_eq, decide_eq_false_iff_not, Bool.not_eq_true', Bool.not_eq_false', Bool.and_eq_true, Bool.and_eq_false_iff, Bool.or_eq_true, Bool.or_eq_false_iff, Bool.true_eq, Bool.false_eq, reduceCtorEq] at hb6
          refine awp_skip ?_
          change Awp _ _ _ _ _ _ _
          refine Awp.keep [1, 2, 3, 7] ?_
          exact l_Err16 w₀ ht10 h _ k0q0 _ sz n l v1 c1 hm1 hl1 hk1 hsl (Sub.set hf_0q0) (AHeap.set_same _ _ _) hL (by omega) hnm _ hwe
      · try simp only [decide_eq_true_eq, decide_eq_false_iff_not, Bool.not_eq_true', Bool.not_eq_false', Bool.and_eq_true, Bool.and_eq_false_iff, Bool.or_eq_true, Bool.or_eq_false_iff, Bool.true_eq, Bool.false_eq, reduceCtorEq] at hb5
        rw [if_neg (by rw [hinl]; omega)] at hwant
        obtain ⟨lc, o, c, rfl⟩ := it_open hL (by omega)
        have hsub : Sub h (h.set k0q0 ⟨[.slice lc o l.length c, .int .i64 sz], 0⟩) := Sub.set hf_0q0
        have hLk := hL.mono hsub
        have qa0 := it_rd hLk (i := n.toNat) (by omega) (j := 3) (by decide) (w₀ := w₀)
        have ql0 := it_rd hLk (i := n.toNat) (by omega) (j := 1) (by decide) (w₀ := w₀)
        have qa : rd w₀ (h.set k0q0 ⟨[.slice lc o l.length c, .int .i64 sz], 0⟩) lc (o + n.toNat * 22 + 3) = .int .u8 ((items l).getD n.toNat default).cat := by rw [qa0, items_getD]; rfl
        have ql : rd w₀ (h.set k0q0 ⟨[.slice lc o l.length c, .int .i64 sz], 0⟩) lc (o + n.toNat * 22 + 1) = .int .i64 ((items l).getD n.toNat default).level := by rw [ql0, items_getD]; rfl
        refine awp_skip ?_
        change Awp _ _ _ _ _ _ _
        refine awp_seq ?_
        -- region 14  law.go:255
        refine awp_rseq [1, 2, 3, 7, 97] (by rfl) fun K hK => ?_
        simp (decide := true) only [aOps_nil, vOps_nil, fOps_nil, kOps_nil, ev, absV, absS, putD, Slots.put, Slots.get, Slots.keep, if_true, if_false, List.contains_cons, List.contains_nil, true_and, and_true, ↓ap_move, pop_move, ↓ap_binOp, pop_binOp, isNilC_int, cond_false, pBinX_int, pI_eql, ↓ag_fieldAddr, pop_fieldAddr, agP, agQ_some, gv, nthDst, gKnown_bool, gKnown_cond, guardB_cond, guardB_bool_true, guardB_bool_false, cv_cv, implies_true, Bool.not_not, decide_true, decide_false, Bool.not_false, Bool.not_true, condV_true, condV_false, forall_const, false_implies, pickV_true, pickV_false, Bool.and_true, Bool.and_false, Bool.true_and, Bool.false_and, Bool.or_true, Bool.or_false, Bool.true_or, Bool.false_or, fa27_0, cv_fieldAddr, cp_fieldAddr, agL_deadT, agL_deadF, agL_deadU, ↓ag_loadL, apL_mk, agQL_some, agL_mk, agL_ld1, agL_ld2, agL_ld3, agL_ld4, agL_ld5, agL_ld6, pLoad_one ag25, cv_load, cp_load, ↓ag_move, ↓ag_indexAddrL, agL_il1, agL_il2, agL_il3, agL_il4, agL_il5, agL_il6, agL_ir5, agL_ir6, agL_ir1, agL_ir2, agL_ir3, agL_ir4, pIndexAddr_slice Tryd.underlying25 sz44, cv_iaddrl, cv_iaddrr, cp_iaddrl, cp_iaddrr, fa44_3, fa41_0, pLoad_one ag38, ↓ag_binOp, cv_binl, cv_binr, cp_binl, cp_binr, pI_neq, fa44_1, pLoad_one ag3, pI_gtr, ↓ag_pick, pop_pick, pPick_bool, pickV_cond_l, pickV_cond_r, pickV_cond_rn, cp_nest1, cp_nest2, cp_nest3, cp_nest4, pickV_and, pickV_or, cv_pick, cp_pick, ↓ap_pick, rd_ne', ne_eq, not_false_eq_true, lv_map, rd_any, AVal.cells, setAt, List.set_cons_zero, List.set_cons_succ, cellsAt, List.getD_cons_zero, List.getD_cons_succ, Nat.zero_add, Nat.reduceAdd, lv_bool, lv_int, lv_str, lv_nilPtr, lv_ptr, lv_nilSlice, lv_slice, lv_nilFunc, lv_func, lv_nilIface, lv_iface, lv_nilMap, lv_agg, lv_tuple, allLive, Bool.and_true, grpA, hlv1, hlsl, nl, qa, ql]
        repeat (with_reducible refine And.intro ?_ ?_; · first | trivial | omega | (intro hg; simp only [Bool.and_eq_true, Bool.or_eq_true, Bool.not_eq_true', Bool.and_eq_false_iff, Bool.or_eq_false_iff, Bool.not_eq_false', decide_eq_true_eq, decide_eq_false_iff_not, eqNil] at hg; omega) )
        apply hK; clear hK K
        refine awp_cond (b := _) rfl (fun hb7 => ?_) (fun hb7 => ?_)
        · try simp only [decide_eq_true_eq, decide_eq_false_iff_not, Bool.not_eq_true', Bool.not_eq_false', Bool.and_eq_true, Bool.and_eq_false_iff, Bool.or_eq_true, Bool.or_eq_false_iff, Bool.true_eq, Bool.false_eq, reduceCtorEq] at hb7
          have ho : ¬ ordE (items l) = false := fun e => by rw [if_pos e] at hWl; omega
          rw [if_neg ho, if_pos hb7.2] at hwant
          have hwe : (12 : Int) = checkE (items l) n := hwant
          -- region 15  law.go:256
          refine awp_r [1, 2, 3, 7] (by rfl) ?_
          simp (decide := true) only [aOps_nil, vOps_nil, fOps_nil, kOps_nil, ev, absV, absS, putD, Slots.put, Slots.get, Slots.keep, if_true, if_false, List.contains_cons, List.contains_nil, true_and, and_true, ↓ap_assign, pop_assign, rd_ne', ne_eq, not_false_eq_true, lv_map, rd_any, AVal.cells, setAt, List.set_cons_zero, List.set_cons_succ, cellsAt, List.getD_cons_zero, List.getD_cons_succ, Nat.zero_add, Nat.reduceAdd, lv_bool, lv_int, lv_str, lv_nilPtr, lv_ptr, lv_nilSlice, lv_slice, lv_nilFunc, lv_func, lv_nilIface, lv_iface, lv_nilMap, lv_agg, lv_tuple, allLive, Bool.and_true, grpA, hlv1, hlsl, nl]
          repeat (with_reducible refine And.intro ?_ ?_; · first | trivial | omega | (intro hg; simp only [Bool.and_eq_true, Bool.or_eq_true, Bool.not_eq_true', Bool.and_eq_false_iff, Bool.or_eq_false_iff, Bool.not_eq_false', decide_eq_true_eq, decide_eq_false_iff_not, eqNil] at hg; omega) )
          change Awp _ _ _ _ _ _ _
          refine Awp.keep [1, 2, 3, 7] ?_
          exact l_Err16 w₀ ht10 h _ k0q0 _ sz n l v1 c1 hm1 hl1 hk1 hsl (Sub.set hf_0q0) (AHeap.set_same _ _ _) hL (by omega) hnm _ hwe
        · try simp only [decide_eq_true_eq, decide_eq_false_iff_not, Bool.not_eq_true', Bool.not_eq_false', Bool.and_eq_true, Bool.and_eq_false_iff, Bool.or_eq_true, Bool.or_eq_false_iff, Bool.true_eq, Bool.false_eq, reduceCtorEq] at hb7
          have hwe : W = checkE (items l) n := by
           by_cases e : ordE (items l) = false
           · rw [if_pos e] at hWl hwant
             exact hWl.trans hwant
           · rw [if_neg e] at hWl hwant
             rw [if_neg (fun q => by
               rcases hb7 with q1 | q1
               · exact q1 hWl
               · rcases q with q2 | q2
                 · exact q2 q1.1
                 · exact q1.2 q2)] at hwant
             exact hWl.trans hwant
          refine awp_skip ?_
          change Awp _ _ _ _ _ _ _
          refine Awp.keep [1, 2, 3, 7] ?_
          exact l_Err16 w₀ ht10 h _ k0q0 _ sz n l v1 c1 hm1 hl1 hk1 hsl (Sub.set hf_0q0) (AHeap.set_same _ _ _) hL (by omega) hnm _ hwe
end Go.Proofs.YtgnebodlkfblcaaDoor

/-
  The arguments of the statements, opened: booleans, texts, integers, pairs of bytes; the wrap that hands on the world's shape.
  Conditions: none.
-/
namespace Go.Proofs.YtgnebodlkfblcaaDoor
open Go.AM
open Go.ChangeShapes Go.WideShapes Go.ChangeAt Go.RowKit
set_option maxRecDepth 100000

section
variable {H : Type} {enc : TypeId × Value → H} {W : World} {base : Nat} {v : Value} {x : DataW H × List MemPlace}
theorem arg_i64 {t : TypeId} (ht : Tryd.prog.underlying t = some (.int .i64)) (h : ∃ fuel, DataW.trod enc Tryd.prog W 0 (fun _ => true) true fuel t v.cells.toList = some x) (hv : Value.okWide Tryd.prog W .any base t v) :
    ∃ n : Int, VR (fun _ => none) (.int .i64 n) v ∧ -9223372036854775808 ≤ n ∧ n ≤ 9223372036854775807 := by
  obtain ⟨fuel, hf⟩ := h
  obtain ⟨n, hcs, _, hw⟩ := DataW.trod_int ht hf
  obtain ⟨m, rfl⟩ := okWide_int ht hv
  simp [Value.cells] at hcs
  subst hcs
  exact ⟨m, by simp only [VR], wf_i64 hw⟩

end

end Go.Proofs.YtgnebodlkfblcaaDoor

/-
  The arguments of the statements, opened: a slice whose elements are of one kind, given what an element is.
  Conditions: none. Nothing here is about a particular program.
-/
namespace Go.AM
open Go.ChangeShapes Go.WideShapes Go.ChangeAt Go.RowKit

section
variable {P : Program} {H : Type} {enc : TypeId × Value → H} {W : World} {α : Type}

/-- What an element of type e is: es cells, those of an x; and what is known of x. -/
structure RowOf (P : Program) (enc : TypeId × Value → H) (W : World) (e : TypeId) (es : Nat) (el : α → List Value) (inv : α → Prop) : Prop where
  size : P.cellsOf e = es
  pos : 0 < es
  len : ∀ x, (el x).length = es
  live : ∀ x, inv x → allLive ((el x).map absS) = true
  cell : ∀ (n : Nat) (cs : List Value) (y : DataW H × List MemPlace), DataW.trod enc P W 0 (fun _ => true) true n e cs = some y → ∃ x, cs = el x ∧ inv x

theorem rows_list {el : α → List Value} {inv : α → Prop} {es : Nat} {a : Addr} : ∀ (len : Nat), (∀ i, i < len → ∃ x : α, inv x ∧ ∀ j, j < es → W.cell? (a.add (i * es + j)) = (el x)[j]?) →
    ∃ l : List α, l.length = len ∧ (∀ x ∈ l, inv x) ∧ ∀ i (hi : i < l.length), ∀ j, j < es → W.cell? (a.add (i * es + j)) = (el l[i])[j]?
  | 0, _ => ⟨[], rfl, by simp, fun i hi => by simp at hi⟩
  | n + 1, h => by
    obtain ⟨l, h1, h2, h3⟩ := rows_list n fun i hi => h i (by omega)
    obtain ⟨x, hx, hc⟩ := h n (by omega)
    refine ⟨l ++ [x], by simp [h1], ?_, fun i hi j hj => ?_⟩
    · intro y hy
      rcases List.mem_append.1 hy with hy | hy
      · exact h2 y hy
      · rw [List.mem_singleton.1 hy]; exact hx
    · by_cases hin : i < l.length
      · rw [List.getElem_append_left hin]
        exact h3 i hin j hj
      · have e : i = n := by simp at hi; omega
        subst e
        have : (l ++ [x])[i] = x := by rw [List.getElem_append_right (by omega)]; simp
        rw [this]
        exact hc j hj

theorem isL_rows {el : α → List Value} {inv : α → Prop} {es : Nat} (hes : 0 < es) (hlen : ∀ x, (el x).length = es) (hlive : ∀ x, inv x → allLive ((el x).map absS) = true) {b o cap : Nat} {l : List α} (hi : ∀ x ∈ l, inv x) (hcap : l.length ≤ cap)
    (hc : ∀ i (hi : i < l.length), ∀ j, j < es → W.cell? ((⟨b, o, none⟩ : Addr).add (i * es + j)) = (el l[i])[j]?) :
    IsL W (fun _ => none) es (.slice (.base b) o l.length (.exact cap)) (l.map fun x => (el x).map absS) := by
  have hw : ∀ x ∈ l.map (fun x => (el x).map absS), x.length = es := by
    intro x hx
    obtain ⟨y, _, rfl⟩ := List.mem_map.1 hx
    rw [List.length_map, hlen]
  refine .mk _ _ _ _ _ (by rw [List.length_map]) hw ?_ (allLive_flatten.2 fun x hx => by obtain ⟨y, hy, rfl⟩ := List.mem_map.1 hx; exact hlive y (hi y hy)) hcap
  apply List.ext_getElem?
  intro q
  by_cases hq : q < l.length * es
  · rw [cellsAt_get _ _ _ _ _ _ hq]
    have hm : q % es < es := Nat.mod_lt _ hes
    have hd : q / es < l.length := Nat.div_lt_of_lt_mul (by rw [Nat.mul_comm]; exact hq)
    have hqe : q = q / es * es + q % es := by rw [Nat.mul_comm]; exact (Nat.div_add_mod q es).symm
    have hcell := hc (q / es) hd (q % es) hm
    rw [← hqe] at hcell
    have ea : (⟨b, o, none⟩ : Addr).add q = ⟨b, o + q, none⟩ := by by_cases e : q = 0 <;> simp [Addr.add, e]
    rw [ea, List.getElem?_eq_getElem (by rw [hlen]; exact hm)] at hcell
    have h2 := flatten_get hw (i := q / es) (j := q % es) (by rw [List.length_map]; exact hd) hm
    rw [← hqe] at h2
    rw [h2, List.getD_eq_getElem?_getD, List.getElem?_map, List.getElem?_eq_getElem hd, Option.map_some, Option.getD_some, List.getElem?_map, List.getElem?_eq_getElem (by rw [hlen]; exact hm), Option.map_some]
    have hlt : b < W.heap.size := cell_lt hcell
    simp only [AM.rd, hlt, if_true, hcell]
  · rw [List.getElem?_eq_none (by rw [cellsAt_length]; omega), List.getElem?_eq_none (by rw [flatten_len hw, List.length_map]; omega)]

theorem trod_rows {e t : TypeId} {es : Nat} {el : α → List Value} {inv : α → Prop} (R : RowOf P enc W e es el inv) (ht : P.underlying t = some (.slice e)) {n : Nat} {cs : List Value} {y : DataW H × List MemPlace} (h : DataW.trod enc P W 0 (fun _ => true) true n t cs = some y) :
    ∃ (v : Value) (l : List α), cs = [v] ∧ IsL W (fun _ => none) es (absS v) (l.map fun x => (el x).map absS) ∧ l.length ≤ 9223372036854775807 ∧ ∀ x ∈ l, inv x := by
  rcases DataW.trod_slice ht h with ⟨hcs, _⟩ | ⟨a, len, cap, elems, rest, n', _, hcs, _, _, hlc, hcm, hel, hcell, hspare, _⟩
  · exact ⟨_, [], hcs, .nil, by simp, by simp⟩
  · have hlen : len ≤ 9223372036854775807 := Nat.le_trans hlc hcm
    have one : ∀ (m i : Nat) (q : Option (DataW H × List MemPlace)), (W.cells? 0 (a.add (i * P.cellsOf e)) (P.cellsOf e)).bind (DataW.trod enc P W 0 (fun _ => true) true m e) = q → q.isSome = true → ∃ x : α, inv x ∧ ∀ j, j < es → W.cell? (a.add (i * es + j)) = (el x)[j]? := by
      intro m i q hq hs
      cases q with
      | none => cases hs
      | some z =>
        rw [Option.bind_eq_some_iff] at hq
        obtain ⟨cs', hcs', hy⟩ := hq
        obtain ⟨x, rfl, hx⟩ := R.cell _ _ _ hy
        rw [R.size] at hcs'
        refine ⟨x, hx, fun j hj => ?_⟩
        have := (World.cells?_some hcs').2.2 j hj
        rw [← this]
        congr 1
        obtain ⟨ab, ao, asp⟩ := a
        by_cases e1 : i * es = 0 <;> by_cases e2 : j = 0 <;> simp [Addr.add, e1, e2, Nat.add_assoc]
    obtain ⟨l, l1, l2, l3⟩ := rows_list (W := W) (el := el) (inv := inv) (es := es) (a := a) len fun i hi => one n' i _ (hcell i hi) (by rw [List.getElem?_eq_getElem (by omega)]; rfl)
    have spot : ∀ (x : α), (∀ j, j < es → W.cell? (a.add (0 * es + j)) = (el x)[j]?) → a.spot = none := by
      intro x hx
      have h0 := hx 0 R.pos
      rw [List.getElem?_eq_getElem (by rw [R.len]; exact R.pos)] at h0
      have := World.cell?_spot h0
      rwa [Addr.add, if_pos (by rw [Nat.zero_mul])] at this
    refine ⟨.slice (some a) len cap, l, hcs, ?_, by omega, l2⟩
    subst l1
    obtain ⟨ab, ao, asp⟩ := a
    by_cases hc0 : cap = 0
    · have hl0 : l = [] := List.eq_nil_of_length_eq_zero (by omega)
      subst hl0
      subst hc0
      cases asp with
      | none => exact isL_rows (l := ([] : List α)) (inv := inv) R.pos R.len R.live (fun x hx => by cases hx) (Nat.le_refl _) fun i hi => absurd hi (Nat.not_lt_zero i)
      | some s => exact isL_rows (l := ([] : List α)) (inv := inv) R.pos R.len R.live (fun x hx => by cases hx) (Nat.le_refl _) fun i hi => absurd hi (Nat.not_lt_zero i)
    · have hs : asp = none := by
        by_cases hl0 : l.length = 0
        · obtain ⟨r1, r2⟩ := hspare rfl
          obtain ⟨x, _, hx⟩ := one n' l.length _ (r2 0 (by omega)) (by rw [List.getElem?_eq_getElem (by omega)]; rfl)
          rw [hl0] at hx
          exact spot x hx
        · exact spot _ (l3 0 (by omega))
      subst hs
      exact isL_rows (inv := inv) R.pos R.len R.live l2 hlc l3
end
end Go.AM

/-
  The arguments of the statements about pairs, opened: entries; the listed table.
  Conditions: none.
-/
namespace Go.Proofs.YtgnebodlkfblcaaDoor
open Go.AM
open Go.Prs
open Go.ChangeShapes Go.WideShapes Go.ChangeAt Go.RowKit
set_option maxRecDepth 100000
/-- The listed table of powers of ten. -/
theorem tab_of {W : World} {rest : List (String × DataW Unit)} (h : laidMet Tryd.prog (("internal/strconv.uint64pow10", Rows.laid_internal_strconv_uint64pow10) :: rest) W) : Tab10 W :=
  Lib.tabIs_of_head (g := 0) (by kernel_rfl) (by kernel_rfl) (show Tryd.prog.underlying 122 = _ from Tryd.underlying122) Tryd.underlying103 (by kernel_rfl) (by kernel_rfl) h

section
variable {H : Type} {enc : TypeId × Value → H} {W : World} {base : Nat} {v : Value} {x : DataW H × List MemPlace}
def entV (e : EntryP) : List Value := [.int .u8 e.level, .int .u8 e.name, .int .u8 e.kind, .int .u8 e.flag]
theorem entV_abs (l : List EntryP) : (l.map fun e => (entV e).map absS) = l.map entC := rfl
theorem u8_nat {n : Int} (h : (Lit.int .u8 n).wf = true) : ∃ b : Nat, b < 256 ∧ n = b := by
  obtain ⟨a0, a1⟩ := wf_u8 h
  exact ⟨n.toNat, by omega, by omega⟩
theorem ent_row : RowOf Tryd.prog enc W 58 4 entV EntOk := by
  refine ⟨by kernel_rfl, by decide, fun _ => rfl, fun _ _ => rfl, fun n cs y h => ?_⟩
  obtain ⟨y0, y1, y2, y3, n', _, hl, h0, h1, h2, h3⟩ := Go.Joins.trod_struct4 Tryd.underlying58 h
  rw [show Tryd.prog.cellsOf 58 = 4 by kernel_rfl] at hl
  match cs, hl with
  | [c0, c1, c2, c3], _ =>
    simp only [show Tryd.prog.cellsOf 5 = 1 by kernel_rfl, List.drop_zero, List.drop_succ_cons, List.take_succ_cons, List.take_zero] at h0 h1 h2 h3
    obtain ⟨a, e0, _, w0⟩ := DataW.trod_int Tryd.underlying5 h0
    obtain ⟨b, e1, _, w1⟩ := DataW.trod_int Tryd.underlying5 h1
    obtain ⟨c, e2, _, w2⟩ := DataW.trod_int Tryd.underlying5 h2
    obtain ⟨d, e3, _, w3⟩ := DataW.trod_int Tryd.underlying5 h3
    simp only [List.cons.injEq, and_true] at e0 e1 e2 e3
    subst e0 e1 e2 e3
    obtain ⟨a', k0, rfl⟩ := u8_nat w0
    obtain ⟨b', k1, rfl⟩ := u8_nat w1
    obtain ⟨c', k2, rfl⟩ := u8_nat w2
    obtain ⟨d', k3, rfl⟩ := u8_nat w3
    exact ⟨⟨a', b', c', d'⟩, rfl, k0, k1, k2, k3⟩
theorem arg_T (h : ∃ fuel, DataW.trod enc Tryd.prog W 0 (fun _ => true) true fuel 23 v.cells.toList = some x) (hv : Value.okWide Tryd.prog W .any base 23 v) :
    ∃ (l : List EntryP) (y : AVal), VR (fun _ => none) y v ∧ IsL W (fun _ => none) 4 y (l.map entC) ∧ l.length ≤ 9223372036854775807 ∧ ∀ t ∈ l, EntOk t := by
  obtain ⟨fuel, h2⟩ := h
  obtain ⟨a0, len0, cap0, rfl⟩ := okWide_slice Tryd.underlying23 hv
  have h2' : DataW.trod enc Tryd.prog W 0 (fun _ => true) true fuel 23 [.slice a0 len0 cap0] = some x := h2
  obtain ⟨v', l, hcs, hL, hl, hi⟩ := trod_rows ent_row Tryd.underlying23 h2'
  simp only [List.cons.injEq, and_true] at hcs
  subst hcs
  rw [entV_abs] at hL
  refine ⟨l, _, ?_, hL, hl, hi⟩
  exact VR_absS _ _
end
end Go.Proofs.YtgnebodlkfblcaaDoor

/-
  The arguments of the statements, opened: a slice whose elements' readings are bounded.
  Conditions: none. Nothing here is about a particular program.
-/
namespace Go.AM
open Go.ChangeShapes Go.WideShapes Go.ChangeAt Go.RowKit

section
variable {P : Program} {H : Type} {enc : TypeId × Value → H} {W : World} {α : Type}
/-- RowOf, where the reading of an element is known to satisfy Q. -/
structure RowOfQ (P : Program) (enc : TypeId × Value → H) (W : World) (e : TypeId) (es : Nat) (el : α → List Value) (inv : α → Prop) (Q : DataW H → Prop) : Prop where
  size : P.cellsOf e = es
  pos : 0 < es
  len : ∀ x, (el x).length = es
  live : ∀ x, inv x → allLive ((el x).map absS) = true
  cell : ∀ (n : Nat) (cs : List Value) (y : DataW H × List MemPlace), DataW.trod enc P W 0 (fun _ => true) true n e cs = some y → Q y.1 → ∃ x, cs = el x ∧ inv x
theorem trod_rowsQ {Q : DataW H → Prop} {e t : TypeId} {es : Nat} {el : α → List Value} {inv : α → Prop} (R : RowOfQ P enc W e es el inv Q) (ht : P.underlying t = some (.slice e)) {n : Nat} {cs : List Value} {y : DataW H × List MemPlace} (h : DataW.trod enc P W 0 (fun _ => true) true n t cs = some y) (hQ : ∀ els sp, y.1 = .slice els sp → (∀ d ∈ els, Q d) ∧ ∀ d ∈ sp, Q d) :
    ∃ (v : Value) (l : List α), cs = [v] ∧ IsL W (fun _ => none) es (absS v) (l.map fun x => (el x).map absS) ∧ l.length ≤ 9223372036854775807 ∧ ∀ x ∈ l, inv x := by
  rcases DataW.trod_slice ht h with ⟨hcs, _⟩ | ⟨a, len, cap, elems, rest, n', _, hcs, hy0, _, hlc, hcm, hel, hcell, hspare, _⟩
  · exact ⟨_, [], hcs, .nil, by simp, by simp⟩
  · have hq := hQ (elems.map (·.1)) (rest.map (·.1)) (by rw [hy0])
    have hlen : len ≤ 9223372036854775807 := Nat.le_trans hlc hcm
    have one : ∀ (m i : Nat) (q : Option (DataW H × List MemPlace)), (W.cells? 0 (a.add (i * P.cellsOf e)) (P.cellsOf e)).bind (DataW.trod enc P W 0 (fun _ => true) true m e) = q → q.isSome = true → (∀ z, q = some z → Q z.1) → ∃ x : α, inv x ∧ ∀ j, j < es → W.cell? (a.add (i * es + j)) = (el x)[j]? := by
      intro m i q hq hs hqq
      cases q with
      | none => cases hs
      | some z =>
        rw [Option.bind_eq_some_iff] at hq
        obtain ⟨cs', hcs', hy⟩ := hq
        obtain ⟨x, rfl, hx⟩ := R.cell _ _ _ hy (hqq z rfl)
        rw [R.size] at hcs'
        refine ⟨x, hx, fun j hj => ?_⟩
        have := (World.cells?_some hcs').2.2 j hj
        rw [← this]
        congr 1
        obtain ⟨ab, ao, asp⟩ := a
        by_cases e1 : i * es = 0 <;> by_cases e2 : j = 0 <;> simp [Addr.add, e1, e2, Nat.add_assoc]
    obtain ⟨l, l1, l2, l3⟩ := rows_list (W := W) (el := el) (inv := inv) (es := es) (a := a) len fun i hi => one n' i _ (hcell i hi) (by rw [List.getElem?_eq_getElem (by omega)]; rfl) (fun z hz => hq.1 _ (List.mem_map.2 ⟨z, List.mem_of_getElem? hz, rfl⟩))
    have spot : ∀ (x : α), (∀ j, j < es → W.cell? (a.add (0 * es + j)) = (el x)[j]?) → a.spot = none := by
      intro x hx
      have h0 := hx 0 R.pos
      rw [List.getElem?_eq_getElem (by rw [R.len]; exact R.pos)] at h0
      have := World.cell?_spot h0
      rwa [Addr.add, if_pos (by rw [Nat.zero_mul])] at this
    refine ⟨.slice (some a) len cap, l, hcs, ?_, by omega, l2⟩
    subst l1
    obtain ⟨ab, ao, asp⟩ := a
    by_cases hc0 : cap = 0
    · have hl0 : l = [] := List.eq_nil_of_length_eq_zero (by omega)
      subst hl0
      subst hc0
      cases asp with
      | none => exact isL_rows (l := ([] : List α)) (inv := inv) R.pos R.len R.live (fun x hx => by cases hx) (Nat.le_refl _) fun i hi => absurd hi (Nat.not_lt_zero i)
      | some s => exact isL_rows (l := ([] : List α)) (inv := inv) R.pos R.len R.live (fun x hx => by cases hx) (Nat.le_refl _) fun i hi => absurd hi (Nat.not_lt_zero i)
    · have hs : asp = none := by
        by_cases hl0 : l.length = 0
        · obtain ⟨r1, r2⟩ := hspare rfl
          obtain ⟨x, _, hx⟩ := one n' l.length _ (r2 0 (by omega)) (by rw [List.getElem?_eq_getElem (by omega)]; rfl) (fun z hz => hq.2 _ (List.mem_map.2 ⟨z, List.mem_of_getElem? hz, rfl⟩))
          rw [hl0] at hx
          exact spot x hx
        · exact spot _ (l3 0 (by omega))
      subst hs
      exact isL_rows (inv := inv) R.pos R.len R.live l2 hlc l3
end
end Go.AM

/-
  The arguments of the statements about pairs, opened: layouts.
  Conditions: none.
-/
namespace Go.Proofs.YtgnebodlkfblcaaDoor
open Go.AM
open Go.Prs
open Go.ChangeShapes Go.WideShapes Go.ChangeAt Go.RowKit
set_option maxRecDepth 100000
section
variable {H : Type} {enc : TypeId × Value → H} {W : World} {base : Nat} {v : Value} {x : DataW H × List MemPlace}
theorem tok_row : RowOf Tryd.prog enc W 143 5 (fun m : Int × ByteArray × Int × Int × Bool => [.int .u8 m.1, .string m.2.1, .int .i64 m.2.2.1, .int .i64 m.2.2.2.1, .bool m.2.2.2.2]) (fun _ => True) := by
  refine ⟨by kernel_rfl, by decide, fun _ => rfl, fun _ _ => rfl, fun n cs y h => ?_⟩
  obtain ⟨y0, y1, y2, y3, n', _, hl, h0, h1, h2, h3⟩ := Go.Joins.trod_struct4 Tryd.underlying143 h
  obtain ⟨z0, z1, n'', _, hl', g0, g1⟩ := trod_struct2 Tryd.underlying141 h2
  rw [show Tryd.prog.cellsOf 143 = 5 by kernel_rfl] at hl
  match cs, hl with
  | [c0, c1, c2, c3, c4], _ =>
    simp only [show Tryd.prog.cellsOf 139 = 1 by kernel_rfl, show Tryd.prog.cellsOf 9 = 1 by kernel_rfl, show Tryd.prog.cellsOf 4 = 1 by kernel_rfl, show Tryd.prog.cellsOf 3 = 1 by kernel_rfl, show Tryd.prog.cellsOf 141 = 2 by kernel_rfl, List.drop_zero, List.drop_succ_cons, List.take_succ_cons, List.take_zero] at h0 h1 h2 h3 g0 g1
    obtain ⟨a, e0, _, _⟩ := DataW.trod_int Tryd.underlying139 h0
    obtain ⟨s, e1, _, _⟩ := DataW.trod_string Tryd.underlying9 h1
    obtain ⟨b, e2, _, _⟩ := DataW.trod_int Tryd.underlying3 g0
    obtain ⟨c, e3, _, _⟩ := DataW.trod_int Tryd.underlying3 g1
    obtain ⟨d, e4, _⟩ := DataW.trod_bool Tryd.underlying4 h3
    simp only [List.cons.injEq, and_true] at e0 e1 e2 e3 e4
    subst e0 e1 e2 e3 e4
    exact ⟨(a, s, b, c, d), rfl, trivial⟩
def itV (q : (ItemP × ItemO) × Value) : List Value := [.string ⟨⟨q.1.1.name⟩⟩, .int .i64 q.1.1.level, .int .i64 q.1.1.parent, .int .u8 q.1.1.cat, .int .u8 q.1.2.us, .string ⟨⟨q.1.2.pic⟩⟩, .int .i64 q.1.2.dig, .int .i64 q.1.2.scl, .bool q.1.2.sgn, .bool q.1.2.lea, .bool q.1.2.sep, .bool q.1.2.jus, .bool q.1.2.bla, .int .i64 q.1.2.siz, .int .i64 q.1.2.at_, .int .i64 q.1.1.occurs, .int .i64 q.1.2.lst, .int .i64 q.1.1.depends, .int .i64 q.1.1.redefines, .int .i64 q.1.2.fst_, .int .i64 q.1.2.lst2, q.2]
def itVok (q : (ItemP × ItemO) × Value) : Prop := absS q.2 = q.1.2.val ∧ (absS q.2).live = true ∧ q.1.1.name.length ≤ 1048576
theorem itV_abs {q : (ItemP × ItemO) × Value} (h : itVok q) : (itV q).map absS = itC q.1 := by
  unfold itV itC itemC
  rw [← h.1]
  rfl
theorem scal_isL {w : World} {h : AHeap} {es : Nat} {y : AVal} {xs : List (List AVal)} (hy : IsL w h es y xs) : y.scal = true := by
  cases hy <;> rfl
theorem item_row : RowOfQ Tryd.prog enc W 44 22 itV itVok (fun d => Rows.uptoBulk d ≤ 1048576) := by
  refine ⟨by kernel_rfl, by decide, fun _ => rfl, fun q hq => ?_, fun n cs y h hQ => ?_⟩
  · rw [itV_abs hq]
    unfold itC itemC
    rw [← hq.1]
    simp only [allLive, hq.2.1]
    rfl
  · obtain ⟨xs, n', _, hy, hl, hlen, hf⟩ := DataW.trod_struct Tryd.underlying44 h
    rw [show Tryd.prog.cellsOf 44 = 22 by kernel_rfl] at hl
    match cs, hl, xs, hlen with
    | [c0, c1, c2, c3, c4, c5, c6, c7, c8, c9, c10, c11, c12, c13, c14, c15, c16, c17, c18, c19, c20, c21], _, [x0, x1, x2, x3, x4, x5, x6, x7, x8, x9, x10, x11], _ =>
      have h0 : DataW.trod enc Tryd.prog W 0 (fun _ => true) true n' 9 (([c0, c1, c2, c3, c4, c5, c6, c7, c8, c9, c10, c11, c12, c13, c14, c15, c16, c17, c18, c19, c20, c21].drop 0).take (Tryd.prog.cellsOf 9)) = some x0 := hf 0 _ rfl
      have h1 : DataW.trod enc Tryd.prog W 0 (fun _ => true) true n' 3 (([c0, c1, c2, c3, c4, c5, c6, c7, c8, c9, c10, c11, c12, c13, c14, c15, c16, c17, c18, c19, c20, c21].drop 1).take (Tryd.prog.cellsOf 3)) = some x1 := hf 1 _ rfl
      have h2 : DataW.trod enc Tryd.prog W 0 (fun _ => true) true n' 3 (([c0, c1, c2, c3, c4, c5, c6, c7, c8, c9, c10, c11, c12, c13, c14, c15, c16, c17, c18, c19, c20, c21].drop 2).take (Tryd.prog.cellsOf 3)) = some x2 := hf 2 _ rfl
      have h3 : DataW.trod enc Tryd.prog W 0 (fun _ => true) true n' 41 (([c0, c1, c2, c3, c4, c5, c6, c7, c8, c9, c10, c11, c12, c13, c14, c15, c16, c17, c18, c19, c20, c21].drop 3).take (Tryd.prog.cellsOf 41)) = some x3 := hf 3 _ rfl
      have h4 : DataW.trod enc Tryd.prog W 0 (fun _ => true) true n' 3 (([c0, c1, c2, c3, c4, c5, c6, c7, c8, c9, c10, c11, c12, c13, c14, c15, c16, c17, c18, c19, c20, c21].drop 14).take (Tryd.prog.cellsOf 3)) = some x4 := hf 4 _ rfl
      have h5 : DataW.trod enc Tryd.prog W 0 (fun _ => true) true n' 3 (([c0, c1, c2, c3, c4, c5, c6, c7, c8, c9, c10, c11, c12, c13, c14, c15, c16, c17, c18, c19, c20, c21].drop 15).take (Tryd.prog.cellsOf 3)) = some x5 := hf 5 _ rfl
      have h6 : DataW.trod enc Tryd.prog W 0 (fun _ => true) true n' 3 (([c0, c1, c2, c3, c4, c5, c6, c7, c8, c9, c10, c11, c12, c13, c14, c15, c16, c17, c18, c19, c20, c21].drop 16).take (Tryd.prog.cellsOf 3)) = some x6 := hf 6 _ rfl
      have h7 : DataW.trod enc Tryd.prog W 0 (fun _ => true) true n' 3 (([c0, c1, c2, c3, c4, c5, c6, c7, c8, c9, c10, c11, c12, c13, c14, c15, c16, c17, c18, c19, c20, c21].drop 17).take (Tryd.prog.cellsOf 3)) = some x7 := hf 7 _ rfl
      have h8 : DataW.trod enc Tryd.prog W 0 (fun _ => true) true n' 3 (([c0, c1, c2, c3, c4, c5, c6, c7, c8, c9, c10, c11, c12, c13, c14, c15, c16, c17, c18, c19, c20, c21].drop 18).take (Tryd.prog.cellsOf 3)) = some x8 := hf 8 _ rfl
      have h9 : DataW.trod enc Tryd.prog W 0 (fun _ => true) true n' 3 (([c0, c1, c2, c3, c4, c5, c6, c7, c8, c9, c10, c11, c12, c13, c14, c15, c16, c17, c18, c19, c20, c21].drop 19).take (Tryd.prog.cellsOf 3)) = some x9 := hf 9 _ rfl
      have h10 : DataW.trod enc Tryd.prog W 0 (fun _ => true) true n' 3 (([c0, c1, c2, c3, c4, c5, c6, c7, c8, c9, c10, c11, c12, c13, c14, c15, c16, c17, c18, c19, c20, c21].drop 20).take (Tryd.prog.cellsOf 3)) = some x10 := hf 10 _ rfl
      have h11 : DataW.trod enc Tryd.prog W 0 (fun _ => true) true n' 42 (([c0, c1, c2, c3, c4, c5, c6, c7, c8, c9, c10, c11, c12, c13, c14, c15, c16, c17, c18, c19, c20, c21].drop 21).take (Tryd.prog.cellsOf 42)) = some x11 := hf 11 _ rfl
      clear hf
      simp only [show Tryd.prog.cellsOf 9 = 1 by kernel_rfl, show Tryd.prog.cellsOf 3 = 1 by kernel_rfl, show Tryd.prog.cellsOf 41 = 11 by kernel_rfl, show Tryd.prog.cellsOf 42 = 1 by kernel_rfl, List.drop_zero, List.drop_succ_cons, List.take_succ_cons, List.take_zero, List.getElem?_cons_zero, List.getElem?_cons_succ] at h0 h1 h2 h3 h4 h5 h6 h7 h8 h9 h10 h11
      obtain ⟨ys, n'', _, _, _, hlen', gf⟩ := DataW.trod_struct Tryd.underlying41 h3
      match ys, hlen' with
      | [y0, y1, y2, y3, y4, y5, y6, y7, y8, y9, y10], _ =>
        have g0 : DataW.trod enc Tryd.prog W 0 (fun _ => true) true n'' 38 (([c3, c4, c5, c6, c7, c8, c9, c10, c11, c12, c13].drop 0).take (Tryd.prog.cellsOf 38)) = some y0 := gf 0 _ rfl
        have g1 : DataW.trod enc Tryd.prog W 0 (fun _ => true) true n'' 39 (([c3, c4, c5, c6, c7, c8, c9, c10, c11, c12, c13].drop 1).take (Tryd.prog.cellsOf 39)) = some y1 := gf 1 _ rfl
        have g2 : DataW.trod enc Tryd.prog W 0 (fun _ => true) true n'' 9 (([c3, c4, c5, c6, c7, c8, c9, c10, c11, c12, c13].drop 2).take (Tryd.prog.cellsOf 9)) = some y2 := gf 2 _ rfl
        have g3 : DataW.trod enc Tryd.prog W 0 (fun _ => true) true n'' 3 (([c3, c4, c5, c6, c7, c8, c9, c10, c11, c12, c13].drop 3).take (Tryd.prog.cellsOf 3)) = some y3 := gf 3 _ rfl
        have g4 : DataW.trod enc Tryd.prog W 0 (fun _ => true) true n'' 3 (([c3, c4, c5, c6, c7, c8, c9, c10, c11, c12, c13].drop 4).take (Tryd.prog.cellsOf 3)) = some y4 := gf 4 _ rfl
        have g5 : DataW.trod enc Tryd.prog W 0 (fun _ => true) true n'' 4 (([c3, c4, c5, c6, c7, c8, c9, c10, c11, c12, c13].drop 5).take (Tryd.prog.cellsOf 4)) = some y5 := gf 5 _ rfl
        have g6 : DataW.trod enc Tryd.prog W 0 (fun _ => true) true n'' 4 (([c3, c4, c5, c6, c7, c8, c9, c10, c11, c12, c13].drop 6).take (Tryd.prog.cellsOf 4)) = some y6 := gf 6 _ rfl
        have g7 : DataW.trod enc Tryd.prog W 0 (fun _ => true) true n'' 4 (([c3, c4, c5, c6, c7, c8, c9, c10, c11, c12, c13].drop 7).take (Tryd.prog.cellsOf 4)) = some y7 := gf 7 _ rfl
        have g8 : DataW.trod enc Tryd.prog W 0 (fun _ => true) true n'' 4 (([c3, c4, c5, c6, c7, c8, c9, c10, c11, c12, c13].drop 8).take (Tryd.prog.cellsOf 4)) = some y8 := gf 8 _ rfl
        have g9 : DataW.trod enc Tryd.prog W 0 (fun _ => true) true n'' 4 (([c3, c4, c5, c6, c7, c8, c9, c10, c11, c12, c13].drop 9).take (Tryd.prog.cellsOf 4)) = some y9 := gf 9 _ rfl
        have g10 : DataW.trod enc Tryd.prog W 0 (fun _ => true) true n'' 3 (([c3, c4, c5, c6, c7, c8, c9, c10, c11, c12, c13].drop 10).take (Tryd.prog.cellsOf 3)) = some y10 := gf 10 _ rfl
        clear gf
        simp only [show Tryd.prog.cellsOf 38 = 1 by kernel_rfl, show Tryd.prog.cellsOf 39 = 1 by kernel_rfl, show Tryd.prog.cellsOf 4 = 1 by kernel_rfl, show Tryd.prog.cellsOf 9 = 1 by kernel_rfl, show Tryd.prog.cellsOf 3 = 1 by kernel_rfl, List.drop_zero, List.drop_succ_cons, List.take_succ_cons, List.take_zero, List.getElem?_cons_zero, List.getElem?_cons_succ] at g0 g1 g2 g3 g4 g5 g6 g7 g8 g9 g10
        obtain ⟨s0, e0, k0, _⟩ := DataW.trod_string Tryd.underlying9 h0
        obtain ⟨a1, e1, _, _⟩ := DataW.trod_int Tryd.underlying3 h1
        obtain ⟨a2, e2, _, _⟩ := DataW.trod_int Tryd.underlying3 h2
        obtain ⟨b0, f0, _, _⟩ := DataW.trod_int Tryd.underlying38 g0
        obtain ⟨b1, f1, _, _⟩ := DataW.trod_int Tryd.underlying39 g1
        obtain ⟨b2, f2, _, _⟩ := DataW.trod_string Tryd.underlying9 g2
        obtain ⟨b3, f3, _, _⟩ := DataW.trod_int Tryd.underlying3 g3
        obtain ⟨b4, f4, _, _⟩ := DataW.trod_int Tryd.underlying3 g4
        obtain ⟨b5, f5, _⟩ := DataW.trod_bool Tryd.underlying4 g5
        obtain ⟨b6, f6, _⟩ := DataW.trod_bool Tryd.underlying4 g6
        obtain ⟨b7, f7, _⟩ := DataW.trod_bool Tryd.underlying4 g7
        obtain ⟨b8, f8, _⟩ := DataW.trod_bool Tryd.underlying4 g8
        obtain ⟨b9, f9, _⟩ := DataW.trod_bool Tryd.underlying4 g9
        obtain ⟨b10, f10, _, _⟩ := DataW.trod_int Tryd.underlying3 g10
        obtain ⟨a4, e4, _, _⟩ := DataW.trod_int Tryd.underlying3 h4
        obtain ⟨a5, e5, _, _⟩ := DataW.trod_int Tryd.underlying3 h5
        obtain ⟨a6, e6, _, _⟩ := DataW.trod_int Tryd.underlying3 h6
        obtain ⟨a7, e7, _, _⟩ := DataW.trod_int Tryd.underlying3 h7
        obtain ⟨a8, e8, _, _⟩ := DataW.trod_int Tryd.underlying3 h8
        obtain ⟨a9, e9, _, _⟩ := DataW.trod_int Tryd.underlying3 h9
        obtain ⟨a10, e10, _, _⟩ := DataW.trod_int Tryd.underlying3 h10
        obtain ⟨v11, l11, e11, hL, _, _⟩ := trod_rows tok_row Tryd.underlying42 h11
        simp only [List.cons.injEq, and_true] at e0 e1 e2 f0 f1 f2 f3 f4 f5 f6 f7 f8 f9 f10 e4 e5 e6 e7 e8 e9 e10 e11
        subst e0 e1 e2 f0 f1 f2 f3 f4 f5 f6 f7 f8 f9 f10 e4 e5 e6 e7 e8 e9 e10 e11
        refine ⟨((⟨s0.data.toList, a1, a2, b0, a5, a7, a8⟩, ⟨b1, b2.data.toList, b3, b4, b5, b6, b7, b8, b9, b10, a4, a6, a9, a10, absS c21, scal_isL hL⟩), c21), rfl, rfl, hL.live, ?_⟩
        have hb : Rows.uptoBulk y.1 ≤ 1048576 := hQ
        rw [hy] at hb
        simp only [List.map_cons, Rows.uptoBulk, Rows.uptoBulkAll, k0] at hb
        simp only
        omega
theorem bulk_part {d : DataW H} : ∀ {l : List (DataW H)}, d ∈ l → Rows.uptoBulk d ≤ Rows.uptoBulkAll l
  | e :: l, h => by
    rw [Rows.uptoBulkAll]
    rcases List.mem_cons.1 h with rfl | h
    · omega
    · have := bulk_part h
      omega
theorem arg_Layout (h : ∃ fuel, DataW.trod enc Tryd.prog W 0 (fun _ => true) true fuel 27 v.cells.toList = some x) (hv : Value.okWide Tryd.prog W .any base 27 v) (hb : Rows.uptoBulk x.1 ≤ 1048576) :
    ∃ (sl : AVal) (sz : Int) (l : List (ItemP × ItemO)), VR (fun _ => none) (.agg [sl, .int .i64 sz]) v ∧ IsL W (fun _ => none) 22 sl (l.map itC) ∧ sl.scal = true ∧ l.length ≤ 9223372036854775807 ∧ ∀ y ∈ items l, y.name.length ≤ 1048576 := by
  have hw : ∃ cs : Array Value, v = .agg cs := by
    simp only [Value.okWide, Tryd.underlying27] at hv
    obtain ⟨cs, h1, _⟩ := hv
    exact ⟨cs, h1⟩
  obtain ⟨cs, rfl⟩ := hw
  obtain ⟨fuel, hf⟩ := h
  obtain ⟨y0, y1, n', hx, hl, h0, h1⟩ := trod_struct2 Tryd.underlying27 hf
  rw [show Tryd.prog.cellsOf 27 = 2 by kernel_rfl] at hl
  have hcs : (Value.agg cs).cells.toList = cs.toList := rfl
  rw [hcs] at hl h0 h1
  match hm : cs.toList, hl with
  | [e0, e1], _ =>
    rw [hm] at h0 h1
    simp only [show Tryd.prog.cellsOf 25 = 1 by kernel_rfl, show Tryd.prog.cellsOf 3 = 1 by kernel_rfl, List.drop_zero, List.drop_succ_cons, List.take_succ_cons, List.take_zero] at h0 h1
    obtain ⟨v', l, k0, hL, hll, hi⟩ := trod_rowsQ item_row Tryd.underlying25 h0 (fun els sp he => by
      rw [hx] at hb
      simp only [Rows.uptoBulk, Rows.uptoBulkAll, he] at hb
      constructor
      · intro d hd
        have := bulk_part hd
        omega
      · intro d hd
        have := bulk_part hd
        omega)
    obtain ⟨sz, k1, _, _⟩ := DataW.trod_int Tryd.underlying3 h1
    simp only [List.cons.injEq, and_true] at k0 k1
    subst k0 k1
    have hmap : (l.map fun q => (itV q).map absS) = (l.map (·.1)).map itC := by
      rw [List.map_map]
      exact List.map_congr_left fun q hq => itV_abs (hi q hq)
    rw [hmap] at hL
    refine ⟨absS e0, sz, l.map (·.1), ?_, hL, scal_isL hL, by rw [List.length_map]; exact hll, fun y hy => ?_⟩
    · simp only [VR]
      refine ⟨[e0, .int .i64 sz], ?_, ?_⟩
      · rw [← hm]
      · simp only [VRs]
        exact ⟨_, _, rfl, VR_absS _ _, _, _, rfl, by simp only [VR], rfl⟩
    · unfold items at hy
      rw [List.map_map] at hy
      obtain ⟨q, hq, rfl⟩ := List.mem_map.1 hy
      exact (hi q hq).2.2
end
end Go.Proofs.YtgnebodlkfblcaaDoor

