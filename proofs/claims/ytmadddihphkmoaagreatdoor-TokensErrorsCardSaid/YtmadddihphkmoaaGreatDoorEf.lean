/-
  Texts of this proof, joined: TnA, TlE, TnB, LwR, LwS, LwT.
  Conditions: none.
-/
import Derived.Test.YtmadddihphkmoaaGreatDoorEe
import Derived.Test.YtmadddihphkmoaaGreatDoorProg
import Derived.Test.YtmadddihphkmoaaGreatDoorEb
import Derived.WalkKit
import Derived.ProofKit
import Derived.OpenShut
import Derived.ShutString
import Derived.ChangeOld
import Derived.Below
import Derived.Deep.Strs
import Derived.Handed
import Derived.HandedShaped
import Derived.Shelf.Vars
import Derived.Test.YtmadddihphkmoaaGreatDoorEc
import Derived.Test.YtmadddihphkmoaaGreatDoorRows
import Derived.Lib.LaidTab
import Derived.MakeChecks
set_option linter.unusedSimpArgs false
set_option linter.unnecessarySimpa false
set_option linter.unusedVariables false
/-
  Plain: cards that are not valid, a card of many tokens, words and numbers that are too long.
  Conditions: none.
-/
namespace Go.Tok
open Go.Col (Str CardC FaultC okF readE atE validC atGo sp)
set_option maxRecDepth 100000

/-! ### One card -/
theorem at_two (c : CardC) (i : Int) : (atE c i).2.2 = 0 ∨ (atE c i).2.2 = 1 := by
  unfold atE
  split
  · exact .inl rfl
  · exact .inr rfl
/-! ### A card of many tokens -/
def manyR : Nat → Str
  | 0 => [65]
  | n + 1 => 65 :: 32 :: manyR n
theorem manyR_len : ∀ n, (manyR n).length = 2 * n + 1
  | 0 => rfl
  | n + 1 => by rw [manyR, List.length_cons, List.length_cons, manyR_len n]; omega
theorem manyR_drop : ∀ (n j : Nat), j ≤ n → (manyR n).drop (2 * j) = manyR (n - j)
  | n, 0, _ => rfl
  | 0, j + 1, h => by omega
  | n + 1, j + 1, h => by
    rw [manyR, show 2 * (j + 1) = 2 * j + 2 by omega, List.drop_succ_cons, List.drop_succ_cons, manyR_drop n j (by omega), show n + 1 - (j + 1) = n - j by omega]
theorem manyR_take : ∀ n, (manyR (n + 1)).take (2 * n + 1) = manyR n
  | 0 => rfl
  | n + 1 => by rw [manyR, show 2 * (n + 1) + 1 = (2 * n + 1) + 2 by omega, List.take_succ_cons, List.take_succ_cons, manyR_take n, manyR]
theorem manyR_odd {n j : Nat} (h : j < n) : (manyR n).getD (2 * j + 1) 0 = 32 := by
  have h1 := manyR_drop n j (by omega)
  rw [show n - j = (n - j - 1) + 1 by omega, manyR] at h1
  have h2 : (manyR n)[2 * j + 1]? = some 32 := by
    rw [← List.getElem?_drop, h1]
    rfl
  rw [List.getD, h2]
  rfl
theorem manyR_even {n j : Nat} (h : j ≤ n) : (manyR n).getD (2 * j) 0 = 65 := by
  have h1 := manyR_drop n j (by omega)
  have h2 : (manyR n)[2 * j]? = some 65 := by
    rw [← Nat.add_zero (2 * j), ← List.getElem?_drop, h1]
    cases n - j <;> rfl
  rw [List.getD, h2]
  rfl
theorem picE_many {l : List TokC} (h : ∀ t ∈ l, t.text = [65]) : picE l = (false, false) := by
  have hw : ∀ (n : Nat) (ws : List Str), ws.contains [65] = false → wordE l n ws = false := fun n ws hws => by
    unfold wordE
    split
    · rfl
    · rename_i t ht
      rw [h t (List.mem_reverse.1 (List.mem_of_getElem? ht)), hws, Bool.and_false]
  unfold picE
  rw [hw 1 _ (by decide), if_neg (by simp), hw 1 _ (by decide), Bool.false_and]
theorem next_picE {s : Str} {i : Nat} {l m : List TokC} (h : picE l = picE m) : nextE s i l = nextE s i m := by
  unfold nextE
  rw [h]
theorem nextM {n j : Nat} (h : j ≤ n) {l : List TokC} (hl : picE l = (false, false)) : nextE (manyR n) (2 * j) l = ⟨1, [65], 1, 0⟩ := by
  have hlen := manyR_len n
  have he : peekE (manyR n) ((2 * j : Nat) : Int) = 65 := by rw [peekE_lt (by omega), manyR_even h]
  have hp : peekE (manyR n) (((2 * j : Nat) : Int) - 1) = 32 := by
    cases j with
    | zero => exact peekE_ge (.inl (by omega))
    | succ j => rw [show ((2 * (j + 1) : Nat) : Int) - 1 = ((2 * j + 1 : Nat) : Int) by omega, peekE_lt (by omega), manyR_odd (by omega)]
  rw [next_picE (m := []) (by rw [hl]; rfl), ← next_norm (manyR n) (2 * j) [] (by rw [he]; decide), hp, manyR_drop n j h]
  cases n - j with
  | zero => rfl
  | succ k =>
    have := next_app (u := [32, 65]) (v := manyR k) (i := 1) [] (by decide) (fun q => absurd q (by decide))
    rw [manyR]
    refine Eq.trans this ?_
    rfl
theorem skipM {n j : Nat} (h : j ≤ n) (b : Bool) : skipE (manyR n) b (2 * j - 1) = 2 * j := by
  have hlen := manyR_len n
  have he : peekE (manyR n) ((2 * j : Nat) : Int) = 65 := by rw [peekE_lt (by omega), manyR_even h]
  have h1 : skipE (manyR n) b (2 * j) = 2 * j := by
    rw [skipE_step, if_neg (by omega), if_neg]
    unfold skp
    rw [he]
    rintro (q | ⟨_, q, _⟩)
    · exact absurd q (by decide)
    · exact absurd q (by decide)
  cases j with
  | zero => exact h1
  | succ j =>
    rw [show 2 * (j + 1) - 1 = 2 * j + 1 by omega, skipE_step, if_neg (by omega), if_pos, show 2 * j + 1 + 1 = 2 * (j + 1) by omega]
    · exact h1
    · left
      rw [peekE_lt (by omega), manyR_odd (by omega)]
end Go.Tok
namespace Go.Proofs.YtmadddihphkmoaaGreatDoor
open Go.AM
open Go.Proofs
open Go.Col
open Go.Tok
set_option maxRecDepth 100000

theorem scan_one (c : CardC) : scanE [c] = if (cardT c []).2 ≠ okF then ([], (cardT c []).2) else ((cardT c []).1, okF) := rfl
theorem scan_bad {c : CardC} (h : (atE c 0).2.2 ≠ 0) : scanE [c] = ([], ⟨1, 0, 0⟩) := by
  have h1 := (at_two c 0).resolve_left h
  have hc : cardT c [] = ([], ⟨1, 0, 0⟩) := by
    unfold cardT
    rw [if_pos h, h1]
  rw [scan_one, hc, if_pos (by decide)]
theorem scan_good {c : CardC} (h : (atE c 0).2.2 = 0) : refGo [c] [] = scanE [c] := by
  have hc : cardT c [] = cardR c 0 [] := by
    unfold cardT
    rw [if_neg (by simpa using h)]
    rfl
  rw [scan_one, hc]
  rfl
def tokM (j : Nat) : TokC := ⟨1, [65], 3, 8 + 2 * j, decide ((8 + 2 * j : Int) < 12)⟩
def toksM (k : Nat) : List TokC := (List.range k).map tokM
theorem toksM_len (k : Nat) : (toksM k).length = k := by simp [toksM]
theorem toksM_next (k : Nat) : toksM (k + 1) = toksM k ++ [tokM k] := by simp [toksM, List.range_succ]
theorem toksM_pic (k : Nat) : picE (toksM k) = (false, false) := picE_many fun t ht => by
  obtain ⟨j, _, rfl⟩ := List.mem_map.1 ht
  rfl
def cardM (n : Nat) : CardC := ⟨false, manyR n, [⟨0, 3, 8⟩]⟩
theorem cardM_at {n i : Nat} (h : i ≤ 2 * n + 1) : atE (cardM n) ((i : Nat) : Int) = (3, 8 + ((i : Nat) : Int), 0) := by
  have hlen := manyR_len n
  have hv : validC (cardM n) = true := by
    have hgo : validC.go (cardM n) (-1) [⟨0, 3, 8⟩] = true := by
      have h3 : (0 : Int) < (manyR n).length := by omega
      rw [validC.go, decide_eq_true ⟨by decide, h3, by decide, by decide, by decide⟩]
      rfl
    show (decide ((0 : Int) = 0) && validC.go (cardM n) (-1) [⟨0, 3, 8⟩]) = true
    rw [hgo]
    rfl
  have h2 : (i : Int) ≤ (cardM n).text.length := by show (i : Int) ≤ (manyR n).length; omega
  unfold atE
  rw [if_pos ⟨hv, by omega, h2⟩]
  simp only [cardM, atGo, if_pos (show (0 : Int) ≤ (i : Int) by omega), Int.sub_zero]
theorem cardM_step {n j : Nat} (h : j ≤ n) : cardR (cardM n) (2 * j - 1) (toksM j) = if 65536 ≤ j then (toksM j, ⟨3, 3, 8 + (2 * j : Nat)⟩) else cardR (cardM n) (2 * (j + 1) - 1) (toksM (j + 1)) := by
  have hlen := manyR_len n
  have hs : skipE (cardM n).text (picE (toksM j)).1 (2 * j - 1) = 2 * j := skipM h _
  have hn : nextE (cardM n).text (2 * j) (toksM j) = ⟨1, [65], 1, 0⟩ := nextM h (toksM_pic j)
  have ha : atE (cardM n) ((2 * j : Nat) : Int) = (3, 8 + ((2 * j : Nat) : Int), 0) := cardM_at (by omega)
  rw [cardR_step, hs, hn, if_neg (show ¬ (cardM n).text.length ≤ 2 * j by show ¬ (manyR n).length ≤ 2 * j; omega), toksM_len]
  by_cases q : 65536 ≤ j
  · rw [if_pos q, show errE ⟨1, [65], 1, 0⟩ j = 3 by unfold errE; rw [if_pos ⟨rfl, q⟩], if_pos (by decide), ha]
  · have ht : tokAt (cardM n) (2 * j) ⟨1, [65], 1, 0⟩ = tokM j := by
      unfold tokAt tokM
      rw [ha]
      simp only [TokC.mk.injEq, true_and]
      exact ⟨by omega, decide_eq_decide.2 (by omega)⟩
    rw [if_neg q, show errE ⟨1, [65], 1, 0⟩ j = 0 by unfold errE; rw [if_neg (fun z => q z.2)], if_neg (by simp), ht, toksM_next]
    rfl
theorem cardM_go {n : Nat} : ∀ j : Nat, j ≤ n + 1 → j ≤ 65536 → cardR (cardM n) 0 [] = cardR (cardM n) (2 * j - 1) (toksM j)
  | 0, _, _ => rfl
  | j + 1, h, h' => by rw [cardM_go j (by omega) (by omega), cardM_step (by omega), if_neg (by omega)]
theorem cardM_T (n : Nat) : cardT (cardM n) [] = cardR (cardM n) 0 [] := by
  have ha : atE (cardM n) ((0 : Nat) : Int) = (3, 8 + ((0 : Nat) : Int), 0) := cardM_at (by omega)
  unfold cardT
  rw [show (0 : Int) = ((0 : Nat) : Int) from rfl, ha, if_neg (by simp)]
  rfl
theorem scan_many : scanE [cardM 65536] = ([], ⟨3, 3, 131080⟩) := by
  have h : cardT (cardM 65536) [] = (toksM 65536, ⟨3, 3, 131080⟩) := by
    rw [cardM_T, cardM_go 65536 (by omega) (by omega), cardM_step (by omega), if_pos (by omega)]
    rfl
  rw [scan_one, h, if_pos (by decide)]
theorem scan_full : scanE [cardM 65535] = (toksM 65536, okF) := by
  have h : cardT (cardM 65535) [] = (toksM 65536, okF) := by
    have hlen := manyR_len 65535
    have hg := skipE_ge (manyR 65535) (picE (toksM 65536)).1 (2 * 65536 - 1)
    have hl : (cardM 65535).text.length ≤ skipE (cardM 65535).text (picE (toksM 65536)).1 (2 * 65536 - 1) := by
      show (manyR 65535).length ≤ skipE (manyR 65535) (picE (toksM 65536)).1 (2 * 65536 - 1)
      omega
    rw [cardM_T, cardM_go 65536 (by omega) (by omega), cardR_step, if_pos hl]
  rw [scan_one, h, if_neg (by simp)]
theorem repeat_many : ∀ n : Nat, (List.replicate n ([65, 32] : Str)).flatten ++ [65] = manyR n
  | 0 => rfl
  | n + 1 => by
    rw [List.replicate_succ, List.flatten_cons, manyR, ← repeat_many n]
    rfl
/-! ### Words and numbers that are too long -/
theorem word_wide : ∀ k : Fin 40, (showE ([88, 32] ++ List.replicate (1 + k.val) 65)).2 = if 30 < 1 + k.val then ⟨5, 1, 14⟩ else ⟨0, 0, 0⟩ := of_decide_eq_true (by kernel_rfl)
theorem number_wide : ∀ k : Fin 30, (showE ([88, 32] ++ List.replicate (1 + k.val) 55 ++ [46, 53])).2 = if 17 < 1 + k.val then ⟨5, 1, 14⟩ else ⟨0, 0, 0⟩ := of_decide_eq_true (by kernel_rfl)
end Go.Proofs.YtmadddihphkmoaaGreatDoor

/-
  The law TokensScan.
  Conditions: none.
-/
namespace Go.Proofs.YtmadddihphkmoaaGreatDoor
open Go.AM
open Go.Proofs
open Go.Col
open Go.Tok
open Go.RowKit (Below)
set_option maxRecDepth 100000

theorem c_equalS (w₀ : World) (h : AHeap) (a b : AVal) (l : List TokC) (ha : IsL w₀ h 5 a (l.map tokC)) (hb : IsL w₀ h 5 b (l.map tokC)) (hl : l.length ≤ 1099511627776) : ACall Tryz.prog w₀ 15 [a, b] h (fun v h' => v = .int .i64 0 ∧ h' = h) := by
  have hla := ha.live
  have hlb := hb.live
  have na := tok_len ha
  have nb := tok_len hb
  refine acall_intro (n := 26) (rs := [.tmp 4]) Tryz.func15 rfl rfl rfl rfl (Nat.le_of_ble_eq_true rfl) ?_
  simp only [initSlots]
  refine awp_rseq [0, 1] (by rfl) fun K hK => ?_
  simp +decide only [aOps_nil, ev, absV, absS, putD, Slots.put, Slots.keep, if_true, if_false, true_and, ↓ap_assign, pop_assign]
  apply hK; clear hK K
  refine awp_seq ?_
  refine awp_rseq [0, 1, 10] (by rfl) fun K hK => ?_
  simp +decide only [aOps_nil, ev, putD, Slots.put, Slots.get, Slots.keep, if_true, if_false, true_and, ↓ap_move, pop_move, ↓ap_len, pop_len, ↓ap_binOp, pop_binOp, isNilC_tmp, cond_false, pBinX_int, pI_neq, na, nb]
  apply hK; clear hK K
  refine awp_cond (b := _) rfl (fun hb1 => ?_) (fun hb1 => ?_)
  · exact absurd hb1 (by simp)
  · try simp only [decide_eq_true_eq, Bool.not_eq_false'] at hb1
    refine awp_skip ?_
    change Awp _ _ _ _ _ _ _
    refine awp_seq ?_
    refine awp_rseq [0, 1, 5] (by rfl) fun K hK => ?_
    simp +decide only [aOps_nil, ev, absV, absS, putD, Slots.put, Slots.keep, if_true, if_false, true_and, ↓ap_assign, pop_assign]
    apply hK; clear hK K
    refine awp_block ?_
    refine awp_loopG [0, 1, 5] (fun i : Nat => [(0, a), (1, b), (5, .int .i64 i)]) (fun i : Nat => h) (fun i : Nat => i ≤ l.length) (fun i : Nat => l.length - i) 0 (by rfl) (Sub.refl _) (Nat.zero_le _) ?_
    intro i hi
    refine awp_seq ?_
    refine awp_rseq [0, 1, 5, 14] (by rfl) fun K hK => ?_
    simp +decide only [aOps_nil, ev, putD, Slots.put, Slots.get, Slots.keep, if_true, if_false, true_and, ↓ap_move, pop_move, ↓ap_len, pop_len, ↓ap_binOp, pop_binOp, isNilC_tmp, cond_false, pBinX_int, pI_lss, na]
    apply hK; clear hK K
    refine awp_cond (b := _) rfl (fun hb2 => ?_) (fun hb2 => ?_)
    · try simp only [decide_eq_true_eq] at hb2
      have hi' : i < l.length := by omega
      obtain ⟨lc, o, c, rfl⟩ := tok_open ha (by omega)
      obtain ⟨lc', o', c', rfl⟩ := tok_open hb (by omega)
      have he := ha.elem (i := i) (by rw [List.length_map]; exact hi')
      have hd := hb.elem (i := i) (by rw [List.length_map]; exact hi')
      rw [getD_map badT hi', tokC] at he hd
      have hal : AM.allLive (tokC (l.getD i badT)) = true := rfl
      rw [tokC] at hal
      have hbe : ((l.getD i badT).left == (l.getD i badT).left) = true := beq_self_eq_true _
      refine awp_skip ?_
      change Awp _ _ _ _ _ _ _
      refine awp_seq ?_
      refine awp_block ?_
      refine awp_dseq_all [0, 1, 5, 25] mixed (by kernel_rfl) (by rfl) (by rfl) fun K hK => ?_
      simp +decide only [aOps_nil, ev, putD, Slots.put, Slots.get, Slots.keep, if_true, if_false, true_and, ↓ap_move, pop_move, ↓ap_indexAddrL, apL_mk, pIndexAddr_slice Tryz.underlying25 sz38, ↓ap_loadL, pLoad_agg ag38 sz38, ↓ap_binOp, pop_binOp, isNilC_tmp, cond_false, pBinX_agg, ne38, he, hd, hal, hbe, Int.toNat_natCast]
      repeat (with_reducible refine And.intro ?_ ?_; · first | trivial | omega | (intro hg; simp only [Bool.and_eq_true, Bool.or_eq_true, Bool.not_eq_true', Bool.and_eq_false_iff, Bool.or_eq_false_iff, Bool.not_eq_false', decide_eq_true_eq, decide_eq_false_iff_not, eqNil] at hg; omega) )
      apply hK; clear hK K
      refine awp_cond (b := _) rfl (fun hb3 => ?_) (fun hb3 => ?_)
      · exact absurd hb3 (by simp)
      · try simp only [decide_eq_true_eq, Bool.not_eq_false', Bool.and_eq_true] at hb3
        refine awp_skip ?_
        change Awp _ _ _ _ _ _ _
        refine awp_r [0, 1, 5] (by rfl) ?_
        simp +decide only [aOps_nil, ev, absV, absS, putD, Slots.put, Slots.get, Slots.keep, if_true, if_false, true_and, ↓ap_move, pop_move, ↓ap_binOp, pop_binOp, isNilC_int, cond_false, pBinX_int, pI_add, ↓ap_assign, pop_assign]
        try simp (disch := omega) only [wrap_i64]
        try simp only [thenA_normal]
        exact ⟨i + 1, rfl, Sub.refl _, hi', by omega⟩
    · try simp only [decide_eq_false_iff_not] at hb2
      refine awp_exit ?_
      change Awp _ _ _ _ _ _ _
      refine awp_rseq [4] (by rfl) fun K hK => ?_
      simp +decide only [aOps_nil, ev, absV, absS, putD, Slots.put, Slots.keep, if_true, if_false, true_and, ↓ap_assign, pop_assign]
      apply hK; clear hK K
      refine awp_ret ?_
      refine retA_ret _ (Sub.refl _) (resPre_tmp (resPre_nil)) ?_
      simp +decide only [Slots.get, if_true, and_true, resOf_one]
      all_goals first | rfl | exact ⟨rfl, rfl⟩ | (simp +decide only [if_true, if_false, *]; done) | (trace_state; fail)
end Go.Proofs.YtmadddihphkmoaaGreatDoor

/-
  The law TokensErrors.
  Conditions: none.
-/
namespace Go.Proofs.YtmadddihphkmoaaGreatDoor
open Go.AM
open Go.Proofs
open Go.Col
open Go.Tok
open Go.RowKit (Below)
set_option maxRecDepth 100000

theorem repeatL_rep (s : Str) : ∀ n, Go.Lib.repeatL s n = (List.replicate n s).flatten
  | 0 => rfl
  | n + 1 => by
    rw [Go.Lib.repeatL, repeatL_rep s n]
    simp [List.replicate_succ]
theorem c_repeatS (w₀ : World) (h : AHeap) (s : Str) (n : Nat) (hn : s.length * n ≤ 140737488355328) (hc : n ≤ 9223372036854775807) : ACall Tryz.prog w₀ 17 [.str s, .int .i64 n] h (fun v h' => v = .str (List.replicate n s).flatten ∧ h' = h) := by
  refine acall_of_calls (vals := [.string ⟨⟨s⟩⟩, .int .i64 n]) (val := .string ⟨⟨(List.replicate n s).flatten⟩⟩) Tryz.func17 rfl rfl (fun φ vs hv => VRs_si hv) (fun φ => rfl) fun w => ?_
  have := Tryz.strings_Repeat ⟨⟨s⟩⟩ n w (by omega) hn
  rw [repeatL_rep] at this
  exact this
theorem isCards1 {w₀ : World} {h : AHeap} {k : Nat} {c : CardC} {mv : AVal} (hk : h k = some ⟨[.bool c.left, .str c.text, mv], 0⟩) (hm : IsL w₀ h 3 mv (c.marks.map markC)) : IsCards w₀ h (.slice (.own k) 0 1 (.exact 1)) [c] := by
  have hl := hm.live
  refine ⟨[(c, mv)], rfl, ?_, fun p hp => ?_⟩
  · exact IsL.own (xs := [cell3 (c, mv)]) hk (fun x hx => by rw [List.mem_singleton.1 hx]; rfl) rfl (show (true && (true && (mv.live && true))) = true by rw [hl]; rfl) (.exact 1) (Nat.le_refl _)
  · rw [List.mem_singleton.1 hp]
    exact hm
theorem isMarks1 {w₀ : World} {h : AHeap} {k : Nat} {m : MarkC} (hk : h k = some ⟨[.int .i64 m.frm, .int .i64 m.line, .int .i64 m.col], 0⟩) : IsL w₀ h 3 (.slice (.own k) 0 1 (.exact 1)) ([m].map markC) :=
  IsL.own (xs := [markC m]) hk (fun x hx => by rw [List.mem_singleton.1 hx]; rfl) rfl (by rfl) (.exact 1) (Nat.le_refl _)
set_option maxHeartbeats 4000000 in
theorem l_TokensErrors (w₀ : World) (hm : MaxL w₀) (h : AHeap) (c : CardC) (mv : AVal) (hc : IsL w₀ h 3 mv (c.marks.map markC)) (hct : c.text.length ≤ 9223372036854775807) (hcm : c.marks.length ≤ 9223372036854775807) (z0 z1 : UInt8) :
    ACall Tryz.prog w₀ 5 [cardA c mv, .agg [.int .u8 z0.toNat, .int .u8 z1.toNat]] h (fun x _ => x = .bool true) := by
  refine ACall.mono (R := fun x h' => x = .bool true ∧ h' = h) ?_ fun x h' hx => hx.1
  have hlm := hc.live
  have hlen := hc.len Tryz.underlying46
  rw [List.length_map] at hlen
  obtain ⟨ee, hee⟩ : ∃ ee, ee = (atE c 0).2.2 := ⟨_, rfl⟩
  obtain ⟨L, hL⟩ : ∃ L, L = (scanE [c]).1 := ⟨_, rfl⟩
  obtain ⟨F, hF⟩ : ∃ F, F = (scanE [c]).2 := ⟨_, rfl⟩
  obtain ⟨G, hG⟩ : ∃ G, G = refGo [c] [] := ⟨_, rfl⟩
  have hbad : ee ≠ 0 → L = [] ∧ F = ⟨1, 0, 0⟩ := fun q => by rw [hee] at q; rw [hL, hF, scan_bad q]; exact ⟨rfl, rfl⟩
  have hgood : ee = 0 → G = (L, F) := fun q => by rw [hee] at q; rw [hG, scan_good q, hL, hF]
  have hLl : L.length ≤ 65536 := by rw [hL]; exact scanGo_many [c] [] (Nat.zero_le _)
  obtain ⟨n0, hn0⟩ : ∃ n0, n0 = 1 + z0.toNat % 40 := ⟨_, rfl⟩
  obtain ⟨n1, hn1⟩ : ∃ n1, n1 = 1 + z1.toNat % 30 := ⟨_, rfl⟩
  obtain ⟨W0, hW0⟩ : ∃ W0 : FaultC, W0 = if 30 < n0 then ⟨5, 1, 14⟩ else ⟨0, 0, 0⟩ := ⟨_, rfl⟩
  obtain ⟨W1, hW1⟩ : ∃ W1 : FaultC, W1 = if 17 < n1 then ⟨5, 1, 14⟩ else ⟨0, 0, 0⟩ := ⟨_, rfl⟩
  have hsh0 : (showE ([88, 32] ++ List.replicate n0 65)).2 = W0 := by rw [hW0, hn0]; exact word_wide ⟨z0.toNat % 40, Nat.mod_lt _ (by omega)⟩
  have hsh1 : (showE ([88, 32] ++ List.replicate n1 55 ++ [46, 53])).2 = W1 := by rw [hW1, hn1]; exact number_wide ⟨z1.toNat % 30, Nat.mod_lt _ (by omega)⟩
  have hd0 : (decide (W0.e = 5) && (decide (W0.line = 1) && decide (W0.col = 14))) = decide (30 < n0) := by rw [hW0]; split <;> simp_all
  have hd1 : (decide (W1.e = 5) && (decide (W1.line = 1) && decide (W1.col = 14))) = decide (17 < n1) := by rw [hW1]; split <;> simp_all
  have hrepn0 : ∀ g, ACall Tryz.prog w₀ 17 [.str [65], .int .i64 (1 + (z0.toNat : Int) % 40)] g (fun v h' => v = .str (List.replicate n0 65) ∧ h' = g) := fun g => by
    rw [← show (n0 : Int) = 1 + (z0.toNat : Int) % 40 by omega]
    exact c_repeat w₀ g 65 n0 (by omega)
  have hrepn1 : ∀ g, ACall Tryz.prog w₀ 17 [.str [55], .int .i64 (1 + (z1.toNat : Int) % 30)] g (fun v h' => v = .str (List.replicate n1 55) ∧ h' = g) := fun g => by
    rw [← show (n1 : Int) = 1 + (z1.toNat : Int) % 30 by omega]
    exact c_repeat w₀ g 55 n1 (by omega)
  have hx0 : (decide (30 < n0) == decide ((30 : Int) < ((List.replicate n0 (65 : UInt8)).length : Int))) = true := by simp; omega
  have hx1 : (decide (17 < n1) == decide ((17 : Int) < ((List.replicate n1 (55 : UInt8)).length : Int))) = true := by simp; omega
  have hy0 : (decide (30 < n0) != decide ((30 : Int) < ((List.replicate n0 (65 : UInt8)).length : Int))) = false := by simp; omega
  have hy1 : (decide (17 < n1) != decide ((17 : Int) < ((List.replicate n1 (55 : UInt8)).length : Int))) = false := by simp; omega
  obtain ⟨s1, hs1⟩ : ∃ s1 : Str, s1 = (List.replicate 65536 ([65, 32] : Str)).flatten := ⟨_, rfl⟩
  obtain ⟨m1, hm1⟩ : ∃ m1, m1 = manyR 65536 := ⟨_, rfl⟩
  obtain ⟨m2, hm2⟩ : ∃ m2, m2 = manyR 65535 := ⟨_, rfl⟩
  have hs2 : s1 ++ [65] = m1 := by rw [hs1, hm1]; exact repeat_many 65536
  have hm1l : m1.length = 131073 := by rw [hm1, manyR_len]
  have hs1l : s1.length = 131072 := by have := congrArg List.length hs2; rw [hm1l, List.length_append] at this; simpa using this
  have h131 : Int.toNat 131071 = 131071 := rfl
  have hm2l : m2.length = 131071 := by rw [hm2, manyR_len]
  have hmt : m1.take 131071 = m2 := by rw [hm1, hm2]; exact manyR_take 65535
  have hr1 : scanE [⟨false, m1, [⟨0, 3, 8⟩]⟩] = ([], ⟨3, 3, 131080⟩) := by rw [hm1]; exact scan_many
  have hr2 : scanE [⟨false, m2, [⟨0, 3, 8⟩]⟩] = (toksM 65536, okF) := by rw [hm2]; exact scan_full
  unfold cardA
  refine acall_intro (n := 164) (rs := [.tmp 4]) Tryz.func5 rfl rfl rfl rfl (Nat.le_of_ble_eq_true rfl) ?_
  simp only [initSlots]
  refine awp_rseq [2, 3] (by rfl) fun K hK => ?_
  refine aOps_box (by rfl) (by rfl) (by rfl) fun k0q0 hk0q0 => ?_
  try have hf_0q0 : h k0q0 = none := by first | assumption | (simp only [AHeap.set_none] at hk0q0; simp only [hk0q0])
  skip
  refine aOps_box (by rfl) (by rfl) (by rfl) fun k0q1 hk0q1 => ?_
  have ne_0q1_0q0 : k0q1 ≠ k0q0 := by simp only [AHeap.set_none] at hk0q1; simp only [hk0q1, ne_eq, not_false_eq_true]
  try have hf_0q1 : h k0q1 = none := by first | assumption | (simp only [AHeap.set_none] at hk0q1; simp only [hk0q1])
  skip
  simp +decide only [aOps_nil, ev, absV, absS, putD, Slots.put, Slots.get, Slots.keep, if_true, if_false, true_and, ↓ap_assign, pop_assign, AVal.cells, Nat.zero_add]
  apply hK; clear hK K
  refine awp_seq ?_
  refine awp_rseq [2, 3, 32] (by rfl) fun K hK => ?_
  simp +decide only [aOps_nil, ev, absV, absS, putD, Slots.put, Slots.get, Slots.keep, if_true, if_false, true_and, ↓ap_fieldAddr, pop_fieldAddr, fa48_1, ↓ap_loadL, apL_mk, pLoad_one ag9, ↓ap_len, pop_len, pLen_str Tryz.underlying9, ↓ap_binOp, pop_binOp, isNilC_int, cond_false, pBinX_int, pI_gtr, ↓ap_move, pop_move, ↓ag_fieldAddr, agP, agQ_some, nthDst, gKnown_bool, guardB_bool_false, implies_true, fa48_2, ↓ag_loadL, agQL_some, agL_mk, agL_ld2, pLoad_one ag46, ↓ag_len, cv_len, cp_len, ↓ag_binOp, cv_binl, cp_binl, ↓ap_pick, pop_pick, pPick_bool, pickV_cond_r, pickV_or, rd_ne', ne_eq, not_false_eq_true, ne_0q1_0q0.symm, rd_any, List.getD_cons_zero, List.getD_cons_succ, Nat.zero_add, lv_str, hlm, hlen]
  apply hK; clear hK K
  refine awp_cond (b := _) rfl (fun hb1 => ?_) (fun hb1 => ?_)
  · try simp only [decide_eq_true_eq, Bool.or_eq_true] at hb1
    refine awp_rseq [4] (by rfl) fun K hK => ?_
    refine aOps_callV (V := .bool true) (by rfl) (by rfl) (c_lives03 w₀ hm _) ?_
    simp +decide only [aOps_nil, ev, putD, Slots.put, Slots.get, Slots.keep, if_true, if_false, true_and, ↓ap_assign, pop_assign]
    apply hK; clear hK K
    refine awp_ret ?_
    try simp only [thenA_ret]
    refine retA_ret h (by repeat (first | exact Sub.refl _ | assumption | refine Sub.trans_set ?_ (by assumption))) (resPre_tmp (resPre_nil)) ?_
    simp +decide only [Slots.get, if_true, and_true, resOf_one]
    all_goals first | rfl | exact ⟨rfl, rfl⟩ | (simp +decide only [if_true, if_false, *]; done) | (trace_state; fail)
  · try simp only [decide_eq_false_iff_not, Bool.or_eq_false_iff] at hb1
    have hl1 : c.text.length ≤ 60 ∧ c.marks.length ≤ 10 := by omega
    refine awp_skip ?_
    change Awp _ _ _ _ _ _ _
    refine awp_rseq [2, 3, 6] (by rfl) fun K hK => ?_
    simp +decide only [ev, putD, Slots.put, Slots.get, if_true, if_false, true_and, ↓ap_loadL, apL_mk, pLoad_agg ag48 sz48, rd_ne', ne_eq, not_false_eq_true, ne_0q1_0q0.symm, rd_any, cellsAt, List.getD_cons_zero, List.getD_cons_succ, Nat.zero_add, Nat.reduceAdd, lv_bool, lv_str, allLive, Bool.and_true, hlm]
    refine aOps_callV (V := .tuple [posA (atE c 0).1 (atE c 0).2.1, .int .i64 ee]) (by rfl) (by rfl) ((by rw [hee]; exact c_At w₀ _ c mv 0 (hc.mono (by repeat (first | exact Sub.refl _ | assumption | refine Sub.set_both ?_ _ _ | refine Sub.trans_set ?_ (by repeat (first | assumption | refine (AHeap.set_ne _ _ (by first | assumption | exact Ne.symm (by assumption))).trans ?_))))) (by omega) (by omega) (by omega))) ?_
    simp +decide only [ev, putD, Slots.put, Slots.get, if_true, if_false, true_and, ↓ap_move, pop_move, ↓ap_extract, pop_extract, pExt_tuple, List.length_cons, List.length_nil, List.getD_cons_zero, List.getD_cons_succ, List.getD_cons_zero, List.getD_cons_succ, Nat.zero_add, Nat.reduceAdd, posA]
    refine aOps_alloc ze29 (cs := [.int .i64 0, .int .i64 0]) (by rfl) fun k3q5 hk3q5 => ?_
    have ne_3q5_0q0 : k3q5 ≠ k0q0 := by simp only [AHeap.set_none] at hk3q5; simp only [hk3q5, ne_eq, not_false_eq_true]
    have ne_3q5_0q1 : k3q5 ≠ k0q1 := by simp only [AHeap.set_none] at hk3q5; simp only [hk3q5, ne_eq, not_false_eq_true]
    try have hf_3q5 : h k3q5 = none := by first | assumption | (simp only [AHeap.set_none] at hk3q5; simp only [hk3q5])
    refine aOps_store (by rfl) (by rfl) (by repeat (first | exact AHeap.set_same _ _ _ | assumption | refine (AHeap.set_ne _ _ (by first | assumption | exact Ne.symm (by assumption))).trans ?_)) sz29 (by rfl) (by rfl) (by first | exact Nat.le_refl _ | decide | (simp; done) | (simp; omega)) (Nat.zero_le _) (by rfl) ?_
    simp only [AHeap.set_set, AVal.cells]
    simp +decide only [aOps_nil, ev, putD, Slots.put, Slots.get, Slots.keep, if_true, if_false, true_and, ↓ap_assign, pop_assign, setAt, List.set_cons_zero, List.set_cons_succ, Nat.zero_add]
    apply hK; clear hK K
    refine awp_rseq [2, 3, 6, 7, 8] (by rfl) fun K hK => ?_
    simp +decide only [ev, putD, Slots.put, Slots.get, if_true, if_false, true_and, ↓ap_loadL, apL_mk, pLoad_agg ag48 sz48, rd_ne', ne_eq, not_false_eq_true, ne_0q1_0q0.symm, ne_3q5_0q0.symm, rd_any, cellsAt, List.getD_cons_zero, List.getD_cons_succ, Nat.zero_add, Nat.reduceAdd, lv_bool, lv_str, allLive, Bool.and_true, hlm]
    refine aOps_buildSlice (cs := [.bool c.left, .str c.text, mv]) (by kernel_rfl) fun k4q1 hk4q1 => ?_
    have ne_4q1_0q0 : k4q1 ≠ k0q0 := by simp only [AHeap.set_none] at hk4q1; simp only [hk4q1, ne_eq, not_false_eq_true]
    have ne_4q1_0q1 : k4q1 ≠ k0q1 := by simp only [AHeap.set_none] at hk4q1; simp only [hk4q1, ne_eq, not_false_eq_true]
    have ne_4q1_3q5 : k4q1 ≠ k3q5 := by simp only [AHeap.set_none] at hk4q1; simp only [hk4q1, ne_eq, not_false_eq_true]
    try have hf_4q1 : h k4q1 = none := by first | assumption | (simp only [AHeap.set_none] at hk4q1; simp only [hk4q1])
    refine aOps_call (by rfl) (by rfl) (c_Scan w₀ _ _ [c] (isCards1 (AHeap.set_same _ _ _) (hc.mono (by repeat (first | exact Sub.refl _ | assumption | refine Sub.set_both ?_ _ _ | refine Sub.trans_set ?_ (by repeat (first | assumption | refine (AHeap.set_ne _ _ (by first | assumption | exact Ne.symm (by assumption))).trans ?_)))))) (by simp) (by simp; omega)) fun x4q2 h4q2 hx4q2 => ?_
    obtain ⟨tv4, hv4, ht4, hs4⟩ := hx4q2.toks (w₀ := w₀)
    obtain ⟨v4, hv4'⟩ : ∃ v, v = capL tv4 := ⟨_, rfl⟩
    rw [← hF, ← hv4'] at hv4
    rw [← hL, ← hv4'] at ht4
    have hl4 := ht4.live
    have hn4 := tok_len ht4
    rw [hv4]
    have hs_h4q2 : Sub h h4q2 := Sub.trans (by repeat (first | exact Sub.refl _ | assumption | refine Sub.trans_set ?_ (by assumption))) hs4
    have hr_h4q2 := hs_h4q2
    have eb_0q0 := hs4 k0q0 _ (by repeat (first | exact AHeap.set_same _ _ _ | assumption | refine (AHeap.set_ne _ _ (by first | assumption | exact Ne.symm (by assumption))).trans ?_))
    have eb_0q1 := hs4 k0q1 _ (by repeat (first | exact AHeap.set_same _ _ _ | assumption | refine (AHeap.set_ne _ _ (by first | assumption | exact Ne.symm (by assumption))).trans ?_))
    have eb_3q5 := hs4 k3q5 _ (by repeat (first | exact AHeap.set_same _ _ _ | assumption | refine (AHeap.set_ne _ _ (by first | assumption | exact Ne.symm (by assumption))).trans ?_))
    have eb_4q1 := hs4 k4q1 _ (by repeat (first | exact AHeap.set_same _ _ _ | assumption | refine (AHeap.set_ne _ _ (by first | assumption | exact Ne.symm (by assumption))).trans ?_))
    simp +decide only [ev, putD, Slots.put, Slots.get, if_true, if_false, true_and, ↓ap_move, pop_move, ↓ap_extract, pop_extract, pExt_tuple, List.length_cons, List.length_nil, List.getD_cons_zero, List.getD_cons_succ, List.getD_cons_zero, List.getD_cons_succ, Nat.zero_add, Nat.reduceAdd, faultA]
    refine aOps_alloc ze31 (cs := [.int .i64 0, .int .i64 0, .int .i64 0]) (by rfl) fun k4q6 hk4q6 => ?_
    have hn_4q6 : h4q2 k4q6 = none := by first | assumption | (simp only [AHeap.set_none] at hk4q6; simp only [hk4q6])
    have hf_4q6 : h k4q6 = none := Sub.none hs_h4q2 hn_4q6
    have ne_4q6_0q0 : k4q6 ≠ k0q0 := AHeap.ne_some hn_4q6 eb_0q0
    have ne_4q6_0q1 : k4q6 ≠ k0q1 := AHeap.ne_some hn_4q6 eb_0q1
    have ne_4q6_3q5 : k4q6 ≠ k3q5 := AHeap.ne_some hn_4q6 eb_3q5
    have ne_4q6_4q1 : k4q6 ≠ k4q1 := AHeap.ne_some hn_4q6 eb_4q1
    simp +decide only [ev, putD, Slots.put, Slots.get, if_true, if_false, true_and, ↓ap_assign, pop_assign]
    refine aOps_store (by rfl) (by rfl) (by repeat (first | exact AHeap.set_same _ _ _ | assumption | refine (AHeap.set_ne _ _ (by first | assumption | exact Ne.symm (by assumption))).trans ?_)) sz31 (by rfl) (by rfl) (by first | exact Nat.le_refl _ | decide | (simp; done) | (simp; omega)) (Nat.zero_le _) (by rfl) ?_
    simp only [AHeap.set_set, AVal.cells]
    simp +decide only [aOps_nil, ev, putD, Slots.get, Slots.keep, if_true, if_false, setAt, List.set_cons_zero, List.set_cons_succ, Nat.zero_add, Nat.reduceAdd]
    apply hK; clear hK K
    refine awp_seq ?_
    refine awp_rseq [2, 3, 6, 7, 8, 56] (by rfl) fun K hK => ?_
    simp +decide only [aOps_nil, ev, absV, absS, putD, Slots.put, Slots.get, Slots.keep, if_true, if_false, true_and, ↓ap_move, pop_move, ↓ap_binOp, pop_binOp, isNilC_int, cond_false, pBinX_int, pI_neq, ↓ag_loadL, agQL_some, agL_mk, agP, agQ_some, nthDst, gKnown_bool, gKnown_cond, guardB_cond, guardB_bool_true, guardB_bool_false, cv_cv, implies_true, Bool.not_not, Bool.and_true, pLoad_agg ag31 sz31, ↓ag_build, ↓pop_buildL, bld31_0, evP, List.map_cons, List.map_nil, ↓ag_binOp, isNilC_tmp, cv_binl, cv_binr, cp_binl, cp_binr, pBinX_agg, ne31, ↓ag_move, ↓ag_len, pop_len, cv_len, cp_len, ↓ag_pick, pop_pick, pPick_bool, pickV_cond_l, cp_nest3, pickV_and, pickV_or, cv_pick, cp_pick, ↓ap_pick, rd_any, cellsAt, List.getD_cons_zero, List.getD_cons_succ, Nat.zero_add, Nat.reduceAdd, lv_int, allLive, Bool.and_true, hn4]
    apply hK; clear hK K
    refine awp_cond (b := _) rfl (fun hb2 => ?_) (fun hb2 => ?_)
    · try simp only [decide_eq_false_iff_not, Bool.not_eq_true', Bool.and_eq_true, Bool.and_eq_false_iff, Bool.or_eq_true] at hb2
      obtain ⟨q1, q2⟩ := hb2
      obtain ⟨q3, q4⟩ := hbad q1
      rw [q3, q4] at q2
      exact absurd q2 (by simp)
    · try simp only [decide_eq_true_eq, Bool.not_eq_false', Bool.and_eq_true, Bool.and_eq_false_iff, Bool.or_eq_false_iff] at hb2
      refine awp_skip ?_
      change Awp _ _ _ _ _ _ _
      refine awp_rseq [3, 6, 7, 8, 9, 10] (by rfl) fun K hK => ?_
      simp +decide only [ev, putD, Slots.put, Slots.get, if_true, if_false, true_and, ↓ap_loadL, apL_mk, pLoad_agg ag48 sz48, rd_ne', ne_eq, not_false_eq_true, ne_4q6_0q0.symm, rd_own w₀ eb_0q0, cellsAt, List.getD_cons_zero, List.getD_cons_succ, Nat.zero_add, Nat.reduceAdd, lv_bool, lv_str, allLive, Bool.and_true, hlm]
      refine aOps_buildSlice (cs := [.bool c.left, .str c.text, mv]) (by kernel_rfl) fun k7q1 hk7q1 => ?_
      have ne_7q1_4q6 : k7q1 ≠ k4q6 := by simp only [AHeap.set_none] at hk7q1; simp only [hk7q1, ne_eq, not_false_eq_true]
      have hn_7q1 : h4q2 k7q1 = none := by first | assumption | (simp only [AHeap.set_none] at hk7q1; simp only [hk7q1])
      have hf_7q1 : h k7q1 = none := Sub.none hs_h4q2 hn_7q1
      have ne_7q1_0q0 : k7q1 ≠ k0q0 := AHeap.ne_some hn_7q1 eb_0q0
      have ne_7q1_0q1 : k7q1 ≠ k0q1 := AHeap.ne_some hn_7q1 eb_0q1
      have ne_7q1_3q5 : k7q1 ≠ k3q5 := AHeap.ne_some hn_7q1 eb_3q5
      have ne_7q1_4q1 : k7q1 ≠ k4q1 := AHeap.ne_some hn_7q1 eb_4q1
      refine aOps_call (by rfl) (by rfl) (c_refScan w₀ _ _ [c] (isCards1 (AHeap.set_same _ _ _) (hc.mono (by repeat (first | exact Sub.refl _ | assumption | refine Sub.set_both ?_ _ _ | refine Sub.trans_set ?_ (by repeat (first | assumption | refine (AHeap.set_ne _ _ (by first | assumption | exact Ne.symm (by assumption))).trans ?_)))))) (by simp) (by simp; omega) (by simp [lenSum]; omega)) fun x7q2 h7q2 hx7q2 => ?_
      obtain ⟨rb, hv7, r1, r2, r3⟩ := hx7q2
      rw [← hG] at r2 hv7
      have hs7 : Sub ((h4q2.set k4q6 ⟨[.int .i64 F.e, .int .i64 F.line, .int .i64 F.col], 0⟩).set k7q1 ⟨[.bool c.left, .str c.text, mv], 0⟩) h7q2 := by rw [r3]; exact Sub.buf r1
      have hrb : IsL w₀ h7q2 5 (bufV 5 rb) (G.1.map tokC) := IsL.buf r1 (by decide) r2 tokC_wide (by rw [r3]; exact Sub.refl _)
      have hl7 := hrb.live
      rw [hv7]
      have hs_h7q2 : Sub h h7q2 := Sub.trans (by repeat (first | exact Sub.refl _ | assumption | refine Sub.trans_set ?_ (by assumption))) hs7
      have hr_h7q2 : Sub h4q2 h7q2 := Sub.trans (by repeat (first | exact Sub.refl _ | assumption | refine Sub.trans_set ?_ (by assumption))) hs7
      have eb_4q6 := hs7 k4q6 _ (by repeat (first | exact AHeap.set_same _ _ _ | assumption | refine (AHeap.set_ne _ _ (by first | assumption | exact Ne.symm (by assumption))).trans ?_))
      have eb_7q1 := hs7 k7q1 _ (by repeat (first | exact AHeap.set_same _ _ _ | assumption | refine (AHeap.set_ne _ _ (by first | assumption | exact Ne.symm (by assumption))).trans ?_))
      have eb_0q0 := hs7 k0q0 _ (by repeat (first | exact AHeap.set_same _ _ _ | assumption | refine (AHeap.set_ne _ _ (by first | assumption | exact Ne.symm (by assumption))).trans ?_))
      have eb_0q1 := hs7 k0q1 _ (by repeat (first | exact AHeap.set_same _ _ _ | assumption | refine (AHeap.set_ne _ _ (by first | assumption | exact Ne.symm (by assumption))).trans ?_))
      have eb_3q5 := hs7 k3q5 _ (by repeat (first | exact AHeap.set_same _ _ _ | assumption | refine (AHeap.set_ne _ _ (by first | assumption | exact Ne.symm (by assumption))).trans ?_))
      have eb_4q1 := hs7 k4q1 _ (by repeat (first | exact AHeap.set_same _ _ _ | assumption | refine (AHeap.set_ne _ _ (by first | assumption | exact Ne.symm (by assumption))).trans ?_))
      simp +decide only [ev, putD, Slots.put, Slots.get, if_true, if_false, true_and, ↓ap_move, pop_move, ↓ap_extract, pop_extract, pExt_tuple, List.length_cons, List.length_nil, List.getD_cons_zero, List.getD_cons_succ, List.getD_cons_zero, List.getD_cons_succ, Nat.zero_add, Nat.reduceAdd, faultA]
      refine aOps_alloc ze31 (cs := [.int .i64 0, .int .i64 0, .int .i64 0]) (by rfl) fun k7q6 hk7q6 => ?_
      have hn_7q6 : h7q2 k7q6 = none := by first | assumption | (simp only [AHeap.set_none] at hk7q6; simp only [hk7q6])
      have hf_7q6 : h k7q6 = none := Sub.none hs_h7q2 hn_7q6
      have ne_7q6_0q0 : k7q6 ≠ k0q0 := AHeap.ne_some hn_7q6 eb_0q0
      have ne_7q6_0q1 : k7q6 ≠ k0q1 := AHeap.ne_some hn_7q6 eb_0q1
      have ne_7q6_3q5 : k7q6 ≠ k3q5 := AHeap.ne_some hn_7q6 eb_3q5
      have ne_7q6_4q1 : k7q6 ≠ k4q1 := AHeap.ne_some hn_7q6 eb_4q1
      have ne_7q6_4q6 : k7q6 ≠ k4q6 := AHeap.ne_some hn_7q6 eb_4q6
      have ne_7q6_7q1 : k7q6 ≠ k7q1 := AHeap.ne_some hn_7q6 eb_7q1
      simp +decide only [ev, putD, Slots.put, Slots.get, if_true, if_false, true_and, ↓ap_assign, pop_assign]
      refine aOps_store (by rfl) (by rfl) (by repeat (first | exact AHeap.set_same _ _ _ | assumption | refine (AHeap.set_ne _ _ (by first | assumption | exact Ne.symm (by assumption))).trans ?_)) sz31 (by rfl) (by rfl) (by first | exact Nat.le_refl _ | decide | (simp; done) | (simp; omega)) (Nat.zero_le _) (by rfl) ?_
      simp only [AHeap.set_set, AVal.cells]
      simp +decide only [aOps_nil, ev, putD, Slots.get, Slots.keep, if_true, if_false, setAt, List.set_cons_zero, List.set_cons_succ, Nat.zero_add, Nat.reduceAdd]
      apply hK; clear hK K
      refine awp_seq ?_
      have heq : ee = 0 → ∀ g, Sub h7q2 g → ACall Tryz.prog w₀ 15 [v4, bufV 5 rb] g (fun v h' => v = .int .i64 0 ∧ h' = g) := fun q g hg => by
        have hg' := hgood q
        refine c_equalS w₀ g _ _ L (ht4.mono (hr_h7q2.trans hg)) ?_ (by omega)
        have := hrb.mono hg
        rw [hg'] at this
        exact this
      refine awp_rseq [3, 75] (by rfl) fun K hK => ?_
      simp +decide only [ev, absV, absS, putD, Slots.put, Slots.get, if_true, if_false, true_and, ↓ap_move, pop_move, ↓ap_binOp, pop_binOp, isNilC_int, cond_false, pBinX_int, pI_eql, ↓ag_loadL, agQL_some, agL_mk, agP, agQ_some, nthDst, gKnown_bool, gKnown_cond, guardB_cond, guardB_bool_true, guardB_bool_false, cv_cv, implies_true, Bool.not_not, Bool.and_true, pLoad_agg ag31 sz31, ↓ag_binOp, isNilC_tmp, cv_binl, cv_binr, cp_binl, cp_binr, pBinX_agg, ne31, ↓ag_move, rd_ne', ne_eq, not_false_eq_true, ne_7q6_4q6.symm, rd_own w₀ eb_4q6, rd_any, cellsAt, List.getD_cons_zero, List.getD_cons_succ, Nat.zero_add, Nat.reduceAdd, lv_int, allLive, Bool.and_true]
      (refine aOps_gcall (V := .int .i64 0) (f := _) (cap := _) (xs := _) (by first | rfl | (simp +decide only [gv, nthDst, Slots.get, if_true, if_false, gKnown_cond])) (fun hg => ⟨rfl, ?_⟩) (fun hg => heq (by refine Decidable.byContradiction fun q => ?_; simp [gv, nthDst, Slots.get, q, condV, guardB] at hg) _ (by repeat (first | exact Sub.refl _ | assumption | refine Sub.set_both ?_ _ _ | refine Sub.trans_set ?_ (by repeat (first | assumption | refine (AHeap.set_ne _ _ (by first | assumption | exact Ne.symm (by assumption))).trans ?_))))) ?_; · (simp +decide only [gv, nthDst, Slots.get, if_true, if_false, guardB_bool_false, guardB_cond, Bool.not_not] at hg; simp +decide only [evs, ev, Slots.get, if_true, if_false, hg, condV_true, List.append_nil, List.map_cons, List.map_nil] <;> try rfl))
      simp +decide only [aOps_nil, ev, absV, absS, putD, Slots.put, Slots.get, Slots.keep, if_true, if_false, true_and, gv, nthDst, guardB_bool_true, guardB_bool_false, guardB_cond, ↓ag_binOp, pop_binOp, agP, agQ_some, gKnown_bool, gKnown_cond, implies_true, Bool.not_not, decide_true, Bool.not_true, Bool.and_true, isNilC_int, cond_false, cv_binl, cp_binl, pBinX_int, pI_neq, ↓ag_pick, pop_pick, pPick_bool, pickV_cond_l, cp_nest3, pickV_and, cv_pick, cp_pick, ↓ap_pick, Bool.and_true]
      apply hK; clear hK K
      refine awp_cond (b := _) rfl (fun hb3 => ?_) (fun hb3 => ?_)
      · try simp only [decide_eq_true_eq, decide_eq_false_iff_not, Bool.not_eq_true', Bool.and_eq_true, Bool.and_eq_false_iff] at hb3
        obtain ⟨q1, q2⟩ := hb3
        rw [hgood q1] at q2
        exact absurd q2 (by simp)
      · try simp only [decide_eq_true_eq, decide_eq_false_iff_not, Bool.not_eq_false', Bool.and_eq_true, Bool.and_eq_false_iff] at hb3
        refine awp_skip ?_
        change Awp _ _ _ _ _ _ _
        refine awp_rseq [3, 11] (by rfl) fun K hK => ?_
        simp +decide only [ev, absV, absS, putD, Slots.put, Slots.get, if_true, if_false, true_and, ↓ap_indexAddrL, apL_mk, pIndexAddr_ptr Tryz.underlying49 sz5, ↓ap_loadL, pLoad_one ag5, ↓ap_binOp, pop_binOp, isNilC_int, cond_false, pBinX_int, pI_rem, ↓ap_convert _ _ _ (es_int Tryz.underlying5 Tryz.underlying3), pop_convert, pConv_int Tryz.underlying5 Tryz.underlying3, isNilC_tmp, pI_add, rd_ne', ne_eq, not_false_eq_true, ne_7q6_0q1.symm, rd_own w₀ eb_0q1, List.getD_cons_zero, Nat.zero_add, lv_int, Int.toNat_zero, Nat.mul_one]
        try simp (disch := omega) only [Int.tmod_eq_emod_of_nonneg, wrap_i64]
        refine aOps_callV (V := .str (List.replicate n0 65)) (by rfl) (by rfl) (hrepn0 _) ?_
        simp +decide only [aOps_nil, ev, putD, Slots.put, Slots.get, Slots.keep, if_true, if_false, true_and, ↓ap_assign, pop_assign]
        apply hK; clear hK K
        refine awp_rseq [11, 12] (by rfl) fun K hK => ?_
        simp +decide only [ev, absV, absS, putD, Slots.put, Slots.get, if_true, if_false, true_and, ↓ap_indexAddrL, apL_mk, pIndexAddr_ptr Tryz.underlying49 sz5, ↓ap_loadL, pLoad_one ag5, ↓ap_binOp, pop_binOp, isNilC_int, cond_false, pBinX_int, pI_rem, ↓ap_convert _ _ _ (es_int Tryz.underlying5 Tryz.underlying3), pop_convert, pConv_int Tryz.underlying5 Tryz.underlying3, isNilC_tmp, pI_add, rd_ne', ne_eq, not_false_eq_true, ne_7q6_0q1.symm, rd_own w₀ eb_0q1, List.getD_cons_zero, List.getD_cons_succ, Nat.zero_add, lv_int, Int.toNat_one, Nat.mul_one]
        try simp (disch := omega) only [Int.tmod_eq_emod_of_nonneg, wrap_i64]
        refine aOps_callV (V := .str (List.replicate n1 55)) (by rfl) (by rfl) (hrepn1 _) ?_
        simp +decide only [aOps_nil, ev, putD, Slots.put, Slots.get, Slots.keep, if_true, if_false, true_and, ↓ap_assign, pop_assign]
        apply hK; clear hK K
        refine awp_rseq [11, 12, 14] (by rfl) fun K hK => ?_
        simp +decide only [ev, absV, absS, putD, Slots.put, Slots.get, if_true, if_false, true_and, ↓ap_move, pop_move, ↓ap_binOp, pop_binOp, isNilC_tmp, cond_false, pBinX_str, pS_add]
        repeat (with_reducible refine And.intro ?_ ?_; · first | trivial | omega | (intro hg; simp only [Bool.and_eq_true, Bool.or_eq_true, Bool.not_eq_true', Bool.and_eq_false_iff, Bool.or_eq_false_iff, Bool.not_eq_false', decide_eq_true_eq, decide_eq_false_iff_not, eqNil] at hg; omega) | (simp only [List.length_replicate, List.length_cons, List.length_nil]; omega))
        refine aOps_callV (V := .tuple [.str (showE ([88, 32] ++ List.replicate n0 65)).1, faultA W0]) (by rfl) (by rfl) (c_showF w₀ hm _ _ (by simp; omega) hsh0) ?_
        simp +decide only [ev, putD, Slots.put, Slots.get, if_true, if_false, true_and, ↓ap_move, pop_move, ↓ap_extract, pop_extract, pExt_tuple, List.length_cons, List.length_nil, List.getD_cons_zero, List.getD_cons_succ, List.getD_cons_zero, List.getD_cons_succ, Nat.zero_add, Nat.reduceAdd, faultA]
        refine aOps_alloc ze31 (cs := [.int .i64 0, .int .i64 0, .int .i64 0]) (by rfl) fun k12q6 hk12q6 => ?_
        have ne_12q6_7q6 : k12q6 ≠ k7q6 := by simp only [AHeap.set_none] at hk12q6; simp only [hk12q6, ne_eq, not_false_eq_true]
        have hn_12q6 : h7q2 k12q6 = none := by first | assumption | (simp only [AHeap.set_none] at hk12q6; simp only [hk12q6])
        have hf_12q6 : h k12q6 = none := Sub.none hs_h7q2 hn_12q6
        have ne_12q6_0q0 : k12q6 ≠ k0q0 := AHeap.ne_some hn_12q6 eb_0q0
        have ne_12q6_0q1 : k12q6 ≠ k0q1 := AHeap.ne_some hn_12q6 eb_0q1
        have ne_12q6_3q5 : k12q6 ≠ k3q5 := AHeap.ne_some hn_12q6 eb_3q5
        have ne_12q6_4q1 : k12q6 ≠ k4q1 := AHeap.ne_some hn_12q6 eb_4q1
        have ne_12q6_4q6 : k12q6 ≠ k4q6 := AHeap.ne_some hn_12q6 eb_4q6
        have ne_12q6_7q1 : k12q6 ≠ k7q1 := AHeap.ne_some hn_12q6 eb_7q1
        simp +decide only [ev, putD, Slots.put, Slots.get, if_true, if_false, true_and, ↓ap_assign, pop_assign]
        refine aOps_store (by rfl) (by rfl) (by repeat (first | exact AHeap.set_same _ _ _ | assumption | refine (AHeap.set_ne _ _ (by first | assumption | exact Ne.symm (by assumption))).trans ?_)) sz31 (by rfl) (by rfl) (by first | exact Nat.le_refl _ | decide | (simp; done) | (simp; omega)) (Nat.zero_le _) (by rfl) ?_
        simp only [AHeap.set_set, AVal.cells]
        simp +decide only [aOps_nil, ev, putD, Slots.get, Slots.keep, if_true, if_false, setAt, List.set_cons_zero, List.set_cons_succ, Nat.zero_add, Nat.reduceAdd]
        apply hK; clear hK K
        refine awp_rseq [11, 12, 14, 16] (by rfl) fun K hK => ?_
        simp +decide only [ev, absV, absS, putD, Slots.put, Slots.get, if_true, if_false, true_and, ↓ap_move, pop_move, ↓ap_binOp, pop_binOp, isNilC_tmp, cond_false, pBinX_str, pS_add, isNilC_str]
        repeat (with_reducible refine And.intro ?_ ?_; · first | trivial | omega | (intro hg; simp only [Bool.and_eq_true, Bool.or_eq_true, Bool.not_eq_true', Bool.and_eq_false_iff, Bool.or_eq_false_iff, Bool.not_eq_false', decide_eq_true_eq, decide_eq_false_iff_not, eqNil] at hg; omega) | (simp only [List.length_append, List.length_replicate, List.length_cons, List.length_nil]; omega))
        refine aOps_callV (V := .tuple [.str (showE ([88, 32] ++ List.replicate n1 55 ++ [46, 53])).1, faultA W1]) (by rfl) (by rfl) (c_showF w₀ hm _ _ (by simp; omega) hsh1) ?_
        simp +decide only [ev, putD, Slots.put, Slots.get, if_true, if_false, true_and, ↓ap_move, pop_move, ↓ap_extract, pop_extract, pExt_tuple, List.length_cons, List.length_nil, List.getD_cons_zero, List.getD_cons_succ, List.getD_cons_zero, List.getD_cons_succ, Nat.zero_add, Nat.reduceAdd, faultA]
        refine aOps_alloc ze31 (cs := [.int .i64 0, .int .i64 0, .int .i64 0]) (by rfl) fun k13q7 hk13q7 => ?_
        have ne_13q7_7q6 : k13q7 ≠ k7q6 := by simp only [AHeap.set_none] at hk13q7; simp only [hk13q7, ne_eq, not_false_eq_true]
        have ne_13q7_12q6 : k13q7 ≠ k12q6 := by simp only [AHeap.set_none] at hk13q7; simp only [hk13q7, ne_eq, not_false_eq_true]
        have hn_13q7 : h7q2 k13q7 = none := by first | assumption | (simp only [AHeap.set_none] at hk13q7; simp only [hk13q7])
        have hf_13q7 : h k13q7 = none := Sub.none hs_h7q2 hn_13q7
        have ne_13q7_0q0 : k13q7 ≠ k0q0 := AHeap.ne_some hn_13q7 eb_0q0
        have ne_13q7_0q1 : k13q7 ≠ k0q1 := AHeap.ne_some hn_13q7 eb_0q1
        have ne_13q7_3q5 : k13q7 ≠ k3q5 := AHeap.ne_some hn_13q7 eb_3q5
        have ne_13q7_4q1 : k13q7 ≠ k4q1 := AHeap.ne_some hn_13q7 eb_4q1
        have ne_13q7_4q6 : k13q7 ≠ k4q6 := AHeap.ne_some hn_13q7 eb_4q6
        have ne_13q7_7q1 : k13q7 ≠ k7q1 := AHeap.ne_some hn_13q7 eb_7q1
        simp +decide only [ev, putD, Slots.put, Slots.get, if_true, if_false, true_and, ↓ap_assign, pop_assign]
        refine aOps_store (by rfl) (by rfl) (by repeat (first | exact AHeap.set_same _ _ _ | assumption | refine (AHeap.set_ne _ _ (by first | assumption | exact Ne.symm (by assumption))).trans ?_)) sz31 (by rfl) (by rfl) (by first | exact Nat.le_refl _ | decide | (simp; done) | (simp; omega)) (Nat.zero_le _) (by rfl) ?_
        simp only [AHeap.set_set, AVal.cells]
        simp +decide only [aOps_nil, ev, putD, Slots.get, Slots.keep, if_true, if_false, setAt, List.set_cons_zero, List.set_cons_succ, Nat.zero_add, Nat.reduceAdd]
        apply hK; clear hK K
        refine awp_rseq [11, 12, 14, 16, 17] (by rfl) fun K hK => ?_
        simp +decide only [ev, absV, absS, putD, Slots.put, Slots.get, if_false, true_and, ↓ap_build, ↓pop_buildL, bld29_0_1, evP, List.map_cons, List.map_nil]
        refine aOps_alloc ze29 (cs := [.int .i64 0, .int .i64 0]) (by rfl) fun k14q1 hk14q1 => ?_
        have ne_14q1_7q6 : k14q1 ≠ k7q6 := by simp only [AHeap.set_none] at hk14q1; simp only [hk14q1, ne_eq, not_false_eq_true]
        have ne_14q1_12q6 : k14q1 ≠ k12q6 := by simp only [AHeap.set_none] at hk14q1; simp only [hk14q1, ne_eq, not_false_eq_true]
        have ne_14q1_13q7 : k14q1 ≠ k13q7 := by simp only [AHeap.set_none] at hk14q1; simp only [hk14q1, ne_eq, not_false_eq_true]
        have hn_14q1 : h7q2 k14q1 = none := by first | assumption | (simp only [AHeap.set_none] at hk14q1; simp only [hk14q1])
        have hf_14q1 : h k14q1 = none := Sub.none hs_h7q2 hn_14q1
        have ne_14q1_0q0 : k14q1 ≠ k0q0 := AHeap.ne_some hn_14q1 eb_0q0
        have ne_14q1_0q1 : k14q1 ≠ k0q1 := AHeap.ne_some hn_14q1 eb_0q1
        have ne_14q1_3q5 : k14q1 ≠ k3q5 := AHeap.ne_some hn_14q1 eb_3q5
        have ne_14q1_4q1 : k14q1 ≠ k4q1 := AHeap.ne_some hn_14q1 eb_4q1
        have ne_14q1_4q6 : k14q1 ≠ k4q6 := AHeap.ne_some hn_14q1 eb_4q6
        have ne_14q1_7q1 : k14q1 ≠ k7q1 := AHeap.ne_some hn_14q1 eb_7q1
        refine aOps_store (by rfl) (by rfl) (by repeat (first | exact AHeap.set_same _ _ _ | assumption | refine (AHeap.set_ne _ _ (by first | assumption | exact Ne.symm (by assumption))).trans ?_)) sz29 (by rfl) (by rfl) (by first | exact Nat.le_refl _ | decide | (simp; done) | (simp; omega)) (Nat.zero_le _) (by rfl) ?_
        simp only [AHeap.set_set, AVal.cells]
        simp +decide only [aOps_nil, ev, putD, Slots.put, Slots.get, Slots.keep, if_true, if_false, setAt, List.set_cons_zero, List.set_cons_succ, Nat.zero_add]
        apply hK; clear hK K
        refine awp_seq ?_
        refine awp_rseq [119] (by rfl) fun K hK => ?_
        simp +decide only [aOps_nil, ev, absV, absS, putD, Slots.put, Slots.get, Slots.keep, if_true, if_false, true_and, ↓ap_loadL, apL_mk, pLoad_agg ag31 sz31, pLoad_agg ag29 sz29, ↓ap_build, ↓pop_buildL, bld31_0_1, evP, List.map_cons, List.map_nil, ↓ap_binOp, pop_binOp, isNilC_tmp, cond_false, pBinX_agg, eq31, ↓ap_move, pop_move, ↓ap_len, pop_len, pLen_str Tryz.underlying9, isNilC_int, pBinX_int, pI_gtr, pBinX_bne, Tryz.underlying4, ↓ag_loadL, agQL_some, agL_mk, agP, agQ_some, nthDst, gKnown_bool, guardB_bool_false, implies_true, Bool.not_false, Bool.not_true, condV_true, Bool.and_true, ↓ag_build, ↓ag_binOp, ↓ag_move, ↓ag_len, ↓ap_pick, pop_pick, pPick_bool, pickV_and, rd_ne', ne_eq, not_false_eq_true, ne_13q7_12q6.symm, ne_14q1_12q6.symm, ne_14q1_13q7.symm, rd_any, cellsAt, List.getD_cons_zero, List.getD_cons_succ, Nat.zero_add, Nat.reduceAdd, lv_int, allLive, Bool.and_true, hd0, hd1, hx0, hx1]
        apply hK; clear hK K
        refine awp_cond (b := _) rfl (fun hb4 => ?_) (fun hb4 => ?_)
        · exact absurd hb4 (by decide)
        · try simp only at hb4
          refine awp_skip ?_
          change Awp _ _ _ _ _ _ _
          refine awp_rseq [18] (by rfl) fun K hK => ?_
          refine aOps_callV (V := .str s1) (by rfl) (by rfl) ((by rw [hs1]; exact c_repeatS w₀ _ [65, 32] 65536 (by decide) (by decide))) ?_
          simp +decide only [ev, absV, absS, putD, Slots.put, Slots.get, if_true, if_false, true_and, ↓ap_binOp, pop_binOp, isNilC_str, cond_false, pBinX_str, pS_add, ↓ap_build, ↓pop_buildL, bld29_0_1, evP, List.map_cons, List.map_nil, bld56_1, hs2]
          repeat (with_reducible refine And.intro ?_ ?_; · first | trivial | omega | (intro hg; simp only [Bool.and_eq_true, Bool.or_eq_true, Bool.not_eq_true', Bool.and_eq_false_iff, Bool.or_eq_false_iff, Bool.not_eq_false', decide_eq_true_eq, decide_eq_false_iff_not, eqNil] at hg; omega) | (simp only [List.length_cons, List.length_nil]; omega))
          refine aOps_buildSlice (cs := [.int .i64 0, .int .i64 3, .int .i64 8]) (by kernel_rfl) fun k17q4 hk17q4 => ?_
          have ne_17q4_7q6 : k17q4 ≠ k7q6 := by simp only [AHeap.set_none] at hk17q4; simp only [hk17q4, ne_eq, not_false_eq_true]
          have ne_17q4_12q6 : k17q4 ≠ k12q6 := by simp only [AHeap.set_none] at hk17q4; simp only [hk17q4, ne_eq, not_false_eq_true]
          have ne_17q4_13q7 : k17q4 ≠ k13q7 := by simp only [AHeap.set_none] at hk17q4; simp only [hk17q4, ne_eq, not_false_eq_true]
          have ne_17q4_14q1 : k17q4 ≠ k14q1 := by simp only [AHeap.set_none] at hk17q4; simp only [hk17q4, ne_eq, not_false_eq_true]
          have hn_17q4 : h7q2 k17q4 = none := by first | assumption | (simp only [AHeap.set_none] at hk17q4; simp only [hk17q4])
          have hf_17q4 : h k17q4 = none := Sub.none hs_h7q2 hn_17q4
          have ne_17q4_0q0 : k17q4 ≠ k0q0 := AHeap.ne_some hn_17q4 eb_0q0
          have ne_17q4_0q1 : k17q4 ≠ k0q1 := AHeap.ne_some hn_17q4 eb_0q1
          have ne_17q4_3q5 : k17q4 ≠ k3q5 := AHeap.ne_some hn_17q4 eb_3q5
          have ne_17q4_4q1 : k17q4 ≠ k4q1 := AHeap.ne_some hn_17q4 eb_4q1
          have ne_17q4_4q6 : k17q4 ≠ k4q6 := AHeap.ne_some hn_17q4 eb_4q6
          have ne_17q4_7q1 : k17q4 ≠ k7q1 := AHeap.ne_some hn_17q4 eb_7q1
          simp +decide only [ev, absV, absS, putD, Slots.put, Slots.get, if_true, if_false, true_and, ↓ap_build, ↓pop_buildL, bld48_1_2, evP, List.map_cons, List.map_nil, Sc_slice]
          refine aOps_alloc ze48 (cs := [.bool false, .str [], .nilSlice]) (by rfl) fun k17q6 hk17q6 => ?_
          have ne_17q6_7q6 : k17q6 ≠ k7q6 := by simp only [AHeap.set_none] at hk17q6; simp only [hk17q6, ne_eq, not_false_eq_true]
          have ne_17q6_12q6 : k17q6 ≠ k12q6 := by simp only [AHeap.set_none] at hk17q6; simp only [hk17q6, ne_eq, not_false_eq_true]
          have ne_17q6_13q7 : k17q6 ≠ k13q7 := by simp only [AHeap.set_none] at hk17q6; simp only [hk17q6, ne_eq, not_false_eq_true]
          have ne_17q6_14q1 : k17q6 ≠ k14q1 := by simp only [AHeap.set_none] at hk17q6; simp only [hk17q6, ne_eq, not_false_eq_true]
          have ne_17q6_17q4 : k17q6 ≠ k17q4 := by simp only [AHeap.set_none] at hk17q6; simp only [hk17q6, ne_eq, not_false_eq_true]
          have hn_17q6 : h7q2 k17q6 = none := by first | assumption | (simp only [AHeap.set_none] at hk17q6; simp only [hk17q6])
          have hf_17q6 : h k17q6 = none := Sub.none hs_h7q2 hn_17q6
          have ne_17q6_0q0 : k17q6 ≠ k0q0 := AHeap.ne_some hn_17q6 eb_0q0
          have ne_17q6_0q1 : k17q6 ≠ k0q1 := AHeap.ne_some hn_17q6 eb_0q1
          have ne_17q6_3q5 : k17q6 ≠ k3q5 := AHeap.ne_some hn_17q6 eb_3q5
          have ne_17q6_4q1 : k17q6 ≠ k4q1 := AHeap.ne_some hn_17q6 eb_4q1
          have ne_17q6_4q6 : k17q6 ≠ k4q6 := AHeap.ne_some hn_17q6 eb_4q6
          have ne_17q6_7q1 : k17q6 ≠ k7q1 := AHeap.ne_some hn_17q6 eb_7q1
          refine aOps_store (by rfl) (by rfl) (by repeat (first | exact AHeap.set_same _ _ _ | assumption | refine (AHeap.set_ne _ _ (by first | assumption | exact Ne.symm (by assumption))).trans ?_)) sz48 (by rfl) (by rfl) (by first | exact Nat.le_refl _ | decide | (simp; done) | (simp; omega)) (Nat.zero_le _) (by rfl) ?_
          simp only [AHeap.set_set, AVal.cells]
          simp +decide only [aOps_nil, ev, putD, Slots.put, Slots.get, Slots.keep, if_true, if_false, setAt, List.set_cons_zero, List.set_cons_succ, Nat.zero_add, Nat.reduceAdd]
          apply hK; clear hK K
          refine awp_rseq [18, 19, 20] (by rfl) fun K hK => ?_
          simp +decide only [ev, putD, Slots.put, Slots.get, if_true, if_false, true_and, ↓ap_loadL, apL_mk, pLoad_agg ag48 sz48, rd_any, cellsAt, List.getD_cons_zero, List.getD_cons_succ, Nat.zero_add, Nat.reduceAdd, lv_bool, lv_str, lv_slice, allLive, Bool.and_true]
          refine aOps_buildSlice (cs := [.bool false, .str m1, .slice (.own k17q4) 0 1 (.exact 1)]) (by kernel_rfl) fun k18q1 hk18q1 => ?_
          have ne_18q1_7q6 : k18q1 ≠ k7q6 := by simp only [AHeap.set_none] at hk18q1; simp only [hk18q1, ne_eq, not_false_eq_true]
          have ne_18q1_12q6 : k18q1 ≠ k12q6 := by simp only [AHeap.set_none] at hk18q1; simp only [hk18q1, ne_eq, not_false_eq_true]
          have ne_18q1_13q7 : k18q1 ≠ k13q7 := by simp only [AHeap.set_none] at hk18q1; simp only [hk18q1, ne_eq, not_false_eq_true]
          have ne_18q1_14q1 : k18q1 ≠ k14q1 := by simp only [AHeap.set_none] at hk18q1; simp only [hk18q1, ne_eq, not_false_eq_true]
          have ne_18q1_17q4 : k18q1 ≠ k17q4 := by simp only [AHeap.set_none] at hk18q1; simp only [hk18q1, ne_eq, not_false_eq_true]
          have ne_18q1_17q6 : k18q1 ≠ k17q6 := by simp only [AHeap.set_none] at hk18q1; simp only [hk18q1, ne_eq, not_false_eq_true]
          have hn_18q1 : h7q2 k18q1 = none := by first | assumption | (simp only [AHeap.set_none] at hk18q1; simp only [hk18q1])
          have hf_18q1 : h k18q1 = none := Sub.none hs_h7q2 hn_18q1
          have ne_18q1_0q0 : k18q1 ≠ k0q0 := AHeap.ne_some hn_18q1 eb_0q0
          have ne_18q1_0q1 : k18q1 ≠ k0q1 := AHeap.ne_some hn_18q1 eb_0q1
          have ne_18q1_3q5 : k18q1 ≠ k3q5 := AHeap.ne_some hn_18q1 eb_3q5
          have ne_18q1_4q1 : k18q1 ≠ k4q1 := AHeap.ne_some hn_18q1 eb_4q1
          have ne_18q1_4q6 : k18q1 ≠ k4q6 := AHeap.ne_some hn_18q1 eb_4q6
          have ne_18q1_7q1 : k18q1 ≠ k7q1 := AHeap.ne_some hn_18q1 eb_7q1
          refine aOps_call (by rfl) (by rfl) (c_Scan w₀ _ _ [⟨false, m1, [⟨0, 3, 8⟩]⟩] (isCards1 (AHeap.set_same _ _ _) (isMarks1 (m := ⟨0, 3, 8⟩) (by repeat (first | exact AHeap.set_same _ _ _ | assumption | refine (AHeap.set_ne _ _ (by first | assumption | exact Ne.symm (by assumption))).trans ?_)))) (by simp) (by simp [hm1l])) fun x18q2 h18q2 hx18q2 => ?_
          obtain ⟨tv18, hv18, ht18, hs18⟩ := hx18q2.toks (w₀ := w₀)
          rw [hr1] at hv18 ht18
          have hl18 := ht18.live
          have hn18 := tok_len ht18
          rw [hv18]
          have hs_h18q2 : Sub h h18q2 := Sub.trans (by repeat (first | exact Sub.refl _ | assumption | refine Sub.trans_set ?_ (by assumption))) hs18
          have hr_h18q2 : Sub h7q2 h18q2 := Sub.trans (by repeat (first | exact Sub.refl _ | assumption | refine Sub.trans_set ?_ (by assumption))) hs18
          have eb_7q6 := hs18 k7q6 _ (by repeat (first | exact AHeap.set_same _ _ _ | assumption | refine (AHeap.set_ne _ _ (by first | assumption | exact Ne.symm (by assumption))).trans ?_))
          have eb_12q6 := hs18 k12q6 _ (by repeat (first | exact AHeap.set_same _ _ _ | assumption | refine (AHeap.set_ne _ _ (by first | assumption | exact Ne.symm (by assumption))).trans ?_))
          have eb_13q7 := hs18 k13q7 _ (by repeat (first | exact AHeap.set_same _ _ _ | assumption | refine (AHeap.set_ne _ _ (by first | assumption | exact Ne.symm (by assumption))).trans ?_))
          have eb_14q1 := hs18 k14q1 _ (by repeat (first | exact AHeap.set_same _ _ _ | assumption | refine (AHeap.set_ne _ _ (by first | assumption | exact Ne.symm (by assumption))).trans ?_))
          have eb_17q4 := hs18 k17q4 _ (by repeat (first | exact AHeap.set_same _ _ _ | assumption | refine (AHeap.set_ne _ _ (by first | assumption | exact Ne.symm (by assumption))).trans ?_))
          have eb_17q6 := hs18 k17q6 _ (by repeat (first | exact AHeap.set_same _ _ _ | assumption | refine (AHeap.set_ne _ _ (by first | assumption | exact Ne.symm (by assumption))).trans ?_))
          have eb_18q1 := hs18 k18q1 _ (by repeat (first | exact AHeap.set_same _ _ _ | assumption | refine (AHeap.set_ne _ _ (by first | assumption | exact Ne.symm (by assumption))).trans ?_))
          have eb_0q0 := hs18 k0q0 _ (by repeat (first | exact AHeap.set_same _ _ _ | assumption | refine (AHeap.set_ne _ _ (by first | assumption | exact Ne.symm (by assumption))).trans ?_))
          have eb_0q1 := hs18 k0q1 _ (by repeat (first | exact AHeap.set_same _ _ _ | assumption | refine (AHeap.set_ne _ _ (by first | assumption | exact Ne.symm (by assumption))).trans ?_))
          have eb_3q5 := hs18 k3q5 _ (by repeat (first | exact AHeap.set_same _ _ _ | assumption | refine (AHeap.set_ne _ _ (by first | assumption | exact Ne.symm (by assumption))).trans ?_))
          have eb_4q1 := hs18 k4q1 _ (by repeat (first | exact AHeap.set_same _ _ _ | assumption | refine (AHeap.set_ne _ _ (by first | assumption | exact Ne.symm (by assumption))).trans ?_))
          have eb_4q6 := hs18 k4q6 _ (by repeat (first | exact AHeap.set_same _ _ _ | assumption | refine (AHeap.set_ne _ _ (by first | assumption | exact Ne.symm (by assumption))).trans ?_))
          have eb_7q1 := hs18 k7q1 _ (by repeat (first | exact AHeap.set_same _ _ _ | assumption | refine (AHeap.set_ne _ _ (by first | assumption | exact Ne.symm (by assumption))).trans ?_))
          simp +decide only [ev, putD, Slots.put, Slots.get, if_true, if_false, true_and, ↓ap_move, pop_move, ↓ap_extract, pop_extract, pExt_tuple, List.length_cons, List.length_nil, List.getD_cons_zero, List.getD_cons_succ, List.getD_cons_zero, List.getD_cons_succ, Nat.zero_add, Nat.reduceAdd, faultA]
          refine aOps_alloc ze31 (cs := [.int .i64 0, .int .i64 0, .int .i64 0]) (by rfl) fun k18q6 hk18q6 => ?_
          have hn_18q6 : h18q2 k18q6 = none := by first | assumption | (simp only [AHeap.set_none] at hk18q6; simp only [hk18q6])
          have hf_18q6 : h k18q6 = none := Sub.none hs_h18q2 hn_18q6
          have ne_18q6_0q0 : k18q6 ≠ k0q0 := AHeap.ne_some hn_18q6 eb_0q0
          have ne_18q6_0q1 : k18q6 ≠ k0q1 := AHeap.ne_some hn_18q6 eb_0q1
          have ne_18q6_3q5 : k18q6 ≠ k3q5 := AHeap.ne_some hn_18q6 eb_3q5
          have ne_18q6_4q1 : k18q6 ≠ k4q1 := AHeap.ne_some hn_18q6 eb_4q1
          have ne_18q6_4q6 : k18q6 ≠ k4q6 := AHeap.ne_some hn_18q6 eb_4q6
          have ne_18q6_7q1 : k18q6 ≠ k7q1 := AHeap.ne_some hn_18q6 eb_7q1
          have ne_18q6_7q6 : k18q6 ≠ k7q6 := AHeap.ne_some hn_18q6 eb_7q6
          have ne_18q6_12q6 : k18q6 ≠ k12q6 := AHeap.ne_some hn_18q6 eb_12q6
          have ne_18q6_13q7 : k18q6 ≠ k13q7 := AHeap.ne_some hn_18q6 eb_13q7
          have ne_18q6_14q1 : k18q6 ≠ k14q1 := AHeap.ne_some hn_18q6 eb_14q1
          have ne_18q6_17q4 : k18q6 ≠ k17q4 := AHeap.ne_some hn_18q6 eb_17q4
          have ne_18q6_17q6 : k18q6 ≠ k17q6 := AHeap.ne_some hn_18q6 eb_17q6
          have ne_18q6_18q1 : k18q6 ≠ k18q1 := AHeap.ne_some hn_18q6 eb_18q1
          simp +decide only [ev, putD, Slots.put, Slots.get, if_true, if_false, true_and, ↓ap_assign, pop_assign]
          refine aOps_store (by rfl) (by rfl) (by repeat (first | exact AHeap.set_same _ _ _ | assumption | refine (AHeap.set_ne _ _ (by first | assumption | exact Ne.symm (by assumption))).trans ?_)) sz31 (by rfl) (by rfl) (by first | exact Nat.le_refl _ | decide | (simp; done) | (simp; omega)) (Nat.zero_le _) (by rfl) ?_
          simp only [AHeap.set_set, AVal.cells]
          simp +decide only [aOps_nil, ev, putD, Slots.get, Slots.keep, if_true, if_false, setAt, List.set_cons_zero, List.set_cons_succ, Nat.zero_add, Nat.reduceAdd]
          apply hK; clear hK K
          refine awp_rseq [18, 19, 20] (by rfl) fun K hK => ?_
          simp +decide only [ev, absV, absS, putD, Slots.put, Slots.get, if_true, if_false, true_and, ↓ap_fieldAddr, pop_fieldAddr, fa48_1, ↓ap_loadL, apL_mk, pLoad_one ag9, ↓ap_slice, pop_slice, evO, pSliceS_0i Tryz.underlying9, pSliceS, bndA_none, bndA_int, rd_ne', ne_eq, not_false_eq_true, ne_18q6_17q6.symm, rd_own w₀ eb_17q6, List.getD_cons_zero, List.getD_cons_succ, Nat.zero_add, lv_str, Int.toNat_natCast, Nat.sub_zero, List.drop_zero, h131, hmt]
          repeat (with_reducible refine And.intro ?_ ?_; · first | trivial | omega | (intro hg; simp only [Bool.and_eq_true, Bool.or_eq_true, Bool.not_eq_true', Bool.and_eq_false_iff, Bool.or_eq_false_iff, Bool.not_eq_false', decide_eq_true_eq, decide_eq_false_iff_not, eqNil] at hg; omega) | (simp only [List.length_append, List.length_map, List.length_range, List.length_replicate, List.length_take, List.length_drop, List.length_cons, List.length_nil, List.length_set, List.length_reverse]; omega))
          refine aOps_store (by rfl) (by rfl) (by repeat (first | exact AHeap.set_same _ _ _ | assumption | refine (AHeap.set_ne _ _ (by first | assumption | exact Ne.symm (by assumption))).trans ?_)) sz9 (by rfl) (by rfl) (by first | exact Nat.le_refl _ | decide | (simp; done) | (simp; omega)) (Nat.zero_le _) (by rfl) ?_
          simp only [AVal.cells]
          simp +decide only [aOps_nil, ev, putD, Slots.get, Slots.keep, if_true, if_false, setAt, List.set_cons_zero, List.set_cons_succ]
          apply hK; clear hK K
          obtain ⟨H, hH⟩ : ∃ H, H = ((h18q2.set k18q6 ⟨[.int .i64 3, .int .i64 3, .int .i64 131080], 0⟩).set k17q6 ⟨[.bool false, .str m2, .slice (.own k17q4) 0 1 (.exact 1)], 0⟩) := ⟨_, rfl⟩
          have hs_H : Sub h H := by
            intro j b hj
            have h1 : j ≠ k17q6 := fun e => by rw [e, hf_17q6] at hj; cases hj
            have h2 : j ≠ k18q6 := fun e => by rw [e, hf_18q6] at hj; cases hj
            rw [hH, AHeap.set_ne _ _ h1, AHeap.set_ne _ _ h2]
            exact hs_h18q2 _ _ hj
          have eb2_17q4 : H k17q4 = some ⟨[.int .i64 0, .int .i64 3, .int .i64 8], 0⟩ := by rw [hH, AHeap.set_ne _ _ ne_17q6_17q4.symm, AHeap.set_ne _ _ ne_18q6_17q4.symm]; exact eb_17q4
          have eb2_18q6 : H k18q6 = some ⟨[.int .i64 3, .int .i64 3, .int .i64 131080], 0⟩ := by rw [hH, AHeap.set_ne _ _ ne_18q6_17q6, AHeap.set_same]
          replace eb_17q6 : H k17q6 = some ⟨[.bool false, .str m2, .slice (.own k17q4) 0 1 (.exact 1)], 0⟩ := by rw [hH]; exact AHeap.set_same _ _ _
          replace eb_17q4 := eb2_17q4
          have eb_18q6 := eb2_18q6
          rw [← hH]
          refine awp_rseq [19, 20, 21, 22] (by rfl) fun K hK => ?_
          simp +decide only [ev, putD, Slots.put, Slots.get, if_true, if_false, true_and, ↓ap_loadL, apL_mk, pLoad_agg ag48 sz48, rd_own w₀ eb_17q6, cellsAt, List.getD_cons_zero, List.getD_cons_succ, Nat.zero_add, Nat.reduceAdd, lv_bool, lv_str, lv_slice, allLive, Bool.and_true]
          refine aOps_buildSlice (cs := [.bool false, .str m2, .slice (.own k17q4) 0 1 (.exact 1)]) (by kernel_rfl) fun k20q1 hk20q1 => ?_
          have hn_20q1 : H k20q1 = none := by first | assumption | (simp only [AHeap.set_none] at hk20q1; simp only [hk20q1])
          have hf_20q1 : h k20q1 = none := Sub.none hs_H hn_20q1
          have ne_20q1_17q6 : k20q1 ≠ k17q6 := AHeap.ne_some hn_20q1 eb_17q6
          have ne_20q1_17q4 : k20q1 ≠ k17q4 := AHeap.ne_some hn_20q1 eb_17q4
          have ne_20q1_18q6 : k20q1 ≠ k18q6 := AHeap.ne_some hn_20q1 eb_18q6
          refine aOps_call (by rfl) (by rfl) (c_Scan w₀ _ _ [⟨false, m2, [⟨0, 3, 8⟩]⟩] (isCards1 (AHeap.set_same _ _ _) (isMarks1 (m := ⟨0, 3, 8⟩) (by repeat (first | exact AHeap.set_same _ _ _ | assumption | refine (AHeap.set_ne _ _ (by first | assumption | exact Ne.symm (by assumption))).trans ?_)))) (by simp) (by simp [hm2l])) fun x20q2 h20q2 hx20q2 => ?_
          obtain ⟨tv20, hv20, ht20, hs20⟩ := hx20q2.toks (w₀ := w₀)
          rw [hr2] at hv20 ht20
          have hl20 := ht20.live
          have hn20 := tok_len ht20
          rw [toksM_len] at hn20
          rw [hv20]
          have hs_h20q2 : Sub h h20q2 := Sub.trans (by repeat (first | exact Sub.refl _ | assumption | refine Sub.trans_set ?_ (by assumption))) hs20
          have hr_h20q2 : Sub H h20q2 := Sub.trans (by repeat (first | exact Sub.refl _ | assumption | refine Sub.trans_set ?_ (by assumption))) hs20
          have eb_20q1 := hs20 k20q1 _ (by repeat (first | exact AHeap.set_same _ _ _ | assumption | refine (AHeap.set_ne _ _ (by first | assumption | exact Ne.symm (by assumption))).trans ?_))
          have eb_17q6 := hs20 k17q6 _ (by repeat (first | exact AHeap.set_same _ _ _ | assumption | refine (AHeap.set_ne _ _ (by first | assumption | exact Ne.symm (by assumption))).trans ?_))
          have eb_17q4 := hs20 k17q4 _ (by repeat (first | exact AHeap.set_same _ _ _ | assumption | refine (AHeap.set_ne _ _ (by first | assumption | exact Ne.symm (by assumption))).trans ?_))
          have eb_18q6 := hs20 k18q6 _ (by repeat (first | exact AHeap.set_same _ _ _ | assumption | refine (AHeap.set_ne _ _ (by first | assumption | exact Ne.symm (by assumption))).trans ?_))
          simp +decide only [ev, putD, Slots.put, Slots.get, if_true, if_false, true_and, ↓ap_move, pop_move, ↓ap_extract, pop_extract, pExt_tuple, List.length_cons, List.length_nil, List.getD_cons_zero, List.getD_cons_succ, List.getD_cons_zero, List.getD_cons_succ, Nat.zero_add, Nat.reduceAdd, faultA]
          refine aOps_alloc ze31 (cs := [.int .i64 0, .int .i64 0, .int .i64 0]) (by rfl) fun k20q6 hk20q6 => ?_
          have hn_20q6 : h20q2 k20q6 = none := by first | assumption | (simp only [AHeap.set_none] at hk20q6; simp only [hk20q6])
          have hf_20q6 : h k20q6 = none := Sub.none hs_h20q2 hn_20q6
          have ne_20q6_17q6 : k20q6 ≠ k17q6 := AHeap.ne_some hn_20q6 eb_17q6
          have ne_20q6_17q4 : k20q6 ≠ k17q4 := AHeap.ne_some hn_20q6 eb_17q4
          have ne_20q6_18q6 : k20q6 ≠ k18q6 := AHeap.ne_some hn_20q6 eb_18q6
          have ne_20q6_20q1 : k20q6 ≠ k20q1 := AHeap.ne_some hn_20q6 eb_20q1
          simp +decide only [ev, putD, Slots.put, Slots.get, if_true, if_false, true_and, ↓ap_assign, pop_assign]
          refine aOps_store (by rfl) (by rfl) (by repeat (first | exact AHeap.set_same _ _ _ | assumption | refine (AHeap.set_ne _ _ (by first | assumption | exact Ne.symm (by assumption))).trans ?_)) sz31 (by rfl) (by rfl) (by first | exact Nat.le_refl _ | decide | (simp; done) | (simp; omega)) (Nat.zero_le _) (by rfl) ?_
          simp only [AHeap.set_set, AVal.cells]
          simp +decide only [aOps_nil, ev, putD, Slots.get, Slots.keep, if_true, if_false, setAt, List.set_cons_zero, List.set_cons_succ, Nat.zero_add, Nat.reduceAdd]
          apply hK; clear hK K
          refine awp_rseq [4] (by rfl) fun K hK => ?_
          simp +decide only [ev, absV, absS, putD, Slots.put, Slots.get, if_true, if_false, true_and, ↓ap_move, pop_move, ↓ap_len, pop_len, ↓ap_binOp, pop_binOp, isNilC_int, cond_false, pBinX_int, pI_eql, ↓ag_loadL, agQL_some, agL_mk, agP, agQ_some, nthDst, gKnown_bool, guardB_bool_true, implies_true, decide_true, condV_true, Bool.and_true, pLoad_agg ag31 sz31, ↓ag_build, ↓pop_buildL, bld29_0_1, evP, List.map_cons, List.map_nil, bld31_0_1, ↓ag_binOp, isNilC_tmp, pBinX_agg, eq31, ↓ap_pick, pop_pick, pPick_bool, pickV_and, ↓ag_move, ↓ag_len, bld31_, rd_ne', ne_eq, not_false_eq_true, ne_20q6_18q6.symm, rd_own w₀ eb_18q6, rd_any, cellsAt, List.getD_cons_zero, List.getD_cons_succ, Nat.zero_add, Nat.reduceAdd, lv_int, allLive, Bool.and_true, hn18, hn20]
          (refine aOps_yes (by rfl) ?_; refine aOps_callV (V := .bool true) (by rfl) (by rfl) (c_lives03 w₀ hm _) ?_)
          simp +decide only [aOps_nil, ev, absV, absS, putD, Slots.put, Slots.get, Slots.keep, if_true, if_false, true_and, ↓ap_pick, pop_pick, pPick_bool, pickV_and, ↓ap_assign, pop_assign, Bool.and_true]
          apply hK; clear hK K
          refine awp_ret ?_
          refine retA_ret h (by repeat (first | exact Sub.refl _ | assumption | refine Sub.trans_set ?_ (by assumption))) (resPre_tmp (resPre_nil)) ?_
          simp +decide only [Slots.get, if_true, and_true, resOf_one]
          skip
end Go.Proofs.YtmadddihphkmoaaGreatDoor

/-
  The arguments of the statements, opened: booleans, texts, integers, pairs of bytes; the wrap that hands on the world's shape.
  Conditions: none.
-/
namespace Go.Proofs.YtmadddihphkmoaaGreatDoor
open Go.AM
open Go.ChangeShapes Go.WideShapes Go.ChangeAt Go.RowKit
set_option maxRecDepth 100000

section
variable {H : Type} {enc : TypeId × Value → H} {W : World} {base : Nat} {v : Value} {x : DataW H × List MemPlace}
theorem u8_of {n : Int} (h : (Lit.int .u8 n).wf = true) : ∃ b : UInt8, (b.toNat : Int) = n := by
  have := wf_u8 h
  exact ⟨UInt8.ofNat n.toNat, by rw [UInt8.toNat_ofNat']; omega⟩

theorem arg_b2 (h : ∃ fuel, DataW.trod enc Tryz.prog W 0 (fun _ => true) true fuel 49 v.cells.toList = some x) (hv : Value.okWide Tryz.prog W .any base 49 v) :
    ∃ a b : UInt8, VR (fun _ => none) (.agg [.int .u8 a.toNat, .int .u8 b.toNat]) v := by
  have hw : ∃ cs : Array Value, v = .agg cs := by
    simp only [Value.okWide, Tryz.underlying49] at hv
    obtain ⟨cs, h1, _⟩ := hv
    exact ⟨cs, h1⟩
  obtain ⟨cs, rfl⟩ := hw
  obtain ⟨fuel, hf⟩ := h
  obtain ⟨xs, m, _, _, hl, hn, hc⟩ := DataW.trod_array Tryz.underlying49 hf
  have c3 : Tryz.prog.cellsOf 5 = 1 := by kernel_rfl
  rw [show Tryz.prog.cellsOf 49 = 2 by kernel_rfl] at hl
  have h0 := hc 0 (by omega)
  have h1 := hc 1 (by omega)
  obtain ⟨l⟩ := cs
  match l, hl with
  | [c0, c1], _ =>
    match xs, hn with
    | [y0, y1], _ =>
      simp only [c3, Value.cells, Nat.zero_mul, Nat.one_mul, List.drop_zero, List.drop_succ_cons, List.take_succ_cons, List.take_zero, List.getElem?_cons_zero, List.getElem?_cons_succ] at h0 h1
      obtain ⟨a, e0, _, w0⟩ := DataW.trod_int Tryz.underlying5 h0
      obtain ⟨b, e1, _, w1⟩ := DataW.trod_int Tryz.underlying5 h1
      simp only [List.cons.injEq, and_true] at e0 e1
      subst e0 e1
      obtain ⟨a', rfl⟩ := u8_of w0
      obtain ⟨b', rfl⟩ := u8_of w1
      refine ⟨a', b', ?_⟩
      simp only [VR]
      refine ⟨_, rfl, ?_⟩
      simp only [VRs]
      exact ⟨_, _, rfl, by simp only [VR], _, _, rfl, by simp only [VR], rfl⟩
end

/-- The plain wrap of a row with listed variables, the world's shape handed on. -/
theorem returns_and_shaped {H : Type} {enc : TypeId × Value → H} {a : Assume} {C : Checked} {os : Os} {f : FuncId} {fn : Func} {s : ChangeSpec} {conds : List PathCond} {apart fresh handsOn again : Bool} {X : World → Array Value → Prop}
    (hX : ∀ (w w' : World) (args : Array Value), w.heap = w'.heap → X w args → X w' args)
    (own : ownKnob C.prog.godebug = none) (started : os.Started) (noInit : C.prog.inits.idxOf? f = none) (hfn : C.prog.funcs[f]? = some fn)
    (witness : ∃ (w : World) (tape : Tape) (i : Input), w.os = os ∧ (w.forCall tape i).Shaped C.prog ∧ i.vars = [] ∧ Input.okWide C.prog (w.forCall tape i) .any w.heap.size f i ∧
      ((s.pre enc C.prog fn conds apart (w.forCall tape i).memory i.args ∧ X (w.forCall tape i).memory i.args) ∧ sizedMet enc C.prog fn (OpenSpec.ofChange s) apart (w.forCall tape i).memory i.args) ∧ a.holds C.prog (lone (Frame.enter C.prog f i.args .normal) [] (w.forCall tape i)))
    (contract : ∀ (W : World) (base : Nat) (args : Array Value) (ds gs : List (DataW H)) (before : List MemPlace), W.ShapedOpen C.prog →
      (∀ (j : Nat) t v, fn.params[j]? = some t → args[j]? = some v → Value.okWide C.prog W .any base t v) →
      DataW.Whole enc C.prog fn.params.toList s.vars apart W args.toList ds gs before →
      conds.all (PathCond.test C.prog ⟨fn.params.toList, ds, s.plain.varTypes C.prog, gs⟩) = true →
      (DataW.weightsEach C.prog (fn.params.toList ++ s.plain.varTypes C.prog) (ds ++ gs)).all (· ≤ reachBytes) = true → X W args →
      a.holds C.prog (lone (Frame.enter C.prog f args .normal) [] W) →
      Calls C.prog f args W fun e W' => ∃ v, e = .returned v ∧ s.post enc C.prog fn apart fresh handsOn again W args v W') :
    ReturnsInHanded a C os f .any (fun w args => (s.pre enc C.prog fn conds apart w args ∧ X w args) ∧ sizedMet enc C.prog fn (OpenSpec.ofChange s) apart w args) (s.post enc C.prog fn apart fresh handsOn again) := by
  refine returnsInHanded_of_calls own started noInit witness ?_
  intro w tape i _ hsh _ hok hpre hholds
  obtain ⟨_, _, _, fn', hfn', _, _, _, _, hval⟩ := hok
  have e : fn' = fn := Option.some.inj (hfn'.symm.trans hfn)
  subst e
  obtain ⟨⟨⟨ds, gs, before, hw, hc⟩, hx⟩, hz⟩ := hpre
  have hw' := DataW.Whole.of_heap (w' := w.forCall tape i) (by rfl) hw
  refine (contract (w.forCall tape i) w.heap.size i.args ds gs before hsh hval hw' hc (hz.weights hw) (hX _ _ _ (by rfl) hx) hholds).mono fun e W' ⟨v, he, hp⟩ => ?_
  subst he
  exact ChangeSpec.post_blind hp
end Go.Proofs.YtmadddihphkmoaaGreatDoor

/-
  What the world of a statement about columns gives: the listed table, the cell of the longest text.
  Conditions: none.
-/
namespace Go.Proofs.YtmadddihphkmoaaGreatDoor
open Go.AM
open Go.ChangeShapes Go.WideShapes Go.ChangeAt Go.RowKit
set_option maxRecDepth 100000
theorem maxl_of {W : World} (h : W.ShapedOpen Tryz.prog) : MaxL W :=
  cell_of_shapedOpen_int (t := 3) (zero := #[.int .i64 0]) h (of_decide_eq_true (by kernel_rfl)) (by kernel_rfl) rfl (by kernel_rfl) (by kernel_rfl) Tryz.underlying3
end Go.Proofs.YtmadddihphkmoaaGreatDoor

/-
  The arguments of the statements, opened: cards.
  Conditions: none.
-/
namespace Go.Proofs.YtmadddihphkmoaaGreatDoor
open Go.AM
open Go.Col
open Go.ChangeShapes Go.WideShapes Go.ChangeAt Go.RowKit
set_option maxRecDepth 100000

section
variable {H : Type} {enc : TypeId × Value → H} {W : World} {base : Nat} {v : Value} {x : DataW H × List MemPlace}

theorem mark_cells {n : Nat} {cs : List Value} {y : DataW H × List MemPlace} (h : DataW.trod enc Tryz.prog W 0 (fun _ => true) true n 56 cs = some y) :
    ∃ m : MarkC, cs = [.int .i64 m.frm, .int .i64 m.line, .int .i64 m.col] := by
  obtain ⟨y0, y1, n', _, hl, h0, h1⟩ := trod_struct2 Tryz.underlying56 h
  obtain ⟨z0, z1, n'', _, hl', g0, g1⟩ := trod_struct2 Tryz.underlying29 h1
  rw [show Tryz.prog.cellsOf 56 = 3 by kernel_rfl] at hl
  match cs, hl with
  | [c0, c1, c2], _ =>
    simp only [show Tryz.prog.cellsOf 3 = 1 by kernel_rfl, show Tryz.prog.cellsOf 29 = 2 by kernel_rfl, List.drop_zero, List.drop_succ_cons, List.take_succ_cons, List.take_zero] at h0 g0 g1
    obtain ⟨a, e0, _, _⟩ := DataW.trod_int Tryz.underlying3 h0
    obtain ⟨b, e1, _, _⟩ := DataW.trod_int Tryz.underlying3 g0
    obtain ⟨c, e2, _, _⟩ := DataW.trod_int Tryz.underlying3 g1
    simp only [List.cons.injEq, and_true] at e0 e1 e2
    subst e0 e1 e2
    exact ⟨⟨a, b, c⟩, rfl⟩
theorem marks_row {a : Addr} {len : Nat} (h : ∀ i, i < len → ∃ m : MarkC, ∀ j, j < 3 → W.cell? (a.add (i * 3 + j)) = ([.int .i64 m.frm, .int .i64 m.line, .int .i64 m.col] : List Value)[j]?) :
    ∃ ms : List MarkC, ms.length = len ∧ ∀ i, i < len → ∀ j, j < 3 → W.cell? (a.add (i * 3 + j)) = ([.int .i64 (ms.getD i ⟨0, 0, 0⟩).frm, .int .i64 (ms.getD i ⟨0, 0, 0⟩).line, .int .i64 (ms.getD i ⟨0, 0, 0⟩).col] : List Value)[j]? := by
  induction len with
  | zero => exact ⟨[], rfl, fun i hi => by omega⟩
  | succ n ih =>
    obtain ⟨ms, h1, h2⟩ := ih fun i hi => h i (by omega)
    obtain ⟨m, hm⟩ := h n (by omega)
    refine ⟨ms ++ [m], by simp [h1], fun i hi j hj => ?_⟩
    by_cases hin : i < n
    · have : (ms ++ [m]).getD i ⟨0, 0, 0⟩ = ms.getD i ⟨0, 0, 0⟩ := by simp only [List.getD, List.getElem?_append_left (show i < ms.length by omega)]
      rw [this]
      exact h2 i hin j hj
    · have hin' : i = n := by omega
      subst hin'
      have : (ms ++ [m]).getD i ⟨0, 0, 0⟩ = m := by simp [List.getD, h1]
      rw [this]
      exact hm j hj
theorem isL_marks {w : World} {b o len cap : Nat} {ms : List MarkC} (h1 : ms.length = len) (hcap : len ≤ cap) (h2 : ∀ i, i < len → ∀ j, j < 3 → w.cell? ((⟨b, o, none⟩ : Addr).add (i * 3 + j)) = ([.int .i64 (ms.getD i ⟨0, 0, 0⟩).frm, .int .i64 (ms.getD i ⟨0, 0, 0⟩).line, .int .i64 (ms.getD i ⟨0, 0, 0⟩).col] : List Value)[j]?) :
    IsL w (fun _ => none) 3 (.slice (.base b) o len (.exact cap)) (ms.map markC) := by
  have hw : ∀ x ∈ ms.map markC, x.length = 3 := fun x hx => by obtain ⟨y, _, rfl⟩ := List.mem_map.1 hx; rfl
  refine .mk _ _ _ _ _ (by rw [List.length_map, h1]) hw ?_ (allLive_flatten.2 fun x hx => by obtain ⟨y, _, rfl⟩ := List.mem_map.1 hx; rfl) hcap
  apply List.ext_getElem?
  intro q
  by_cases hq : q < len * 3
  · rw [cellsAt_get _ _ _ _ _ _ hq]
    obtain ⟨i, hi⟩ : ∃ i, i = q / 3 := ⟨_, rfl⟩
    obtain ⟨j, hj⟩ : ∃ j, j = q % 3 := ⟨_, rfl⟩
    have hqe : q = i * 3 + j := by omega
    have hi' : i < len := by omega
    have hj' : j < 3 := by omega
    have hcell := h2 i hi' j hj'
    have ea : (⟨b, o, none⟩ : Addr).add (i * 3 + j) = ⟨b, o + (i * 3 + j), none⟩ := by by_cases e : i * 3 + j = 0 <;> simp [Addr.add, e] <;> omega
    rw [ea] at hcell
    rw [hqe, flatten_get hw (by rw [List.length_map]; omega) hj', getD_map ⟨0, 0, 0⟩ (by omega)]
    have fin : ∀ z : Int, w.cell? ⟨b, o + (i * 3 + j), none⟩ = some (.int .i64 z) → AM.rd w (fun _ => none) (.base b) (o + (i * 3 + j)) = .int .i64 z := fun z hz => by
      have hlt : b < w.heap.size := cell_lt hz
      simp only [AM.rd, hlt, if_true, hz, absS]
    match j, hj' with
    | 0, _ => rw [fin _ hcell]; rfl
    | 1, _ => rw [fin _ hcell]; rfl
    | 2, _ => rw [fin _ hcell]; rfl
  · rw [List.getElem?_eq_none (by rw [cellsAt_length]; omega), List.getElem?_eq_none (by rw [flatten_len hw, List.length_map, h1]; omega)]
theorem arg_Card (h : ∃ fuel, DataW.trod enc Tryz.prog W 0 (fun _ => true) true fuel 48 v.cells.toList = some x) (hv : Value.okWide Tryz.prog W .any base 48 v) :
    ∃ (c : CardC) (mv : AVal), VR (fun _ => none) (cardA c mv) v ∧ IsL W (fun _ => none) 3 mv (c.marks.map markC) ∧ c.text.length ≤ 9223372036854775807 ∧ c.marks.length ≤ 9223372036854775807 := by
  obtain ⟨cs, rfl, hsz⟩ := okWide_struct Tryz.underlying48 hv
  obtain ⟨fuel, hf⟩ := h
  obtain ⟨y0, y1, y2, n, _, hl, h0, h1, h2⟩ := Go.Deep.trod_struct3 Tryz.underlying48 hf
  rw [show Tryz.prog.cellsOf 48 = 3 by kernel_rfl] at hsz hl
  obtain ⟨l⟩ := cs
  match l, hsz with
  | [c0, c1, c2], _ =>
    simp only [show Tryz.prog.cellsOf 4 = 1 by kernel_rfl, show Tryz.prog.cellsOf 9 = 1 by kernel_rfl, show Tryz.prog.cellsOf 46 = 1 by kernel_rfl, Value.cells, List.drop_zero, List.drop_succ_cons, List.take_succ_cons, List.take_zero] at h0 h1 h2
    obtain ⟨b, e0, _⟩ := DataW.trod_bool Tryz.underlying4 h0
    obtain ⟨s, e1, _, hs⟩ := DataW.trod_string Tryz.underlying9 h1
    simp only [List.cons.injEq, and_true] at e0 e1
    subst e0 e1
    have fin : ∀ (mv : AVal) (ms : List MarkC), VR (fun _ => none) mv c2 → IsL W (fun _ => none) 3 mv (ms.map markC) → ms.length ≤ 9223372036854775807 → ∃ (c : CardC) (mv : AVal), VR (fun _ => none) (cardA c mv) (.agg #[.bool b, .string s, c2]) ∧ IsL W (fun _ => none) 3 mv (c.marks.map markC) ∧ c.text.length ≤ 9223372036854775807 ∧ c.marks.length ≤ 9223372036854775807 := by
      intro mv ms hvr hm hml
      refine ⟨⟨b, s.data.toList, ms⟩, mv, ?_, hm, str_le hs, hml⟩
      simp only [cardA, VR]
      refine ⟨_, rfl, ?_⟩
      simp only [VRs]
      exact ⟨_, _, rfl, by simp only [VR], _, _, rfl, VR_strArg _ s, _, _, rfl, hvr, rfl⟩
    rcases DataW.trod_slice Tryz.underlying46 h2 with ⟨hcs, _⟩ | ⟨a, len, cap, elems, rest, n', _, hcs, _, _, hlc, hcm, hel, hcell, hspare, _⟩
    · simp only [List.cons.injEq, and_true] at hcs
      subst hcs
      exact fin .nilSlice [] (by simp [VR]) .nil (by simp)
    · simp only [List.cons.injEq, and_true] at hcs
      subst hcs
      have hlen : len ≤ 9223372036854775807 := Nat.le_trans hlc hcm
      obtain ⟨ms, m1, m2⟩ := marks_row (W := W) (a := a) (len := len) fun i hi => by
        have he := hcell i hi
        rw [List.getElem?_eq_getElem (by omega), Option.bind_eq_some_iff] at he
        obtain ⟨cs', hcs', hy⟩ := he
        obtain ⟨m, rfl⟩ := mark_cells hy
        rw [show Tryz.prog.cellsOf 56 = 3 by kernel_rfl] at hcs'
        refine ⟨m, fun j hj => ?_⟩
        have := (World.cells?_some hcs').2.2 j hj
        rw [← this]
        congr 1
        obtain ⟨ab, ao, asp⟩ := a
        by_cases e1 : i * 3 = 0 <;> by_cases e2 : j = 0 <;> simp [Addr.add, e1, e2, Nat.add_assoc]
      obtain ⟨ab, ao, asp⟩ := a
      rcases Nat.eq_zero_or_pos len with e | e
      · have hms : ms = [] := List.eq_nil_of_length_eq_zero (by omega)
        subst hms
        subst e
        refine fin (.slice (.base ab) ao 0 (.exact cap)) [] ?_ (isL_marks rfl (Nat.zero_le _) fun i hi => by omega) (by simp)
        simp only [VR]
        refine ⟨_, rfl, fun hc => ?_⟩
        have hc : 0 < cap := by omega
        obtain ⟨r1, r2⟩ := hspare rfl
        have hr := r2 0 (by omega)
        rw [List.getElem?_eq_getElem (by omega), Option.bind_eq_some_iff] at hr
        obtain ⟨cs', hcs', hy⟩ := hr
        obtain ⟨m, rfl⟩ := mark_cells hy
        rw [show Tryz.prog.cellsOf 56 = 3 by kernel_rfl] at hcs'
        have h3 := (World.cells?_some hcs').2.2 0 (by omega)
        have := World.cell?_spot (h3.trans rfl)
        simp only [Addr.add] at this
        simp at this
        subst this
        rfl
      · have hs : asp = none := by
          have := World.cell?_spot (m2 0 (by omega) 0 (by omega))
          simpa [Addr.add] using this
        subst hs
        refine fin (.slice (.base ab) ao len (.exact cap)) ms ?_ (isL_marks m1 hlc m2) (by omega)
        simp only [VR]
        exact ⟨_, rfl, fun _ => rfl⟩
end
end Go.Proofs.YtmadddihphkmoaaGreatDoor

