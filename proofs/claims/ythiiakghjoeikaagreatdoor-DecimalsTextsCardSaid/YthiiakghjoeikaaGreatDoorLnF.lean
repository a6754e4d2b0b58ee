/-
  The statement DecimalsTexts, walked.
  Conditions: none.
-/
import Derived.Test.YthiiakghjoeikaaGreatDoorDcN
import Derived.Test.YthiiakghjoeikaaGreatDoorDcP
import Derived.Test.YthiiakghjoeikaaGreatDoorDcR
set_option linter.unusedSimpArgs false
set_option linter.unnecessarySimpa false
set_option linter.unusedVariables false
namespace Go.Proofs.YthiiakghjoeikaaGreatDoor
open Go.AM
open Go.Proofs
open Go.Dec
open Go.Lib (decDigits)
set_option maxRecDepth 100000

theorem cutP_none {s : List UInt8} {c : UInt8} (h : c ∉ s) : cutP s c = (s, [], false) := by rw [cutP, if_neg h]
theorem takeWhile_pre {a b : List UInt8} {c : UInt8} (h : c ∉ a) : (a ++ c :: b).takeWhile (· != c) = a ∧ (a ++ c :: b).dropWhile (· != c) = c :: b := by
  induction a with
  | nil => simp
  | cons x a ih =>
    simp only [List.mem_cons, not_or] at h
    have hx : (x != c) = true := by simp; exact fun e => h.1 e.symm
    obtain ⟨i1, i2⟩ := ih h.2
    simp only [List.cons_append, List.takeWhile_cons, List.dropWhile_cons, hx, if_true, i1, i2, and_self]
theorem cutP_at {a b : List UInt8} {c : UInt8} (h : c ∉ a) : cutP (a ++ c :: b) c = (a, b, true) := by
  obtain ⟨h1, h2⟩ := takeWhile_pre (b := b) h
  rw [cutP, if_pos (by simp), h1, h2]
  rfl
theorem dg_no46 {s : List UInt8} (h : s.all dg = true) : (46 : UInt8) ∉ s := by
  intro hm
  rw [List.all_eq_true] at h
  exact absurd (h 46 hm) (by decide)
theorem cutP_mem (s : List UInt8) (c x : UInt8) (hx : x ∈ s) : x = c ∨ x ∈ (cutP s c).1 ++ (cutP s c).2.1 := by
  by_cases hc : c ∈ s
  · obtain ⟨a, b, rfl, ha⟩ : ∃ a b, s = a ++ c :: b ∧ c ∉ a := by
      clear hx
      induction s with
      | nil => simp at hc
      | cons y s ih =>
        by_cases e : c = y
        · exact ⟨[], s, by rw [e]; rfl, by simp⟩
        · obtain ⟨a, b, e1, e2⟩ := ih (by simp only [List.mem_cons] at hc; exact hc.resolve_left e)
          exact ⟨y :: a, b, by rw [e1]; rfl, by simp only [List.mem_cons, not_or]; exact ⟨e, e2⟩⟩
    rw [cutP_at ha]
    simp only [List.mem_append, List.mem_cons] at hx ⊢
    rcases hx with hx | hx | hx
    · exact .inr (.inl hx)
    · exact .inl hx
    · exact .inr (.inr hx)
  · rw [cutP_none hc]
    exact .inr (by simpa using hx)
theorem num_not {s : List UInt8} {x : UInt8} (hx : x ∈ s) (hd : dg x = false) : numB s = false := by
  cases hn : numB s with
  | false => rfl
  | true =>
    have := numB_all hn
    rw [List.all_eq_true] at this
    rw [this x hx] at hd
    cases hd

theorem getD_right {a b : List UInt8} {c : UInt8} {i : Nat} (h : a.length + 1 ≤ i) : (a ++ c :: b).getD i 0 = b.getD (i - (a.length + 1)) 0 := by
  rw [List.getD, List.getElem?_append_right (by omega), show i - a.length = (i - (a.length + 1)) + 1 by omega, List.getElem?_cons_succ]
  rfl
/-- What has been read of a number's text after i bytes. -/
def PtI (r : List UInt8) (i : Nat) (digs : List UInt8) (pt : Int) : Prop :=
  (pt = -1 ∧ digs = r.take i ∧ digs.all dg = true) ∨
  (∃ a b : List UInt8, pt = a.length ∧ a.all dg = true ∧ r = a ++ 46 :: b ∧ b ≠ [] ∧ a.length + 1 ≤ i ∧ digs = a ++ b.take (i - (a.length + 1)) ∧ (b.take (i - (a.length + 1))).all dg = true)
abbrev badP (r : List UInt8) : Prop := ((cutP r 46).2.2 = true ∧ (cutP r 46).2.1 = []) ∨ numB ((cutP r 46).1 ++ (cutP r 46).2.1) = false
theorem pt_zero (r : List UInt8) : PtI r 0 [] (-1) := .inl ⟨rfl, rfl, rfl⟩
theorem PtI.all {r : List UInt8} {i : Nat} {digs : List UInt8} {pt : Int} (h : PtI r i digs pt) : digs.all dg = true ∧ digs.length ≤ r.length ∧ -1 ≤ pt ∧ pt ≤ digs.length := by
  rcases h with ⟨h1, h2, h3⟩ | ⟨a, b, h1, h2, h3, h4, h5, h6, h7⟩
  · refine ⟨h3, by rw [h2, List.length_take]; omega, by omega, by omega⟩
  · refine ⟨by rw [h6, all_append, h2, h7]; rfl, by rw [h6, h3]; simp; omega, by omega, by rw [h6, h1]; simp; omega⟩
theorem PtI.digit {r : List UInt8} {i : Nat} {digs : List UInt8} {pt : Int} (h : PtI r i digs pt) (hi : i < r.length) (hd : dg (r.getD i 0) = true) : PtI r (i + 1) (digs ++ [r.getD i 0]) pt := by
  rcases h with ⟨h1, h2, h3⟩ | ⟨a, b, h1, h2, h3, h4, h5, h6, h7⟩
  · exact .inl ⟨h1, by rw [h2, take_snoc r i hi], by rw [all_append, h3, List.all_cons, hd]; rfl⟩
  · have hg : r.getD i 0 = b.getD (i - (a.length + 1)) 0 := by
      rw [h3]; exact getD_right h5
    have hbl : i - (a.length + 1) < b.length := by
      have := congrArg List.length h3
      simp at this
      omega
    have ht : b.take (i + 1 - (a.length + 1)) = b.take (i - (a.length + 1)) ++ [r.getD i 0] := by
      rw [show i + 1 - (a.length + 1) = (i - (a.length + 1)) + 1 by omega, take_snoc b _ hbl, hg]
    exact .inr ⟨a, b, h1, h2, h3, h4, by omega, by rw [h6, ht, List.append_assoc], by rw [ht, all_append, h7, List.all_cons, hd]; rfl⟩
theorem PtI.point {r : List UInt8} {i : Nat} {digs : List UInt8} {pt : Int} (h : PtI r i digs pt) (hp : pt < 0) (hd : r.getD i 0 = 46) (hi : i + 1 < r.length) : PtI r (i + 1) digs digs.length := by
  rcases h with ⟨h1, h2, h3⟩ | ⟨a, b, h1, _⟩
  · have hr : r = r.take i ++ 46 :: r.drop (i + 1) := by
      conv => lhs; rw [← List.take_append_drop i r]
      rw [List.drop_eq_getElem_cons (by omega : i < r.length)]
      congr 2
      rw [← hd, List.getD, List.getElem?_eq_getElem (by omega)]
      rfl
    have hl : (r.take i).length = i := by rw [List.length_take]; omega
    refine .inr ⟨r.take i, r.drop (i + 1), by rw [h2], by rw [← h2]; exact h3, hr, ?_, by omega, ?_, ?_⟩
    · intro e
      have := congrArg List.length e
      rw [List.length_drop] at this
      simp at this
      omega
    · rw [hl, Nat.sub_self, List.take_zero, List.append_nil, h2]
    · rw [hl, Nat.sub_self]; rfl
  · omega
theorem mem_getD {r : List UInt8} {i : Nat} (hi : i < r.length) : r.getD i 0 ∈ r := by
  rw [List.getD, List.getElem?_eq_getElem hi]
  exact List.getElem_mem hi
theorem PtI.bad {r : List UInt8} {i : Nat} {digs : List UInt8} {pt : Int} (h : PtI r i digs pt) (hi : i < r.length) (hd : dg (r.getD i 0) = false) (hn : ¬ ((r.getD i 0 = 46 ∧ pt < 0) ∧ i + 1 < r.length)) : badP r := by
  by_cases e : r.getD i 0 = 46
  · rcases h with ⟨h1, h2, h3⟩ | ⟨a, b, h1, h2, h3, h4, h5, h6, h7⟩
    · have hr : r = r.take i ++ 46 :: r.drop (i + 1) := by
        conv => lhs; rw [← List.take_append_drop i r]
        rw [List.drop_eq_getElem_cons (by omega : i < r.length)]
        congr 2
        rw [← e, List.getD, List.getElem?_eq_getElem (by omega)]
        rfl
      have hc := cutP_at (b := r.drop (i + 1)) (dg_no46 (by rw [← h2]; exact h3) : (46 : UInt8) ∉ r.take i)
      rw [← hr] at hc
      refine .inl ?_
      rw [hc]
      exact ⟨rfl, List.drop_eq_nil_of_le (Nat.le_of_not_lt fun q => hn ⟨⟨e, by omega⟩, q⟩)⟩
    · have hc := cutP_at (b := b) (dg_no46 h2)
      rw [← h3] at hc
      have hg : r.getD i 0 = b.getD (i - (a.length + 1)) 0 := by
        rw [h3]; exact getD_right h5
      have hbl : i - (a.length + 1) < b.length := by
        have := congrArg List.length h3
        simp at this
        omega
      refine .inr ?_
      rw [hc]
      exact num_not (List.mem_append_right _ (by rw [hg]; exact mem_getD hbl)) hd
  · exact .inr (num_not ((cutP_mem r 46 _ (mem_getD hi)).resolve_left e) hd)
theorem PtI.done {r digs : List UInt8} {pt : Int} (h : PtI r r.length digs pt) : digs = (cutP r 46).1 ++ (cutP r 46).2.1 ∧ (badP r ↔ digs = []) ∧ ((cutP r 46).2.1.length : Int) = if pt < 0 then 0 else digs.length - pt := by
  have ha := h.all.1
  have hnum : ∀ s : List UInt8, s.all dg = true → (numB s = false ↔ s = []) := by
    intro s hs
    unfold numB
    rw [hs, Bool.and_true, Bool.not_eq_false', decide_eq_true_eq]
  rcases h with ⟨h1, h2, h3⟩ | ⟨a, b, h1, h2, h3, h4, h5, h6, h7⟩
  · rw [List.take_length] at h2
    have hc := cutP_none (dg_no46 ha)
    rw [h2] at hc ha
    unfold badP
    rw [hc, h2, h1]
    refine ⟨by simp, ?_, by simp⟩
    simp only [List.append_nil]
    rw [hnum r ha]
    simp
  · have hl : r.length - (a.length + 1) = b.length := by rw [h3]; simp; omega
    rw [hl, List.take_length] at h6 h7
    have hc := cutP_at (b := b) (dg_no46 h2)
    rw [← h3] at hc
    unfold badP
    rw [hc, ← h6]
    refine ⟨rfl, ?_, ?_⟩
    · rw [hnum digs ha]
      simp [h4]
    · rw [if_neg (by omega), h6, h1]
      simp
      omega
theorem parse_eq {s r : List UInt8} (hl : s.length ≤ 200) (hr : r = if [45].isPrefixOf s = true then Lib.trimPrefix s [45] else Lib.trimPrefix s [43]) :
    parseE s = if badP r then (noD, 4) else normE ([45].isPrefixOf s) (natOf ((cutP r 46).1 ++ (cutP r 46).2.1)) (cutP r 46).2.1.length := by
  rw [parseE, if_neg (by omega)]
  simp only [← hr]
theorem parse_text {d : D} (h : checkE d = 0) : parseE (textE d) = (d, 0) ∧ (textE d).length ≤ 200 := by
  obtain ⟨sd, dd, nd, hn⟩ := Small_of_check h
  have h0 := sd.s0
  have h1 := sd.s1
  have h2 := sd.l
  have hne : d.dig.length ≠ 0 := fun e => nd (List.length_eq_zero_iff.1 e)
  obtain ⟨s, hs⟩ : ∃ s, s = padL d.dig (d.scale + 1) := ⟨_, rfl⟩
  have hsl : d.scale < (s.length : Int) ∧ s.length ≤ 63 := by rw [hs, padL]; simp; omega
  have hsa : s.all dg = true := by rw [hs]; exact pad_all dd _
  have hsv : natOf s = natOf d.dig := by rw [hs]; exact natOf_pad _ _
  obtain ⟨t, ht⟩ : ∃ t, t = (if 0 < d.scale then s.take ((s.length : Int) - d.scale).toNat ++ [46] ++ s.drop ((s.length : Int) - d.scale).toNat else s) := ⟨_, rfl⟩
  have htx : textE d = if d.neg = true then [45] ++ t else t := by
    rw [textE, if_neg (fun q => q h)]
    simp only [← hs, ← ht]
  have htl : t.length ≤ 64 := by
    rw [ht]
    split
    · simp; omega
    · omega
  have hlen : (textE d).length ≤ 200 := by
    rw [htx]
    split
    · simp; omega
    · omega
  refine ⟨?_, hlen⟩
  obtain ⟨x, t', htc, hx⟩ : ∃ x t', t = x :: t' ∧ dg x = true := by
    cases hs' : s with
    | nil => rw [hs'] at hsl; simp at hsl; omega
    | cons x s' =>
      rw [hs', List.all_cons, Bool.and_eq_true] at hsa
      rw [ht]
      split
      · rw [hs', show ((List.length (x :: s') : Int) - d.scale).toNat = (((List.length (x :: s') : Int) - d.scale).toNat - 1) + 1 by rw [hs'] at hsl; omega, List.take_succ_cons]
        exact ⟨x, _, by simp only [List.cons_append]; rfl, hsa.1⟩
      · exact ⟨x, s', hs', hsa.1⟩
  have hx45 : ¬ (45 : UInt8) = x := fun e => by rw [← e] at hx; exact absurd hx (by decide)
  have hx43 : ¬ (43 : UInt8) = x := fun e => by rw [← e] at hx; exact absurd hx (by decide)
  have hpre : [45].isPrefixOf (textE d) = d.neg := by
    rw [htx]
    cases d.neg with
    | true => simp
    | false => simp [htc, List.isPrefixOf, hx45]
  have hr : t = if [45].isPrefixOf (textE d) = true then Lib.trimPrefix (textE d) [45] else Lib.trimPrefix (textE d) [43] := by
    rw [hpre, htx]
    cases d.neg with
    | true => simp [Lib.trimPrefix, Lib.hasPrefix]
    | false => simp [htc, Lib.trimPrefix, Lib.hasPrefix, List.isPrefixOf, hx43]
  rw [parse_eq hlen hr, hpre]
  have hnumb : numB s = true := by
    unfold numB
    rw [hsa, Bool.and_true, Bool.not_eq_true', decide_eq_false_iff_not]
    intro e
    rw [e] at hsl
    simp at hsl
    omega
  by_cases hsc : 0 < d.scale
  · rw [if_pos hsc] at ht
    have hta : (s.take ((s.length : Int) - d.scale).toNat).all dg = true := by
      rw [List.all_eq_true] at hsa ⊢
      exact fun b hb => hsa b (List.mem_of_mem_take hb)
    have hc : cutP t 46 = (s.take ((s.length : Int) - d.scale).toNat, s.drop ((s.length : Int) - d.scale).toNat, true) := by
      rw [ht, List.append_assoc]
      exact cutP_at (dg_no46 hta)
    have hbl : ((s.drop ((s.length : Int) - d.scale).toNat).length : Int) = d.scale := by rw [List.length_drop]; omega
    have hnb : ¬ badP t := by
      unfold badP
      rw [hc]
      simp only [List.take_append_drop]
      rintro (⟨_, e⟩ | e)
      · rw [e] at hbl; simp at hbl; omega
      · rw [hnumb] at e; cases e
    rw [if_neg hnb, hc]
    simp only [List.take_append_drop]
    rw [hbl, hsv]
    exact hn
  · rw [if_neg hsc] at ht
    have hc : cutP t 46 = (s, [], false) := by rw [ht]; exact cutP_none (dg_no46 hsa)
    have hnb : ¬ badP t := by
      unfold badP
      rw [hc]
      simp only [List.append_nil]
      rintro (⟨e, _⟩ | e)
      · cases e
      · rw [hnumb] at e; cases e
    rw [if_neg hnb, hc]
    simp only [List.append_nil]
    rw [hsv, show ((([] : List UInt8).length : Nat) : Int) = d.scale by simp; omega]
    exact hn
theorem isP_eq (s : List UInt8) (c : UInt8) : (!decide (s = []) && decide (((s.getD 0 0).toNat : Int) = (c.toNat : Int))) = [c].isPrefixOf s := by
  cases s with
  | nil => rfl
  | cons x t =>
    rw [Bool.eq_iff_iff]
    simp [List.isPrefixOf]
    constructor
    · intro e; exact UInt8.toNat_inj.1 (by omega)
    · intro e; rw [e]
theorem take1_at {r : List UInt8} {i : Nat} (hi : i < r.length) : List.take 1 (List.drop i r) = [r.getD i 0] := by
  rw [List.drop_eq_getElem_cons hi, List.getD, List.getElem?_eq_getElem hi]
  rfl
theorem trim1 (s : List UInt8) (c : UInt8) : Lib.trimPrefix s [c] = if [c].isPrefixOf s = true then s.drop 1 else s := by
  unfold Lib.trimPrefix Lib.hasPrefix
  first | done | rfl
theorem rest_eq (s : List UInt8) : (if ([45].isPrefixOf s || [43].isPrefixOf s) = true then s.drop 1 else s) = if [45].isPrefixOf s = true then Lib.trimPrefix s [45] else Lib.trimPrefix s [43] := by
  rw [trim1, trim1]
  cases [45].isPrefixOf s <;> cases [43].isPrefixOf s <;> rfl
theorem parse_done {s r digs : List UInt8} {pt : Int} (hl : s.length ≤ 200) (hr : r = if [45].isPrefixOf s = true then Lib.trimPrefix s [45] else Lib.trimPrefix s [43]) (h : PtI r r.length digs pt) (hne : digs ≠ []) :
    parseE s = resE (canon ([45].isPrefixOf s) (natOf digs) ((digs.length : Int) - (if pt < 0 then (digs.length : Int) else pt)).toNat) := by
  obtain ⟨d1, d2, d3⟩ := h.done
  obtain ⟨_, _, h3, h4⟩ := h.all
  rw [parse_eq hl hr, if_neg (fun e => hne (d2.1 e)), ← d1, normE, show (-((cutP r 46).2.1.length : Int)).toNat = 0 by omega, Nat.pow_zero, Nat.mul_one]
  congr 2
  split at d3
  · rename_i q; rw [if_pos q]; omega
  · rename_i q; rw [if_neg q]; omega
theorem parse_bad {s r : List UInt8} (hl : s.length ≤ 200) (hr : r = if [45].isPrefixOf s = true then Lib.trimPrefix s [45] else Lib.trimPrefix s [43]) (h : badP r) : parseE s = (noD, 4) := by
  rw [parse_eq hl hr, if_pos h]

set_option maxHeartbeats 2000000 in
theorem l_DecimalsTexts (w₀ : World) (ht : Tab10 w₀) (he : Errs w₀) (h : AHeap) (neg : Bool) (v : AVal) (bs : List UInt8) (sc : UInt8) (hb : IsB w₀ h v bs) (hbl : bs.length ≤ 9223372036854775807) (s : List UInt8) (hl : s.length ≤ 9223372036854775807) :
    ACall Tryz.prog w₀ 3 [.agg [.bool neg, v, .int .u8 sc.toNat], .str s] h (fun x _ => x = .bool true) := by
  refine ACall.mono (R := fun x h' => x = .bool true ∧ h' = h) ?_ fun x h' hx => hx.1
  have hlv := hb.live
  obtain ⟨d, hd⟩ : ∃ d, d = ofN neg bs sc := ⟨_, rfl⟩
  have hv : checkE d = 0 := by rw [hd]; exact ofN_check _ _ _
  have hdl := check_len hv
  obtain ⟨pt1, pt2⟩ := parse_text hv
  obtain ⟨tx, htx⟩ : ∃ tx, tx = textE d := ⟨_, rfl⟩
  rw [← htx] at pt1 pt2
  obtain ⟨p, e, hpe⟩ : ∃ p e, parseE s = (p, e) := ⟨_, _, rfl⟩
  obtain ⟨ng, hng⟩ : ∃ ng, ng = [45].isPrefixOf s := ⟨_, rfl⟩
  have e45 : (!decide (s = []) && decide (((s.getD (Int.toNat 0) 0).toNat : Int) = 45)) = ng := by rw [hng]; exact isP_eq s 45
  refine acall_intro (n := 147) (rs := [.tmp 4]) Tryz.func3 rfl rfl rfl rfl (Nat.le_of_ble_eq_true rfl) ?_
  simp only [initSlots]
  -- region 0  law.go:199
  refine awp_rseq [1, 2] (by rfl) fun K hK => ?_
  refine aOps_box (by rfl) (by rfl) (by rfl) fun k0q0 hk0q0 => ?_
  try have hf_0q0 : h k0q0 = none := by first | assumption | (simp only [AHeap.set_none] at hk0q0; simp only [hk0q0])
  skip
  simp (decide := true) only [aOps_nil, vOps_nil, fOps_nil, kOps_nil, ev, absV, absS, putD, Slots.put, Slots.get, Slots.keep, if_true, if_false, List.contains_cons, List.contains_nil, true_and, and_true, ↓ap_assign, pop_assign, rd_ne', ne_eq, not_false_eq_true, rd_any, AVal.cells, setAt, List.set_cons_zero, List.set_cons_succ, cellsAt, List.getD_cons_zero, List.getD_cons_succ, Nat.zero_add, Nat.reduceAdd, lv_bool, lv_int, lv_str, lv_nilPtr, lv_ptr, lv_nilSlice, lv_slice, lv_nilFunc, lv_func, lv_nilIface, lv_iface, lv_nilMap, lv_agg, lv_tuple, allLive, Bool.and_true, decA, hlv]
  repeat (with_reducible refine And.intro ?_ ?_; · first | trivial | omega | (intro hg; simp only [Bool.and_eq_true, Bool.or_eq_true, Bool.not_eq_true', Bool.and_eq_false_iff, Bool.or_eq_false_iff, Bool.not_eq_false', decide_eq_true_eq, decide_eq_false_iff_not, eqNil] at hg; omega) | (simp only [List.length_append, List.length_map, List.length_range, List.length_replicate, List.length_take, List.length_drop, List.length_cons, List.length_nil, List.length_set, List.length_reverse]; omega))
  apply hK; clear hK K
  refine awp_seq ?_
  -- region 1  law.go:200
  refine awp_rseq [1, 2, 17] (by rfl) fun K hK => ?_
  simp (decide := true) only [aOps_nil, vOps_nil, fOps_nil, kOps_nil, ev, absV, absS, putD, Slots.put, Slots.get, Slots.keep, if_true, if_false, List.contains_cons, List.contains_nil, true_and, and_true, ↓ap_move, pop_move, ↓ap_len, pop_len, pLen_str Tryz.underlying9, ↓ap_binOp, pop_binOp, isNilC_int, cond_false, pBinX_int, pI_gtr, rd_ne', ne_eq, not_false_eq_true, rd_any, AVal.cells, setAt, List.set_cons_zero, List.set_cons_succ, cellsAt, List.getD_cons_zero, List.getD_cons_succ, Nat.zero_add, Nat.reduceAdd, lv_bool, lv_int, lv_str, lv_nilPtr, lv_ptr, lv_nilSlice, lv_slice, lv_nilFunc, lv_func, lv_nilIface, lv_iface, lv_nilMap, lv_agg, lv_tuple, allLive, Bool.and_true, decA, hlv]
  repeat (with_reducible refine And.intro ?_ ?_; · first | trivial | omega | (intro hg; simp only [Bool.and_eq_true, Bool.or_eq_true, Bool.not_eq_true', Bool.and_eq_false_iff, Bool.or_eq_false_iff, Bool.not_eq_false', decide_eq_true_eq, decide_eq_false_iff_not, eqNil] at hg; omega) | (simp only [List.length_append, List.length_map, List.length_range, List.length_replicate, List.length_take, List.length_drop, List.length_cons, List.length_nil, List.length_set, List.length_reverse]; omega))
  apply hK; clear hK K
  refine awp_cond (b := _) rfl (fun hb1 => ?_) (fun hb1 => ?_)
  · try simp only [decide_eq_true_eq, decide_eq_false_iff_not, Bool.not_eq_true', Bool.not_eq_false', Bool.and_eq_true, Bool.and_eq_false_iff, Bool.or_eq_true, Bool.or_eq_false_iff, Bool.true_eq, Bool.false_eq, reduceCtorEq] at hb1
    -- region 2  law.go:201
    refine awp_rseq [4] (by rfl) fun K hK => ?_
    refine aOps_callV (V := .bool true) (by rfl) (by rfl) (c_lives12 w₀ ht he _) ?_
    simp (decide := true) only [aOps_nil, vOps_nil, fOps_nil, kOps_nil, ev, absV, absS, putD, Slots.put, Slots.get, Slots.keep, if_true, if_false, List.contains_cons, List.contains_nil, true_and, and_true, ↓ap_assign, pop_assign, rd_ne', ne_eq, not_false_eq_true, rd_any, AVal.cells, setAt, List.set_cons_zero, List.set_cons_succ, cellsAt, List.getD_cons_zero, List.getD_cons_succ, Nat.zero_add, Nat.reduceAdd, lv_bool, lv_int, lv_str, lv_nilPtr, lv_ptr, lv_nilSlice, lv_slice, lv_nilFunc, lv_func, lv_nilIface, lv_iface, lv_nilMap, lv_agg, lv_tuple, allLive, Bool.and_true, decA, hlv]
    repeat (with_reducible refine And.intro ?_ ?_; · first | trivial | omega | (intro hg; simp only [Bool.and_eq_true, Bool.or_eq_true, Bool.not_eq_true', Bool.and_eq_false_iff, Bool.or_eq_false_iff, Bool.not_eq_false', decide_eq_true_eq, decide_eq_false_iff_not, eqNil] at hg; omega) | (simp only [List.length_append, List.length_map, List.length_range, List.length_replicate, List.length_take, List.length_drop, List.length_cons, List.length_nil, List.length_set, List.length_reverse]; omega))
    apply hK; clear hK K
    refine awp_ret ?_
    try simp only [thenA_ret, inBlockA_ret]
    refine retA_ret h (by repeat (first | exact Sub.refl _ | refine Sub.trans_set ?_ (by assumption))) (resPre_tmp (resPre_nil)) ?_
    simp (decide := true) only [aOps_nil, vOps_nil, fOps_nil, kOps_nil, ev, absV, absS, putD, Slots.put, Slots.get, Slots.keep, if_true, if_false, List.contains_cons, List.contains_nil, true_and, and_true, resOf_one, rd_ne', ne_eq, not_false_eq_true, rd_any, AVal.cells, setAt, List.set_cons_zero, List.set_cons_succ, cellsAt, List.getD_cons_zero, List.getD_cons_succ, Nat.zero_add, Nat.reduceAdd, lv_bool, lv_int, lv_str, lv_nilPtr, lv_ptr, lv_nilSlice, lv_slice, lv_nilFunc, lv_func, lv_nilIface, lv_iface, lv_nilMap, lv_agg, lv_tuple, allLive, Bool.and_true, decA, hlv]
    all_goals first | rfl | exact ⟨rfl, rfl⟩ | (simp (decide := true) only [if_true, if_false, *]; done) | (trace_state; fail)
  · try simp only [decide_eq_true_eq, decide_eq_false_iff_not, Bool.not_eq_true', Bool.not_eq_false', Bool.and_eq_true, Bool.and_eq_false_iff, Bool.or_eq_true, Bool.or_eq_false_iff, Bool.true_eq, Bool.false_eq, reduceCtorEq] at hb1
    refine awp_skip ?_
    change Awp _ _ _ _ _ _ _
    -- region 3  law.go:203
    refine awp_rseq [1, 5] (by rfl) fun K hK => ?_
    simp (decide := true) only [aOps_nil, vOps_nil, fOps_nil, kOps_nil, ev, absV, absS, putD, Slots.put, Slots.get, Slots.keep, if_true, if_false, List.contains_cons, List.contains_nil, true_and, and_true, ↓ap_loadL, apL_mk, pLoad_agg ag24 sz24, rd_ne', ne_eq, not_false_eq_true, rd_any, AVal.cells, setAt, List.set_cons_zero, List.set_cons_succ, cellsAt, List.getD_cons_zero, List.getD_cons_succ, Nat.zero_add, Nat.reduceAdd, lv_bool, lv_int, lv_str, lv_nilPtr, lv_ptr, lv_nilSlice, lv_slice, lv_nilFunc, lv_func, lv_nilIface, lv_iface, lv_nilMap, lv_agg, lv_tuple, allLive, Bool.and_true, decA, hlv]
    repeat (with_reducible refine And.intro ?_ ?_; · first | trivial | omega | (intro hg; simp only [Bool.and_eq_true, Bool.or_eq_true, Bool.not_eq_true', Bool.and_eq_false_iff, Bool.or_eq_false_iff, Bool.not_eq_false', decide_eq_true_eq, decide_eq_false_iff_not, eqNil] at hg; omega) | (simp only [List.length_append, List.length_map, List.length_range, List.length_replicate, List.length_take, List.length_drop, List.length_cons, List.length_nil, List.length_set, List.length_reverse]; omega))
    refine aOps_callV (V := decA d) (by rfl) (by rfl) ((c_ofN w₀ _ neg v bs sc (hb.mono (by repeat (first | exact Sub.refl _ | refine Sub.trans_set ?_ (by assumption)))) hbl).val (by rw [hd])) ?_
    refine aOps_alloc ze27 (cs := [.bool false, .str [], .int .i64 0]) (by rfl) fun k3q2 hk3q2 => ?_
    have ne_3q2_0q0 : k3q2 ≠ k0q0 := by simp only [AHeap.set_none] at hk3q2; simp only [hk3q2, ne_eq, not_false_eq_true]
    try have hf_3q2 : h k3q2 = none := by first | assumption | (simp only [AHeap.set_none] at hk3q2; simp only [hk3q2])
    refine aOps_store (by rfl) (by rfl) (by repeat (first | exact AHeap.set_same _ _ _ | assumption | refine (AHeap.set_ne _ _ (by first | assumption | exact Ne.symm (by assumption))).trans ?_)) sz27 (by rfl) (by rfl) (by first | exact Nat.le_refl _ | decide | (simp; done) | (simp; omega)) (Nat.zero_le _) (by rfl) ?_
    simp only [AHeap.set_set, setAt, AVal.cells, List.set_cons_zero, List.set_cons_succ, Nat.zero_add, Nat.reduceAdd]
    simp (decide := true) only [aOps_nil, vOps_nil, fOps_nil, kOps_nil, ev, absV, absS, putD, Slots.put, Slots.get, Slots.keep, if_true, if_false, List.contains_cons, List.contains_nil, true_and, and_true, rd_ne', ne_eq, not_false_eq_true, ne_3q2_0q0, ne_3q2_0q0.symm, rd_any, AVal.cells, setAt, List.set_cons_zero, List.set_cons_succ, cellsAt, List.getD_cons_zero, List.getD_cons_succ, Nat.zero_add, Nat.reduceAdd, lv_bool, lv_int, lv_str, lv_nilPtr, lv_ptr, lv_nilSlice, lv_slice, lv_nilFunc, lv_func, lv_nilIface, lv_iface, lv_nilMap, lv_agg, lv_tuple, allLive, Bool.and_true, decA, hlv]
    repeat (with_reducible refine And.intro ?_ ?_; · first | trivial | omega | (intro hg; simp only [Bool.and_eq_true, Bool.or_eq_true, Bool.not_eq_true', Bool.and_eq_false_iff, Bool.or_eq_false_iff, Bool.not_eq_false', decide_eq_true_eq, decide_eq_false_iff_not, eqNil] at hg; omega) | (simp only [List.length_append, List.length_map, List.length_range, List.length_replicate, List.length_take, List.length_drop, List.length_cons, List.length_nil, List.length_set, List.length_reverse]; omega))
    apply hK; clear hK K
    -- region 4  law.go:204
    refine awp_rseq [1, 5, 6, 7] (by rfl) fun K hK => ?_
    simp (decide := true) only [aOps_nil, vOps_nil, fOps_nil, kOps_nil, ev, absV, absS, putD, Slots.put, Slots.get, Slots.keep, if_true, if_false, List.contains_cons, List.contains_nil, true_and, and_true, ↓ap_loadL, apL_mk, pLoad_agg ag27 sz27, rd_ne', ne_eq, not_false_eq_true, ne_3q2_0q0, ne_3q2_0q0.symm, rd_any, AVal.cells, setAt, List.set_cons_zero, List.set_cons_succ, cellsAt, List.getD_cons_zero, List.getD_cons_succ, Nat.zero_add, Nat.reduceAdd, lv_bool, lv_int, lv_str, lv_nilPtr, lv_ptr, lv_nilSlice, lv_slice, lv_nilFunc, lv_func, lv_nilIface, lv_iface, lv_nilMap, lv_agg, lv_tuple, allLive, Bool.and_true, decA, hlv]
    repeat (with_reducible refine And.intro ?_ ?_; · first | trivial | omega | (intro hg; simp only [Bool.and_eq_true, Bool.or_eq_true, Bool.not_eq_true', Bool.and_eq_false_iff, Bool.or_eq_false_iff, Bool.not_eq_false', decide_eq_true_eq, decide_eq_false_iff_not, eqNil] at hg; omega) | (simp only [List.length_append, List.length_map, List.length_range, List.length_replicate, List.length_take, List.length_drop, List.length_cons, List.length_nil, List.length_set, List.length_reverse]; omega))
    refine aOps_callV (V := .str tx) (by rfl) (by rfl) ((c_Text w₀ _ d hdl).val (by rw [htx])) ?_
    refine aOps_callV (V := .tuple [decA d, .int .i64 0]) (by rfl) (by rfl) ((c_Parse w₀ _ tx (by omega)).val (by rw [pt1])) ?_
    simp (decide := true) only [aOps_nil, vOps_nil, fOps_nil, kOps_nil, ev, absV, absS, putD, Slots.put, Slots.get, Slots.keep, if_true, if_false, List.contains_cons, List.contains_nil, true_and, and_true, ↓ap_move, pop_move, ↓ap_extract, pop_extract, pExt_tuple, List.length_cons, List.length_nil, List.getD_cons_zero, List.getD_cons_succ, rd_ne', ne_eq, not_false_eq_true, ne_3q2_0q0, ne_3q2_0q0.symm, rd_any, AVal.cells, setAt, List.set_cons_zero, List.set_cons_succ, cellsAt, List.getD_cons_zero, List.getD_cons_succ, Nat.zero_add, Nat.reduceAdd, lv_bool, lv_int, lv_str, lv_nilPtr, lv_ptr, lv_nilSlice, lv_slice, lv_nilFunc, lv_func, lv_nilIface, lv_iface, lv_nilMap, lv_agg, lv_tuple, allLive, Bool.and_true, decA, hlv]
    repeat (with_reducible refine And.intro ?_ ?_; · first | trivial | omega | (intro hg; simp only [Bool.and_eq_true, Bool.or_eq_true, Bool.not_eq_true', Bool.and_eq_false_iff, Bool.or_eq_false_iff, Bool.not_eq_false', decide_eq_true_eq, decide_eq_false_iff_not, eqNil] at hg; omega) | (simp only [List.length_append, List.length_map, List.length_range, List.length_replicate, List.length_take, List.length_drop, List.length_cons, List.length_nil, List.length_set, List.length_reverse]; omega))
    refine aOps_alloc ze27 (cs := [.bool false, .str [], .int .i64 0]) (by rfl) fun k4q6 hk4q6 => ?_
    have ne_4q6_0q0 : k4q6 ≠ k0q0 := by simp only [AHeap.set_none] at hk4q6; simp only [hk4q6, ne_eq, not_false_eq_true]
    have ne_4q6_3q2 : k4q6 ≠ k3q2 := by simp only [AHeap.set_none] at hk4q6; simp only [hk4q6, ne_eq, not_false_eq_true]
    try have hf_4q6 : h k4q6 = none := by first | assumption | (simp only [AHeap.set_none] at hk4q6; simp only [hk4q6])
    refine aOps_store (by rfl) (by rfl) (by repeat (first | exact AHeap.set_same _ _ _ | assumption | refine (AHeap.set_ne _ _ (by first | assumption | exact Ne.symm (by assumption))).trans ?_)) sz27 (by rfl) (by rfl) (by first | exact Nat.le_refl _ | decide | (simp; done) | (simp; omega)) (Nat.zero_le _) (by rfl) ?_
    simp only [AHeap.set_set, setAt, AVal.cells, List.set_cons_zero, List.set_cons_succ, Nat.zero_add, Nat.reduceAdd]
    simp (decide := true) only [aOps_nil, vOps_nil, fOps_nil, kOps_nil, ev, absV, absS, putD, Slots.put, Slots.get, Slots.keep, if_true, if_false, List.contains_cons, List.contains_nil, true_and, and_true, ↓ap_assign, pop_assign, rd_ne', ne_eq, not_false_eq_true, ne_3q2_0q0, ne_3q2_0q0.symm, ne_4q6_0q0, ne_4q6_0q0.symm, ne_4q6_3q2, ne_4q6_3q2.symm, rd_any, AVal.cells, setAt, List.set_cons_zero, List.set_cons_succ, cellsAt, List.getD_cons_zero, List.getD_cons_succ, Nat.zero_add, Nat.reduceAdd, lv_bool, lv_int, lv_str, lv_nilPtr, lv_ptr, lv_nilSlice, lv_slice, lv_nilFunc, lv_func, lv_nilIface, lv_iface, lv_nilMap, lv_agg, lv_tuple, allLive, Bool.and_true, decA, hlv]
    repeat (with_reducible refine And.intro ?_ ?_; · first | trivial | omega | (intro hg; simp only [Bool.and_eq_true, Bool.or_eq_true, Bool.not_eq_true', Bool.and_eq_false_iff, Bool.or_eq_false_iff, Bool.not_eq_false', decide_eq_true_eq, decide_eq_false_iff_not, eqNil] at hg; omega) | (simp only [List.length_append, List.length_map, List.length_range, List.length_replicate, List.length_take, List.length_drop, List.length_cons, List.length_nil, List.length_set, List.length_reverse]; omega))
    apply hK; clear hK K
    refine awp_seq ?_
    -- region 5  law.go:205
    refine awp_dseq_any [1, 40] mixed (by kernel_rfl) (by rfl) fun K hK => ?_
    simp (decide := true) only [aOps_nil, vOps_nil, fOps_nil, kOps_nil, ev, absV, absS, putD, Slots.put, Slots.get, Slots.keep, if_true, if_false, List.contains_cons, List.contains_nil, true_and, and_true, ↓vp_move, pop_move, ↓vp_binOp, pop_binOp, isNilC_int, cond_false, pBinX_int, pI_neq, ↓vg_load, pop_load, vgQ_some, pop_indexAddr, agL_ld1, agL_ld2, agL_ld3, agL_ld4, agL_ld5, agL_ld6, vgP, gv, nthDst, gKnown_bool, gKnown_cond, guardB_cond, guardB_bool_true, guardB_bool_false, cv_cv, implies_true, Bool.not_not, decide_true, decide_false, Bool.not_false, Bool.not_true, condV_true, condV_false, forall_const, false_implies, pickV_true, pickV_false, Bool.and_true, Bool.and_false, Bool.true_and, Bool.false_and, Bool.or_true, Bool.or_false, Bool.true_or, Bool.false_or, pLoad_agg ag27 sz27, cv_load, cp_load, ↓vg_binOp, isNilC_tmp, cv_binl, cv_binr, cp_binl, cp_binr, pBinX_agg, ne27, ↓vp_pick, pop_pick, pPick_bool, pickV_cond_l, pickV_cond_r, pickV_cond_rn, cp_nest1, cp_nest2, cp_nest3, cp_nest4, pickV_and, pickV_or, rd_ne', ne_eq, not_false_eq_true, ne_3q2_0q0, ne_3q2_0q0.symm, ne_4q6_0q0, ne_4q6_0q0.symm, ne_4q6_3q2, ne_4q6_3q2.symm, rd_any, AVal.cells, setAt, List.set_cons_zero, List.set_cons_succ, cellsAt, List.getD_cons_zero, List.getD_cons_succ, Nat.zero_add, Nat.reduceAdd, lv_bool, lv_int, lv_str, lv_nilPtr, lv_ptr, lv_nilSlice, lv_slice, lv_nilFunc, lv_func, lv_nilIface, lv_iface, lv_nilMap, lv_agg, lv_tuple, allLive, Bool.and_true, decA, hlv]
    repeat (with_reducible refine And.intro ?_ ?_; · first | trivial | omega | (intro hg; simp only [Bool.and_eq_true, Bool.or_eq_true, Bool.not_eq_true', Bool.and_eq_false_iff, Bool.or_eq_false_iff, Bool.not_eq_false', decide_eq_true_eq, decide_eq_false_iff_not, eqNil] at hg; omega) | (simp only [List.length_append, List.length_map, List.length_range, List.length_replicate, List.length_take, List.length_drop, List.length_cons, List.length_nil, List.length_set, List.length_reverse]; omega))
    refine vOps_gcall (V := .str tx) (f := _) (cap := _) (xs := _) rfl (fun hg => ⟨rfl, ?_⟩) (fun hg => (c_Text w₀ _ d hdl).val (by rw [htx])) ?_
    · try simp (decide := true) only [gv, nthDst, Slots.get, if_true, if_false, guardB_bool_true, guardB_bool_false, guardB_cond, Bool.not_not] at hg
      simp (decide := true) only [evs, ev, Slots.get, if_true, if_false, hg, condV_true, List.append_nil, List.map_cons, List.map_nil, absV, absS] <;> try rfl
    simp (decide := true) only [aOps_nil, vOps_nil, fOps_nil, kOps_nil, ev, absV, absS, putD, Slots.put, Slots.get, Slots.keep, if_true, if_false, List.contains_cons, List.contains_nil, true_and, and_true, gv, nthDst, guardB_bool_true, guardB_bool_false, guardB_cond, ↓vg_load, pop_load, vgQ_some, pop_indexAddr, agL_ld1, agL_ld2, agL_ld3, agL_ld4, agL_ld5, agL_ld6, vgP, gKnown_bool, gKnown_cond, cv_cv, implies_true, Bool.not_not, decide_true, decide_false, Bool.not_false, Bool.not_true, condV_true, condV_false, forall_const, false_implies, pickV_true, pickV_false, Bool.and_true, Bool.and_false, Bool.true_and, Bool.false_and, Bool.or_true, Bool.or_false, Bool.true_or, Bool.false_or, pLoad_agg ag27 sz27, cv_load, cp_load, rd_ne', ne_eq, not_false_eq_true, ne_3q2_0q0, ne_3q2_0q0.symm, ne_4q6_0q0, ne_4q6_0q0.symm, ne_4q6_3q2, ne_4q6_3q2.symm, rd_any, AVal.cells, setAt, List.set_cons_zero, List.set_cons_succ, cellsAt, List.getD_cons_zero, List.getD_cons_succ, Nat.zero_add, Nat.reduceAdd, lv_bool, lv_int, lv_str, lv_nilPtr, lv_ptr, lv_nilSlice, lv_slice, lv_nilFunc, lv_func, lv_nilIface, lv_iface, lv_nilMap, lv_agg, lv_tuple, allLive, Bool.and_true, decA, hlv]
    repeat (with_reducible refine And.intro ?_ ?_; · first | trivial | omega | (intro hg; simp only [Bool.and_eq_true, Bool.or_eq_true, Bool.not_eq_true', Bool.and_eq_false_iff, Bool.or_eq_false_iff, Bool.not_eq_false', decide_eq_true_eq, decide_eq_false_iff_not, eqNil] at hg; omega) | (simp only [List.length_append, List.length_map, List.length_range, List.length_replicate, List.length_take, List.length_drop, List.length_cons, List.length_nil, List.length_set, List.length_reverse]; omega))
    refine vOps_gcall (V := .str tx) (f := _) (cap := _) (xs := _) rfl (fun hg => ⟨rfl, ?_⟩) (fun hg => (c_Text12 w₀ _ d hv).val (by rw [htx])) ?_
    · try simp (decide := true) only [gv, nthDst, Slots.get, if_true, if_false, guardB_bool_true, guardB_bool_false, guardB_cond, Bool.not_not] at hg
      simp (decide := true) only [evs, ev, Slots.get, if_true, if_false, hg, condV_true, List.append_nil, List.map_cons, List.map_nil, absV, absS] <;> try rfl
    simp (decide := true) only [aOps_nil, vOps_nil, fOps_nil, kOps_nil, ev, absV, absS, putD, Slots.put, Slots.get, Slots.keep, if_true, if_false, List.contains_cons, List.contains_nil, true_and, and_true, gv, nthDst, guardB_bool_true, guardB_bool_false, guardB_cond, ↓vg_binOp, pop_binOp, vgP, vgQ_some, gKnown_bool, gKnown_cond, cv_cv, implies_true, Bool.not_not, decide_true, decide_false, Bool.not_false, Bool.not_true, condV_true, condV_false, forall_const, false_implies, pickV_true, pickV_false, Bool.and_true, Bool.and_false, Bool.true_and, Bool.false_and, Bool.or_true, Bool.or_false, Bool.true_or, Bool.false_or, isNilC_tmp, cond_false, cv_binl, cv_binr, cp_binl, cp_binr, pBinX_str, pS_neq, ↓vp_pick, pop_pick, pPick_bool, pickV_cond_l, pickV_cond_r, pickV_cond_rn, cp_nest1, cp_nest2, cp_nest3, cp_nest4, pickV_and, pickV_or, rd_ne', ne_eq, not_false_eq_true, ne_3q2_0q0, ne_3q2_0q0.symm, ne_4q6_0q0, ne_4q6_0q0.symm, ne_4q6_3q2, ne_4q6_3q2.symm, rd_any, AVal.cells, setAt, List.set_cons_zero, List.set_cons_succ, cellsAt, List.getD_cons_zero, List.getD_cons_succ, Nat.zero_add, Nat.reduceAdd, lv_bool, lv_int, lv_str, lv_nilPtr, lv_ptr, lv_nilSlice, lv_slice, lv_nilFunc, lv_func, lv_nilIface, lv_iface, lv_nilMap, lv_agg, lv_tuple, allLive, Bool.and_true, decA, hlv]
    repeat (with_reducible refine And.intro ?_ ?_; · first | trivial | omega | (intro hg; simp only [Bool.and_eq_true, Bool.or_eq_true, Bool.not_eq_true', Bool.and_eq_false_iff, Bool.or_eq_false_iff, Bool.not_eq_false', decide_eq_true_eq, decide_eq_false_iff_not, eqNil] at hg; omega) | (simp only [List.length_append, List.length_map, List.length_range, List.length_replicate, List.length_take, List.length_drop, List.length_cons, List.length_nil, List.length_set, List.length_reverse]; omega))
    apply hK; clear hK K
    refine awp_cond (b := _) rfl (fun hb2 => ?_) (fun hb2 => ?_)
    · exact absurd hb2 (by simp)
    · try simp only [decide_eq_true_eq, decide_eq_false_iff_not, Bool.not_eq_true', Bool.not_eq_false', Bool.and_eq_true, Bool.and_eq_false_iff, Bool.or_eq_true, Bool.or_eq_false_iff, Bool.true_eq, Bool.false_eq, reduceCtorEq] at hb2
      have hs2 : s.length ≤ 200 := by simp at hb1; omega
      refine awp_skip ?_
      change Awp _ _ _ _ _ _ _
      -- region 7  law.go:208
      refine awp_rseq [1, 8, 9] (by rfl) fun K hK => ?_
      simp (decide := true) only [aOps_nil, vOps_nil, fOps_nil, kOps_nil, ev, absV, absS, putD, Slots.put, Slots.get, Slots.keep, if_true, if_false, List.contains_cons, List.contains_nil, true_and, and_true, ↓ap_move, pop_move, rd_ne', ne_eq, not_false_eq_true, ne_3q2_0q0, ne_3q2_0q0.symm, ne_4q6_0q0, ne_4q6_0q0.symm, ne_4q6_3q2, ne_4q6_3q2.symm, rd_any, AVal.cells, setAt, List.set_cons_zero, List.set_cons_succ, cellsAt, List.getD_cons_zero, List.getD_cons_succ, Nat.zero_add, Nat.reduceAdd, lv_bool, lv_int, lv_str, lv_nilPtr, lv_ptr, lv_nilSlice, lv_slice, lv_nilFunc, lv_func, lv_nilIface, lv_iface, lv_nilMap, lv_agg, lv_tuple, allLive, Bool.and_true, decA, hlv]
      repeat (with_reducible refine And.intro ?_ ?_; · first | trivial | omega | (intro hg; simp only [Bool.and_eq_true, Bool.or_eq_true, Bool.not_eq_true', Bool.and_eq_false_iff, Bool.or_eq_false_iff, Bool.not_eq_false', decide_eq_true_eq, decide_eq_false_iff_not, eqNil] at hg; omega) | (simp only [List.length_append, List.length_map, List.length_range, List.length_replicate, List.length_take, List.length_drop, List.length_cons, List.length_nil, List.length_set, List.length_reverse]; omega))
      refine aOps_callV (V := .tuple [decA p, .int .i64 e]) (by rfl) (by rfl) ((c_Parse w₀ _ s hl).val (by rw [hpe])) ?_
      simp (decide := true) only [aOps_nil, vOps_nil, fOps_nil, kOps_nil, ev, absV, absS, putD, Slots.put, Slots.get, Slots.keep, if_true, if_false, List.contains_cons, List.contains_nil, true_and, and_true, ↓ap_move, pop_move, ↓ap_extract, pop_extract, pExt_tuple, List.length_cons, List.length_nil, List.getD_cons_zero, List.getD_cons_succ, rd_ne', ne_eq, not_false_eq_true, ne_3q2_0q0, ne_3q2_0q0.symm, ne_4q6_0q0, ne_4q6_0q0.symm, ne_4q6_3q2, ne_4q6_3q2.symm, rd_any, AVal.cells, setAt, List.set_cons_zero, List.set_cons_succ, cellsAt, List.getD_cons_zero, List.getD_cons_succ, Nat.zero_add, Nat.reduceAdd, lv_bool, lv_int, lv_str, lv_nilPtr, lv_ptr, lv_nilSlice, lv_slice, lv_nilFunc, lv_func, lv_nilIface, lv_iface, lv_nilMap, lv_agg, lv_tuple, allLive, Bool.and_true, decA, hlv]
      repeat (with_reducible refine And.intro ?_ ?_; · first | trivial | omega | (intro hg; simp only [Bool.and_eq_true, Bool.or_eq_true, Bool.not_eq_true', Bool.and_eq_false_iff, Bool.or_eq_false_iff, Bool.not_eq_false', decide_eq_true_eq, decide_eq_false_iff_not, eqNil] at hg; omega) | (simp only [List.length_append, List.length_map, List.length_range, List.length_replicate, List.length_take, List.length_drop, List.length_cons, List.length_nil, List.length_set, List.length_reverse]; omega))
      refine aOps_alloc ze27 (cs := [.bool false, .str [], .int .i64 0]) (by rfl) fun k7q5 hk7q5 => ?_
      have ne_7q5_0q0 : k7q5 ≠ k0q0 := by simp only [AHeap.set_none] at hk7q5; simp only [hk7q5, ne_eq, not_false_eq_true]
      have ne_7q5_3q2 : k7q5 ≠ k3q2 := by simp only [AHeap.set_none] at hk7q5; simp only [hk7q5, ne_eq, not_false_eq_true]
      have ne_7q5_4q6 : k7q5 ≠ k4q6 := by simp only [AHeap.set_none] at hk7q5; simp only [hk7q5, ne_eq, not_false_eq_true]
      try have hf_7q5 : h k7q5 = none := by first | assumption | (simp only [AHeap.set_none] at hk7q5; simp only [hk7q5])
      refine aOps_store (by rfl) (by rfl) (by repeat (first | exact AHeap.set_same _ _ _ | assumption | refine (AHeap.set_ne _ _ (by first | assumption | exact Ne.symm (by assumption))).trans ?_)) sz27 (by rfl) (by rfl) (by first | exact Nat.le_refl _ | decide | (simp; done) | (simp; omega)) (Nat.zero_le _) (by rfl) ?_
      simp only [AHeap.set_set, setAt, AVal.cells, List.set_cons_zero, List.set_cons_succ, Nat.zero_add, Nat.reduceAdd]
      simp (decide := true) only [aOps_nil, vOps_nil, fOps_nil, kOps_nil, ev, absV, absS, putD, Slots.put, Slots.get, Slots.keep, if_true, if_false, List.contains_cons, List.contains_nil, true_and, and_true, ↓ap_assign, pop_assign, rd_ne', ne_eq, not_false_eq_true, ne_3q2_0q0, ne_3q2_0q0.symm, ne_4q6_0q0, ne_4q6_0q0.symm, ne_4q6_3q2, ne_4q6_3q2.symm, ne_7q5_0q0, ne_7q5_0q0.symm, ne_7q5_3q2, ne_7q5_3q2.symm, ne_7q5_4q6, ne_7q5_4q6.symm, rd_any, AVal.cells, setAt, List.set_cons_zero, List.set_cons_succ, cellsAt, List.getD_cons_zero, List.getD_cons_succ, Nat.zero_add, Nat.reduceAdd, lv_bool, lv_int, lv_str, lv_nilPtr, lv_ptr, lv_nilSlice, lv_slice, lv_nilFunc, lv_func, lv_nilIface, lv_iface, lv_nilMap, lv_agg, lv_tuple, allLive, Bool.and_true, decA, hlv]
      repeat (with_reducible refine And.intro ?_ ?_; · first | trivial | omega | (intro hg; simp only [Bool.and_eq_true, Bool.or_eq_true, Bool.not_eq_true', Bool.and_eq_false_iff, Bool.or_eq_false_iff, Bool.not_eq_false', decide_eq_true_eq, decide_eq_false_iff_not, eqNil] at hg; omega) | (simp only [List.length_append, List.length_map, List.length_range, List.length_replicate, List.length_take, List.length_drop, List.length_cons, List.length_nil, List.length_set, List.length_reverse]; omega))
      apply hK; clear hK K
      -- region 8  law.go:209
      refine awp_rseq [1, 8, 9, 10] (by rfl) fun K hK => ?_
      simp (decide := true) only [aOps_nil, vOps_nil, fOps_nil, kOps_nil, ev, absV, absS, putD, Slots.put, Slots.get, Slots.keep, if_true, if_false, List.contains_cons, List.contains_nil, true_and, and_true, ↓ap_move, pop_move, ↓ap_binOp, pop_binOp, isNilC_str, cond_false, pBinX_str, pS_neq, ↓ag_move, agP, agQ_some, gv, nthDst, gKnown_bool, gKnown_cond, guardB_cond, guardB_bool_true, guardB_bool_false, cv_cv, implies_true, Bool.not_not, decide_true, decide_false, Bool.not_false, Bool.not_true, condV_true, condV_false, forall_const, false_implies, pickV_true, pickV_false, Bool.and_true, Bool.and_false, Bool.true_and, Bool.false_and, Bool.or_true, Bool.or_false, Bool.true_or, Bool.false_or, ↓ag_index, pop_index, pIndex_str Tryz.underlying9, cv_indexl, cv_indexr, cp_indexl, cp_indexr, ↓ag_binOp, isNilC_int, cv_binl, cv_binr, cp_binl, cp_binr, pBinX_int, pI_eql, ↓ap_pick, pop_pick, pPick_bool, pickV_cond_l, pickV_cond_r, pickV_cond_rn, cp_nest1, cp_nest2, cp_nest3, cp_nest4, pickV_and, pickV_or, ↓ap_assign, pop_assign, rd_ne', ne_eq, not_false_eq_true, ne_3q2_0q0, ne_3q2_0q0.symm, ne_4q6_0q0, ne_4q6_0q0.symm, ne_4q6_3q2, ne_4q6_3q2.symm, ne_7q5_0q0, ne_7q5_0q0.symm, ne_7q5_3q2, ne_7q5_3q2.symm, ne_7q5_4q6, ne_7q5_4q6.symm, rd_any, AVal.cells, setAt, List.set_cons_zero, List.set_cons_succ, cellsAt, List.getD_cons_zero, List.getD_cons_succ, Nat.zero_add, Nat.reduceAdd, lv_bool, lv_int, lv_str, lv_nilPtr, lv_ptr, lv_nilSlice, lv_slice, lv_nilFunc, lv_func, lv_nilIface, lv_iface, lv_nilMap, lv_agg, lv_tuple, allLive, Bool.and_true, decA, hlv]
      repeat (with_reducible refine And.intro ?_ ?_; · first | trivial | omega | (intro hg; simp only [Bool.and_eq_true, Bool.or_eq_true, Bool.not_eq_true', Bool.and_eq_false_iff, Bool.or_eq_false_iff, Bool.not_eq_false', decide_eq_true_eq, decide_eq_false_iff_not, eqNil] at hg; omega) | (simp only [List.length_append, List.length_map, List.length_range, List.length_replicate, List.length_take, List.length_drop, List.length_cons, List.length_nil, List.length_set, List.length_reverse]; omega))
      apply hK; clear hK K
      -- region 9  law.go:210
      refine awp_rseq [1, 8, 9, 10, 11] (by rfl) fun K hK => ?_
      simp (decide := true) only [aOps_nil, vOps_nil, fOps_nil, kOps_nil, ev, absV, absS, putD, Slots.put, Slots.get, Slots.keep, if_true, if_false, List.contains_cons, List.contains_nil, true_and, and_true, ↓ap_move, pop_move, ↓ap_assign, pop_assign, rd_ne', ne_eq, not_false_eq_true, ne_3q2_0q0, ne_3q2_0q0.symm, ne_4q6_0q0, ne_4q6_0q0.symm, ne_4q6_3q2, ne_4q6_3q2.symm, ne_7q5_0q0, ne_7q5_0q0.symm, ne_7q5_3q2, ne_7q5_3q2.symm, ne_7q5_4q6, ne_7q5_4q6.symm, rd_any, AVal.cells, setAt, List.set_cons_zero, List.set_cons_succ, cellsAt, List.getD_cons_zero, List.getD_cons_succ, Nat.zero_add, Nat.reduceAdd, lv_bool, lv_int, lv_str, lv_nilPtr, lv_ptr, lv_nilSlice, lv_slice, lv_nilFunc, lv_func, lv_nilIface, lv_iface, lv_nilMap, lv_agg, lv_tuple, allLive, Bool.and_true, decA, hlv]
      repeat (with_reducible refine And.intro ?_ ?_; · first | trivial | omega | (intro hg; simp only [Bool.and_eq_true, Bool.or_eq_true, Bool.not_eq_true', Bool.and_eq_false_iff, Bool.or_eq_false_iff, Bool.not_eq_false', decide_eq_true_eq, decide_eq_false_iff_not, eqNil] at hg; omega) | (simp only [List.length_append, List.length_map, List.length_range, List.length_replicate, List.length_take, List.length_drop, List.length_cons, List.length_nil, List.length_set, List.length_reverse]; omega))
      apply hK; clear hK K
      refine awp_seq ?_
      -- region 10  law.go:211
      refine awp_rseq [1, 8, 9, 10, 11, 63] (by rfl) fun K hK => ?_
      simp (decide := true) only [aOps_nil, vOps_nil, fOps_nil, kOps_nil, ev, absV, absS, putD, Slots.put, Slots.get, Slots.keep, if_true, if_false, List.contains_cons, List.contains_nil, true_and, and_true, ↓ap_move, pop_move, ↓ag_move, agP, agQ_some, gv, nthDst, gKnown_bool, gKnown_cond, guardB_cond, guardB_bool_true, guardB_bool_false, cv_cv, implies_true, Bool.not_not, decide_true, decide_false, Bool.not_false, Bool.not_true, condV_true, condV_false, forall_const, false_implies, pickV_true, pickV_false, Bool.and_true, Bool.and_false, Bool.true_and, Bool.false_and, Bool.or_true, Bool.or_false, Bool.true_or, Bool.false_or, ↓ag_binOp, pop_binOp, isNilC_str, cond_false, cv_binl, cv_binr, cp_binl, cp_binr, pBinX_str, pS_neq, ↓ag_index, pop_index, pIndex_str Tryz.underlying9, cv_indexl, cv_indexr, cp_indexl, cp_indexr, isNilC_int, pBinX_int, pI_eql, ↓ag_pick, pop_pick, pPick_bool, pickV_cond_l, pickV_cond_r, pickV_cond_rn, cp_nest1, cp_nest2, cp_nest3, cp_nest4, pickV_and, pickV_or, cv_pick, cp_pick, ↓ap_pick, rd_ne', ne_eq, not_false_eq_true, ne_3q2_0q0, ne_3q2_0q0.symm, ne_4q6_0q0, ne_4q6_0q0.symm, ne_4q6_3q2, ne_4q6_3q2.symm, ne_7q5_0q0, ne_7q5_0q0.symm, ne_7q5_3q2, ne_7q5_3q2.symm, ne_7q5_4q6, ne_7q5_4q6.symm, rd_any, AVal.cells, setAt, List.set_cons_zero, List.set_cons_succ, cellsAt, List.getD_cons_zero, List.getD_cons_succ, Nat.zero_add, Nat.reduceAdd, lv_bool, lv_int, lv_str, lv_nilPtr, lv_ptr, lv_nilSlice, lv_slice, lv_nilFunc, lv_func, lv_nilIface, lv_iface, lv_nilMap, lv_agg, lv_tuple, allLive, Bool.and_true, decA, hlv]
      repeat (with_reducible refine And.intro ?_ ?_; · first | trivial | omega | (intro hg; simp only [Bool.and_eq_true, Bool.or_eq_true, Bool.not_eq_true', Bool.and_eq_false_iff, Bool.or_eq_false_iff, Bool.not_eq_false', decide_eq_true_eq, decide_eq_false_iff_not, eqNil] at hg; omega) | (simp only [List.length_append, List.length_map, List.length_range, List.length_replicate, List.length_take, List.length_drop, List.length_cons, List.length_nil, List.length_set, List.length_reverse]; omega))
      apply hK; clear hK K
      refine awp_joinT [8, 9, 10, 11] (fun r : List UInt8 => [(8, .ptr (.own k7q5) 0), (9, .int .i64 e), (10, .bool ng), (11, .str r)]) (fun r : List UInt8 => (((h.set k0q0 ⟨[.bool neg, v, .int .u8 sc.toNat], 0⟩).set k3q2 ⟨[.bool d.neg, .str d.dig, .int .i64 d.scale], 0⟩).set k4q6 ⟨[.bool d.neg, .str d.dig, .int .i64 d.scale], 0⟩).set k7q5 ⟨[.bool p.neg, .str p.dig, .int .i64 p.scale], 0⟩) (fun r : List UInt8 => r = if [45].isPrefixOf s = true then Lib.trimPrefix s [45] else Lib.trimPrefix s [43]) ?_ ?_
      · refine awp_cond (b := _) rfl (fun hb3 => ?_) (fun hb3 => ?_)
        · try simp only [decide_eq_true_eq, decide_eq_false_iff_not, Bool.not_eq_true', Bool.not_eq_false', Bool.and_eq_true, Bool.and_eq_false_iff, Bool.or_eq_true, Bool.or_eq_false_iff, Bool.true_eq, Bool.false_eq, reduceCtorEq] at hb3
          -- region 11  law.go:212
          refine awp_r [8, 9, 10, 11] (by rfl) ?_
          simp (decide := true) only [aOps_nil, vOps_nil, fOps_nil, kOps_nil, ev, absV, absS, putD, Slots.put, Slots.get, Slots.keep, if_true, if_false, List.contains_cons, List.contains_nil, true_and, and_true, ↓ap_move, pop_move, ↓ap_slice, pop_slice, evO, pSliceS_00 Tryz.underlying9, pSliceS_0i Tryz.underlying9, pSliceS_i0 Tryz.underlying9, pSliceS_ii Tryz.underlying9, pSliceS, bndA_none, bndA_int, ↓ap_assign, pop_assign, rd_ne', ne_eq, not_false_eq_true, ne_3q2_0q0, ne_3q2_0q0.symm, ne_4q6_0q0, ne_4q6_0q0.symm, ne_4q6_3q2, ne_4q6_3q2.symm, ne_7q5_0q0, ne_7q5_0q0.symm, ne_7q5_3q2, ne_7q5_3q2.symm, ne_7q5_4q6, ne_7q5_4q6.symm, rd_any, AVal.cells, setAt, List.set_cons_zero, List.set_cons_succ, cellsAt, List.getD_cons_zero, List.getD_cons_succ, Nat.zero_add, Nat.reduceAdd, lv_bool, lv_int, lv_str, lv_nilPtr, lv_ptr, lv_nilSlice, lv_slice, lv_nilFunc, lv_func, lv_nilIface, lv_iface, lv_nilMap, lv_agg, lv_tuple, allLive, Bool.and_true, decA, hlv]
          repeat (with_reducible refine And.intro ?_ ?_; · first | trivial | omega | (intro hg; simp only [Bool.and_eq_true, Bool.or_eq_true, Bool.not_eq_true', Bool.and_eq_false_iff, Bool.or_eq_false_iff, Bool.not_eq_false', decide_eq_true_eq, decide_eq_false_iff_not, eqNil] at hg; omega) | (simp only [List.length_append, List.length_map, List.length_range, List.length_replicate, List.length_take, List.length_drop, List.length_cons, List.length_nil, List.length_set, List.length_reverse]; omega))
          try simp only [thenA_normal, inBlockA_normal]
          first
          | (have hs0 : s.length ≠ 0 := by
               intro q
               have q2 := List.length_eq_zero_iff.1 q
               simp [q2] at hb3
             have hb3' : ([45].isPrefixOf s || [43].isPrefixOf s) = true := by
               rw [← isP_eq, ← isP_eq]
               simp only [Bool.or_eq_true, Bool.and_eq_true, Bool.not_eq_true', decide_eq_true_eq, decide_eq_false_iff_not]
               exact hb3
             refine ⟨⟨by omega, by omega⟩, s.drop 1, ?_, Sub.refl _, by rw [← rest_eq, if_pos hb3']⟩
             rw [e45, Int.toNat_natCast, show Int.toNat 1 = 1 from rfl, List.take_of_length_le (by rw [List.length_drop]; omega)]
             rfl)
          | (have hb3' : ([45].isPrefixOf s || [43].isPrefixOf s) = false := by
               rw [← isP_eq, ← isP_eq]
               simp only [Bool.or_eq_false_iff, Bool.and_eq_false_iff, Bool.not_eq_false', decide_eq_true_eq, decide_eq_false_iff_not]
               exact hb3
             exact ⟨s, by rw [e45]; rfl, Sub.refl _, by rw [← rest_eq, hb3']; rfl⟩)
        · try simp only [decide_eq_true_eq, decide_eq_false_iff_not, Bool.not_eq_true', Bool.not_eq_false', Bool.and_eq_true, Bool.and_eq_false_iff, Bool.or_eq_true, Bool.or_eq_false_iff, Bool.true_eq, Bool.false_eq, reduceCtorEq] at hb3
          refine awp_skip ?_
          try simp only [thenA_normal, inBlockA_normal]
          first
          | (have hs0 : s.length ≠ 0 := by
               intro q
               have q2 := List.length_eq_zero_iff.1 q
               simp [q2] at hb3
             have hb3' : ([45].isPrefixOf s || [43].isPrefixOf s) = true := by
               rw [← isP_eq, ← isP_eq]
               simp only [Bool.or_eq_true, Bool.and_eq_true, Bool.not_eq_true', decide_eq_true_eq, decide_eq_false_iff_not]
               exact hb3
             refine ⟨⟨by omega, by omega⟩, s.drop 1, ?_, Sub.refl _, by rw [← rest_eq, if_pos hb3']⟩
             rw [e45, Int.toNat_natCast, show Int.toNat 1 = 1 from rfl, List.take_of_length_le (by rw [List.length_drop]; omega)]
             rfl)
          | (have hb3' : ([45].isPrefixOf s || [43].isPrefixOf s) = false := by
               rw [← isP_eq, ← isP_eq]
               simp only [Bool.or_eq_false_iff, Bool.and_eq_false_iff, Bool.not_eq_false', decide_eq_true_eq, decide_eq_false_iff_not]
               exact hb3
             exact ⟨s, by rw [e45]; rfl, Sub.refl _, by rw [← rest_eq, hb3']; rfl⟩)
      · rintro r hr
        have hrl : r.length ≤ 200 := by rw [hr]; split <;> exact Nat.le_trans (trimPrefix_len _ _) hs2
        -- region 12  law.go:214
        refine awp_rseq [8, 9, 10, 11, 12] (by rfl) fun K hK => ?_
        simp (decide := true) only [aOps_nil, vOps_nil, fOps_nil, kOps_nil, ev, absV, absS, putD, Slots.put, Slots.get, Slots.keep, if_true, if_false, List.contains_cons, List.contains_nil, true_and, and_true, ↓ap_assign, pop_assign, rd_ne', ne_eq, not_false_eq_true, ne_3q2_0q0, ne_3q2_0q0.symm, ne_4q6_0q0, ne_4q6_0q0.symm, ne_4q6_3q2, ne_4q6_3q2.symm, ne_7q5_0q0, ne_7q5_0q0.symm, ne_7q5_3q2, ne_7q5_3q2.symm, ne_7q5_4q6, ne_7q5_4q6.symm, rd_any, AVal.cells, setAt, List.set_cons_zero, List.set_cons_succ, cellsAt, List.getD_cons_zero, List.getD_cons_succ, Nat.zero_add, Nat.reduceAdd, lv_bool, lv_int, lv_str, lv_nilPtr, lv_ptr, lv_nilSlice, lv_slice, lv_nilFunc, lv_func, lv_nilIface, lv_iface, lv_nilMap, lv_agg, lv_tuple, allLive, Bool.and_true, decA, hlv]
        repeat (with_reducible refine And.intro ?_ ?_; · first | trivial | omega | (intro hg; simp only [Bool.and_eq_true, Bool.or_eq_true, Bool.not_eq_true', Bool.and_eq_false_iff, Bool.or_eq_false_iff, Bool.not_eq_false', decide_eq_true_eq, decide_eq_false_iff_not, eqNil] at hg; omega) | (simp only [List.length_append, List.length_map, List.length_range, List.length_replicate, List.length_take, List.length_drop, List.length_cons, List.length_nil, List.length_set, List.length_reverse]; omega))
        apply hK; clear hK K
        -- region 13  law.go:215
        refine awp_rseq [8, 9, 10, 11, 12, 13] (by rfl) fun K hK => ?_
        simp (decide := true) only [aOps_nil, vOps_nil, fOps_nil, kOps_nil, ev, absV, absS, putD, Slots.put, Slots.get, Slots.keep, if_true, if_false, List.contains_cons, List.contains_nil, true_and, and_true, ↓ap_assign, pop_assign, rd_ne', ne_eq, not_false_eq_true, ne_3q2_0q0, ne_3q2_0q0.symm, ne_4q6_0q0, ne_4q6_0q0.symm, ne_4q6_3q2, ne_4q6_3q2.symm, ne_7q5_0q0, ne_7q5_0q0.symm, ne_7q5_3q2, ne_7q5_3q2.symm, ne_7q5_4q6, ne_7q5_4q6.symm, rd_any, AVal.cells, setAt, List.set_cons_zero, List.set_cons_succ, cellsAt, List.getD_cons_zero, List.getD_cons_succ, Nat.zero_add, Nat.reduceAdd, lv_bool, lv_int, lv_str, lv_nilPtr, lv_ptr, lv_nilSlice, lv_slice, lv_nilFunc, lv_func, lv_nilIface, lv_iface, lv_nilMap, lv_agg, lv_tuple, allLive, Bool.and_true, decA, hlv]
        repeat (with_reducible refine And.intro ?_ ?_; · first | trivial | omega | (intro hg; simp only [Bool.and_eq_true, Bool.or_eq_true, Bool.not_eq_true', Bool.and_eq_false_iff, Bool.or_eq_false_iff, Bool.not_eq_false', decide_eq_true_eq, decide_eq_false_iff_not, eqNil] at hg; omega) | (simp only [List.length_append, List.length_map, List.length_range, List.length_replicate, List.length_take, List.length_drop, List.length_cons, List.length_nil, List.length_set, List.length_reverse]; omega))
        apply hK; clear hK K
        refine awp_seq ?_
        -- region 14  law.go:216
        refine awp_rseq [8, 9, 10, 11, 12, 13, 14] (by rfl) fun K hK => ?_
        simp (decide := true) only [aOps_nil, vOps_nil, fOps_nil, kOps_nil, ev, absV, absS, putD, Slots.put, Slots.get, Slots.keep, if_true, if_false, List.contains_cons, List.contains_nil, true_and, and_true, ↓ap_assign, pop_assign, rd_ne', ne_eq, not_false_eq_true, ne_3q2_0q0, ne_3q2_0q0.symm, ne_4q6_0q0, ne_4q6_0q0.symm, ne_4q6_3q2, ne_4q6_3q2.symm, ne_7q5_0q0, ne_7q5_0q0.symm, ne_7q5_3q2, ne_7q5_3q2.symm, ne_7q5_4q6, ne_7q5_4q6.symm, rd_any, AVal.cells, setAt, List.set_cons_zero, List.set_cons_succ, cellsAt, List.getD_cons_zero, List.getD_cons_succ, Nat.zero_add, Nat.reduceAdd, lv_bool, lv_int, lv_str, lv_nilPtr, lv_ptr, lv_nilSlice, lv_slice, lv_nilFunc, lv_func, lv_nilIface, lv_iface, lv_nilMap, lv_agg, lv_tuple, allLive, Bool.and_true, decA, hlv]
        repeat (with_reducible refine And.intro ?_ ?_; · first | trivial | omega | (intro hg; simp only [Bool.and_eq_true, Bool.or_eq_true, Bool.not_eq_true', Bool.and_eq_false_iff, Bool.or_eq_false_iff, Bool.not_eq_false', decide_eq_true_eq, decide_eq_false_iff_not, eqNil] at hg; omega) | (simp only [List.length_append, List.length_map, List.length_range, List.length_replicate, List.length_take, List.length_drop, List.length_cons, List.length_nil, List.length_set, List.length_reverse]; omega))
        apply hK; clear hK K
        refine awp_block ?_
        refine awp_loopG [8, 9, 10, 11, 12, 13, 14] (fun g : Nat × List UInt8 × Int => [(8, .ptr (.own k7q5) 0), (9, .int .i64 e), (10, .bool ng), (11, .str r), (12, .str g.2.1), (13, .int .i64 g.2.2), (14, .int .i64 g.1)]) (fun g : Nat × List UInt8 × Int => (((h.set k0q0 ⟨[.bool neg, v, .int .u8 sc.toNat], 0⟩).set k3q2 ⟨[.bool d.neg, .str d.dig, .int .i64 d.scale], 0⟩).set k4q6 ⟨[.bool d.neg, .str d.dig, .int .i64 d.scale], 0⟩).set k7q5 ⟨[.bool p.neg, .str p.dig, .int .i64 p.scale], 0⟩) (fun g : Nat × List UInt8 × Int => g.1 ≤ r.length ∧ PtI r g.1 g.2.1 g.2.2) (fun g : Nat × List UInt8 × Int => r.length - g.1) (0, [], -1) (by rfl) (Sub.refl _) ⟨Nat.zero_le _, pt_zero r⟩ ?_
        rintro ⟨i, digs, pt⟩ ⟨hi, hp⟩
        simp only at hi hp ⊢
        obtain ⟨pa1, pa2, pa3, pa4⟩ := hp.all
        refine awp_seq ?_
        -- region 15  law.go:216
        refine awp_rseq [8, 9, 10, 11, 12, 13, 14, 69] (by rfl) fun K hK => ?_
        simp (decide := true) only [aOps_nil, vOps_nil, fOps_nil, kOps_nil, ev, absV, absS, putD, Slots.put, Slots.get, Slots.keep, if_true, if_false, List.contains_cons, List.contains_nil, true_and, and_true, ↓ap_move, pop_move, ↓ap_len, pop_len, pLen_str Tryz.underlying9, ↓ap_binOp, pop_binOp, isNilC_tmp, cond_false, pBinX_int, pI_lss, rd_ne', ne_eq, not_false_eq_true, ne_3q2_0q0, ne_3q2_0q0.symm, ne_4q6_0q0, ne_4q6_0q0.symm, ne_4q6_3q2, ne_4q6_3q2.symm, ne_7q5_0q0, ne_7q5_0q0.symm, ne_7q5_3q2, ne_7q5_3q2.symm, ne_7q5_4q6, ne_7q5_4q6.symm, rd_any, AVal.cells, setAt, List.set_cons_zero, List.set_cons_succ, cellsAt, List.getD_cons_zero, List.getD_cons_succ, Nat.zero_add, Nat.reduceAdd, lv_bool, lv_int, lv_str, lv_nilPtr, lv_ptr, lv_nilSlice, lv_slice, lv_nilFunc, lv_func, lv_nilIface, lv_iface, lv_nilMap, lv_agg, lv_tuple, allLive, Bool.and_true, decA, hlv]
        repeat (with_reducible refine And.intro ?_ ?_; · first | trivial | omega | (intro hg; simp only [Bool.and_eq_true, Bool.or_eq_true, Bool.not_eq_true', Bool.and_eq_false_iff, Bool.or_eq_false_iff, Bool.not_eq_false', decide_eq_true_eq, decide_eq_false_iff_not, eqNil] at hg; omega) | (simp only [List.length_append, List.length_map, List.length_range, List.length_replicate, List.length_take, List.length_drop, List.length_cons, List.length_nil, List.length_set, List.length_reverse]; omega))
        apply hK; clear hK K
        refine awp_cond (b := _) rfl (fun hb4 => ?_) (fun hb4 => ?_)
        · try simp only [decide_eq_true_eq, decide_eq_false_iff_not, Bool.not_eq_true', Bool.not_eq_false', Bool.and_eq_true, Bool.and_eq_false_iff, Bool.or_eq_true, Bool.or_eq_false_iff, Bool.true_eq, Bool.false_eq, reduceCtorEq] at hb4
          refine awp_skip ?_
          change Awp _ _ _ _ _ _ _
          refine awp_seq ?_
          refine awp_block ?_
          refine awp_block ?_
          -- region 18  law.go:218
          refine awp_rseq [8, 9, 10, 11, 12, 13, 14, 82] (by rfl) fun K hK => ?_
          simp (decide := true) only [aOps_nil, vOps_nil, fOps_nil, kOps_nil, ev, absV, absS, putD, Slots.put, Slots.get, Slots.keep, if_true, if_false, List.contains_cons, List.contains_nil, true_and, and_true, ↓ap_move, pop_move, ↓ap_index, pop_index, pIndex_str Tryz.underlying9, ↓ap_binOp, pop_binOp, isNilC_int, cond_false, pBinX_int, pI_geq, ↓ag_move, agP, agQ_some, gv, nthDst, gKnown_bool, gKnown_cond, guardB_cond, guardB_bool_true, guardB_bool_false, cv_cv, implies_true, Bool.not_not, decide_true, decide_false, Bool.not_false, Bool.not_true, condV_true, condV_false, forall_const, false_implies, pickV_true, pickV_false, Bool.and_true, Bool.and_false, Bool.true_and, Bool.false_and, Bool.or_true, Bool.or_false, Bool.true_or, Bool.false_or, ↓ag_index, cv_indexl, cv_indexr, cp_indexl, cp_indexr, ↓ag_binOp, cv_binl, cv_binr, cp_binl, cp_binr, pI_leq, ↓ap_pick, pop_pick, pPick_bool, pickV_cond_l, pickV_cond_r, pickV_cond_rn, cp_nest1, cp_nest2, cp_nest3, cp_nest4, pickV_and, pickV_or, ↓ap_assign, pop_assign, rd_ne', ne_eq, not_false_eq_true, ne_3q2_0q0, ne_3q2_0q0.symm, ne_4q6_0q0, ne_4q6_0q0.symm, ne_4q6_3q2, ne_4q6_3q2.symm, ne_7q5_0q0, ne_7q5_0q0.symm, ne_7q5_3q2, ne_7q5_3q2.symm, ne_7q5_4q6, ne_7q5_4q6.symm, rd_any, AVal.cells, setAt, List.set_cons_zero, List.set_cons_succ, cellsAt, List.getD_cons_zero, List.getD_cons_succ, Nat.zero_add, Nat.reduceAdd, lv_bool, lv_int, lv_str, lv_nilPtr, lv_ptr, lv_nilSlice, lv_slice, lv_nilFunc, lv_func, lv_nilIface, lv_iface, lv_nilMap, lv_agg, lv_tuple, allLive, Bool.and_true, decA, hlv]
          repeat (with_reducible refine And.intro ?_ ?_; · first | trivial | omega | (intro hg; simp only [Bool.and_eq_true, Bool.or_eq_true, Bool.not_eq_true', Bool.and_eq_false_iff, Bool.or_eq_false_iff, Bool.not_eq_false', decide_eq_true_eq, decide_eq_false_iff_not, eqNil] at hg; omega) | (simp only [List.length_append, List.length_map, List.length_range, List.length_replicate, List.length_take, List.length_drop, List.length_cons, List.length_nil, List.length_set, List.length_reverse]; omega))
          apply hK; clear hK K
          refine awp_cond (b := _) rfl (fun hb5 => ?_) (fun hb5 => ?_)
          · try simp only [decide_eq_true_eq, decide_eq_false_iff_not, Bool.not_eq_true', Bool.not_eq_false', Bool.and_eq_true, Bool.and_eq_false_iff, Bool.or_eq_true, Bool.or_eq_false_iff, Bool.true_eq, Bool.false_eq, reduceCtorEq] at hb5
            -- region 19  law.go:219
            refine awp_r [8, 9, 10, 11, 12, 13, 14] (by rfl) ?_
            simp (decide := true) only [aOps_nil, vOps_nil, fOps_nil, kOps_nil, ev, absV, absS, putD, Slots.put, Slots.get, Slots.keep, if_true, if_false, List.contains_cons, List.contains_nil, true_and, and_true, ↓ap_move, pop_move, ↓ap_binOp, pop_binOp, isNilC_int, cond_false, pBinX_int, pI_add, rd_ne', ne_eq, not_false_eq_true, ne_3q2_0q0, ne_3q2_0q0.symm, ne_4q6_0q0, ne_4q6_0q0.symm, ne_4q6_3q2, ne_4q6_3q2.symm, ne_7q5_0q0, ne_7q5_0q0.symm, ne_7q5_3q2, ne_7q5_3q2.symm, ne_7q5_4q6, ne_7q5_4q6.symm, rd_any, AVal.cells, setAt, List.set_cons_zero, List.set_cons_succ, cellsAt, List.getD_cons_zero, List.getD_cons_succ, Nat.zero_add, Nat.reduceAdd, lv_bool, lv_int, lv_str, lv_nilPtr, lv_ptr, lv_nilSlice, lv_slice, lv_nilFunc, lv_func, lv_nilIface, lv_iface, lv_nilMap, lv_agg, lv_tuple, allLive, Bool.and_true, decA, hlv]
            try simp (disch := omega) only [wrap_i64, wrap_u8]
            try simp (decide := true) only [aOps_nil, vOps_nil, fOps_nil, kOps_nil, ev, absV, absS, putD, Slots.put, Slots.get, Slots.keep, if_true, if_false, List.contains_cons, List.contains_nil, true_and, and_true, ↓ap_slice, pop_slice, evO, pSliceS_00 Tryz.underlying9, pSliceS_0i Tryz.underlying9, pSliceS_i0 Tryz.underlying9, pSliceS_ii Tryz.underlying9, pSliceS, bndA_none, bndA_int, ↓ap_binOp, pop_binOp, isNilC_tmp, cond_false, pBinX_str, pS_add, ↓ap_assign, pop_assign, rd_ne', ne_eq, not_false_eq_true, ne_3q2_0q0, ne_3q2_0q0.symm, ne_4q6_0q0, ne_4q6_0q0.symm, ne_4q6_3q2, ne_4q6_3q2.symm, ne_7q5_0q0, ne_7q5_0q0.symm, ne_7q5_3q2, ne_7q5_3q2.symm, ne_7q5_4q6, ne_7q5_4q6.symm, rd_any, AVal.cells, setAt, List.set_cons_zero, List.set_cons_succ, cellsAt, List.getD_cons_zero, List.getD_cons_succ, Nat.zero_add, Nat.reduceAdd, lv_bool, lv_int, lv_str, lv_nilPtr, lv_ptr, lv_nilSlice, lv_slice, lv_nilFunc, lv_func, lv_nilIface, lv_iface, lv_nilMap, lv_agg, lv_tuple, allLive, Bool.and_true, decA, hlv]
            repeat (with_reducible refine And.intro ?_ ?_; · first | trivial | omega | (intro hg; simp only [Bool.and_eq_true, Bool.or_eq_true, Bool.not_eq_true', Bool.and_eq_false_iff, Bool.or_eq_false_iff, Bool.not_eq_false', decide_eq_true_eq, decide_eq_false_iff_not, eqNil] at hg; omega) | (simp only [List.length_append, List.length_map, List.length_range, List.length_replicate, List.length_take, List.length_drop, List.length_cons, List.length_nil, List.length_set, List.length_reverse]; omega))
            change Awp _ _ _ _ _ _ _
            -- region 16  law.go:216
            refine awp_r [8, 9, 10, 11, 12, 13, 14] (by rfl) ?_
            simp (decide := true) only [aOps_nil, vOps_nil, fOps_nil, kOps_nil, ev, absV, absS, putD, Slots.put, Slots.get, Slots.keep, if_true, if_false, List.contains_cons, List.contains_nil, true_and, and_true, ↓ap_move, pop_move, ↓ap_binOp, pop_binOp, isNilC_int, cond_false, pBinX_int, pI_add, ↓ap_assign, pop_assign, rd_ne', ne_eq, not_false_eq_true, ne_3q2_0q0, ne_3q2_0q0.symm, ne_4q6_0q0, ne_4q6_0q0.symm, ne_4q6_3q2, ne_4q6_3q2.symm, ne_7q5_0q0, ne_7q5_0q0.symm, ne_7q5_3q2, ne_7q5_3q2.symm, ne_7q5_4q6, ne_7q5_4q6.symm, rd_any, AVal.cells, setAt, List.set_cons_zero, List.set_cons_succ, cellsAt, List.getD_cons_zero, List.getD_cons_succ, Nat.zero_add, Nat.reduceAdd, lv_bool, lv_int, lv_str, lv_nilPtr, lv_ptr, lv_nilSlice, lv_slice, lv_nilFunc, lv_func, lv_nilIface, lv_iface, lv_nilMap, lv_agg, lv_tuple, allLive, Bool.and_true, decA, hlv]
            try simp (disch := omega) only [wrap_i64, wrap_u8]
            repeat (with_reducible refine And.intro ?_ ?_; · first | trivial | omega | (intro hg; simp only [Bool.and_eq_true, Bool.or_eq_true, Bool.not_eq_true', Bool.and_eq_false_iff, Bool.or_eq_false_iff, Bool.not_eq_false', decide_eq_true_eq, decide_eq_false_iff_not, eqNil] at hg; omega) | (simp only [List.length_append, List.length_map, List.length_range, List.length_replicate, List.length_take, List.length_drop, List.length_cons, List.length_nil, List.length_set, List.length_reverse]; omega))
            try simp only [thenA_normal, inBlockA_normal]
            first
            | (have hd : dg (r.getD i 0) = true := by
                 rw [← dg_two, Bool.and_eq_true, decide_eq_true_eq, decide_eq_true_eq]
                 rw [Int.toNat_natCast] at hb5
                 exact hb5
               refine ⟨(i + 1, digs ++ [r.getD i 0], pt), ?_, Sub.refl _, ⟨by simp only; omega, hp.digit (by omega) hd⟩, by simp only; omega⟩
               rw [Int.toNat_natCast, show ((i : Int) + 1).toNat = i + 1 by omega, show i + 1 - i = 1 by omega, take1_at (by omega)]
               rfl)
            | (have h46 : r.getD i 0 = 46 := by
                 rw [Int.toNat_natCast] at hb6
                 have q := hb6.1.1
                 refine UInt8.toNat_inj.1 ?_
                 show _ = 46
                 omega
               exact ⟨(i + 1, digs, digs.length), by rfl, Sub.refl _, ⟨by simp only; omega, hp.point hb6.1.2 h46 (by omega)⟩, by simp only; omega⟩)
          · try simp only [decide_eq_true_eq, decide_eq_false_iff_not, Bool.not_eq_true', Bool.not_eq_false', Bool.and_eq_true, Bool.and_eq_false_iff, Bool.or_eq_true, Bool.or_eq_false_iff, Bool.true_eq, Bool.false_eq, reduceCtorEq] at hb5
            -- region 20  law.go:220
            refine awp_rseq [8, 9, 10, 11, 12, 14, 100] (by rfl) fun K hK => ?_
            simp (decide := true) only [aOps_nil, vOps_nil, fOps_nil, kOps_nil, ev, absV, absS, putD, Slots.put, Slots.get, Slots.keep, if_true, if_false, List.contains_cons, List.contains_nil, true_and, and_true, ↓ap_move, pop_move, ↓ap_index, pop_index, pIndex_str Tryz.underlying9, ↓ap_binOp, pop_binOp, isNilC_int, cond_false, pBinX_int, pI_eql, ↓ag_move, agP, agQ_some, gv, nthDst, gKnown_bool, gKnown_cond, guardB_cond, guardB_bool_true, guardB_bool_false, cv_cv, implies_true, Bool.not_not, decide_true, decide_false, Bool.not_false, Bool.not_true, condV_true, condV_false, forall_const, false_implies, pickV_true, pickV_false, Bool.and_true, Bool.and_false, Bool.true_and, Bool.false_and, Bool.or_true, Bool.or_false, Bool.true_or, Bool.false_or, ↓ag_binOp, cv_binl, cv_binr, cp_binl, cp_binr, pI_lss, ↓ap_pick, pop_pick, pPick_bool, pickV_cond_l, pickV_cond_r, pickV_cond_rn, cp_nest1, cp_nest2, cp_nest3, cp_nest4, pickV_and, pickV_or, pI_add, ↓ag_len, pop_len, pLen_str Tryz.underlying9, cv_len, cp_len, isNilC_tmp, ↓ap_assign, pop_assign, rd_ne', ne_eq, not_false_eq_true, ne_3q2_0q0, ne_3q2_0q0.symm, ne_4q6_0q0, ne_4q6_0q0.symm, ne_4q6_3q2, ne_4q6_3q2.symm, ne_7q5_0q0, ne_7q5_0q0.symm, ne_7q5_3q2, ne_7q5_3q2.symm, ne_7q5_4q6, ne_7q5_4q6.symm, rd_any, AVal.cells, setAt, List.set_cons_zero, List.set_cons_succ, cellsAt, List.getD_cons_zero, List.getD_cons_succ, Nat.zero_add, Nat.reduceAdd, lv_bool, lv_int, lv_str, lv_nilPtr, lv_ptr, lv_nilSlice, lv_slice, lv_nilFunc, lv_func, lv_nilIface, lv_iface, lv_nilMap, lv_agg, lv_tuple, allLive, Bool.and_true, decA, hlv]
            try simp (disch := omega) only [wrap_i64, wrap_u8]
            repeat (with_reducible refine And.intro ?_ ?_; · first | trivial | omega | (intro hg; simp only [Bool.and_eq_true, Bool.or_eq_true, Bool.not_eq_true', Bool.and_eq_false_iff, Bool.or_eq_false_iff, Bool.not_eq_false', decide_eq_true_eq, decide_eq_false_iff_not, eqNil] at hg; omega) | (simp only [List.length_append, List.length_map, List.length_range, List.length_replicate, List.length_take, List.length_drop, List.length_cons, List.length_nil, List.length_set, List.length_reverse]; omega))
            apply hK; clear hK K
            refine awp_cond (b := _) rfl (fun hb6 => ?_) (fun hb6 => ?_)
            · try simp only [decide_eq_true_eq, decide_eq_false_iff_not, Bool.not_eq_true', Bool.not_eq_false', Bool.and_eq_true, Bool.and_eq_false_iff, Bool.or_eq_true, Bool.or_eq_false_iff, Bool.true_eq, Bool.false_eq, reduceCtorEq] at hb6
              -- region 21  law.go:221
              refine awp_r [8, 9, 10, 11, 12, 13, 14] (by rfl) ?_
              simp (decide := true) only [aOps_nil, vOps_nil, fOps_nil, kOps_nil, ev, absV, absS, putD, Slots.put, Slots.get, Slots.keep, if_true, if_false, List.contains_cons, List.contains_nil, true_and, and_true, ↓ap_move, pop_move, ↓ap_len, pop_len, pLen_str Tryz.underlying9, ↓ap_assign, pop_assign, rd_ne', ne_eq, not_false_eq_true, ne_3q2_0q0, ne_3q2_0q0.symm, ne_4q6_0q0, ne_4q6_0q0.symm, ne_4q6_3q2, ne_4q6_3q2.symm, ne_7q5_0q0, ne_7q5_0q0.symm, ne_7q5_3q2, ne_7q5_3q2.symm, ne_7q5_4q6, ne_7q5_4q6.symm, rd_any, AVal.cells, setAt, List.set_cons_zero, List.set_cons_succ, cellsAt, List.getD_cons_zero, List.getD_cons_succ, Nat.zero_add, Nat.reduceAdd, lv_bool, lv_int, lv_str, lv_nilPtr, lv_ptr, lv_nilSlice, lv_slice, lv_nilFunc, lv_func, lv_nilIface, lv_iface, lv_nilMap, lv_agg, lv_tuple, allLive, Bool.and_true, decA, hlv]
              repeat (with_reducible refine And.intro ?_ ?_; · first | trivial | omega | (intro hg; simp only [Bool.and_eq_true, Bool.or_eq_true, Bool.not_eq_true', Bool.and_eq_false_iff, Bool.or_eq_false_iff, Bool.not_eq_false', decide_eq_true_eq, decide_eq_false_iff_not, eqNil] at hg; omega) | (simp only [List.length_append, List.length_map, List.length_range, List.length_replicate, List.length_take, List.length_drop, List.length_cons, List.length_nil, List.length_set, List.length_reverse]; omega))
              change Awp _ _ _ _ _ _ _
              -- region 16  law.go:216
              refine awp_r [8, 9, 10, 11, 12, 13, 14] (by rfl) ?_
              simp (decide := true) only [aOps_nil, vOps_nil, fOps_nil, kOps_nil, ev, absV, absS, putD, Slots.put, Slots.get, Slots.keep, if_true, if_false, List.contains_cons, List.contains_nil, true_and, and_true, ↓ap_move, pop_move, ↓ap_binOp, pop_binOp, isNilC_int, cond_false, pBinX_int, pI_add, ↓ap_assign, pop_assign, rd_ne', ne_eq, not_false_eq_true, ne_3q2_0q0, ne_3q2_0q0.symm, ne_4q6_0q0, ne_4q6_0q0.symm, ne_4q6_3q2, ne_4q6_3q2.symm, ne_7q5_0q0, ne_7q5_0q0.symm, ne_7q5_3q2, ne_7q5_3q2.symm, ne_7q5_4q6, ne_7q5_4q6.symm, rd_any, AVal.cells, setAt, List.set_cons_zero, List.set_cons_succ, cellsAt, List.getD_cons_zero, List.getD_cons_succ, Nat.zero_add, Nat.reduceAdd, lv_bool, lv_int, lv_str, lv_nilPtr, lv_ptr, lv_nilSlice, lv_slice, lv_nilFunc, lv_func, lv_nilIface, lv_iface, lv_nilMap, lv_agg, lv_tuple, allLive, Bool.and_true, decA, hlv]
              try simp (disch := omega) only [wrap_i64, wrap_u8]
              repeat (with_reducible refine And.intro ?_ ?_; · first | trivial | omega | (intro hg; simp only [Bool.and_eq_true, Bool.or_eq_true, Bool.not_eq_true', Bool.and_eq_false_iff, Bool.or_eq_false_iff, Bool.not_eq_false', decide_eq_true_eq, decide_eq_false_iff_not, eqNil] at hg; omega) | (simp only [List.length_append, List.length_map, List.length_range, List.length_replicate, List.length_take, List.length_drop, List.length_cons, List.length_nil, List.length_set, List.length_reverse]; omega))
              try simp only [thenA_normal, inBlockA_normal]
              first
              | (have hd : dg (r.getD i 0) = true := by
                   rw [← dg_two, Bool.and_eq_true, decide_eq_true_eq, decide_eq_true_eq]
                   rw [Int.toNat_natCast] at hb5
                   exact hb5
                 refine ⟨(i + 1, digs ++ [r.getD i 0], pt), ?_, Sub.refl _, ⟨by simp only; omega, hp.digit (by omega) hd⟩, by simp only; omega⟩
                 rw [Int.toNat_natCast, show ((i : Int) + 1).toNat = i + 1 by omega, show i + 1 - i = 1 by omega, take1_at (by omega)]
                 rfl)
              | (have h46 : r.getD i 0 = 46 := by
                   rw [Int.toNat_natCast] at hb6
                   have q := hb6.1.1
                   refine UInt8.toNat_inj.1 ?_
                   show _ = 46
                   omega
                 exact ⟨(i + 1, digs, digs.length), by rfl, Sub.refl _, ⟨by simp only; omega, hp.point hb6.1.2 h46 (by omega)⟩, by simp only; omega⟩)
            · try simp only [decide_eq_true_eq, decide_eq_false_iff_not, Bool.not_eq_true', Bool.not_eq_false', Bool.and_eq_true, Bool.and_eq_false_iff, Bool.or_eq_true, Bool.or_eq_false_iff, Bool.true_eq, Bool.false_eq, reduceCtorEq] at hb6
              -- region 17  law.go:223
              refine awp_rseq [4] (by rfl) fun K hK => ?_
              simp (decide := true) only [aOps_nil, vOps_nil, fOps_nil, kOps_nil, ev, absV, absS, putD, Slots.put, Slots.get, Slots.keep, if_true, if_false, List.contains_cons, List.contains_nil, true_and, and_true, ↓ap_move, pop_move, ↓ap_binOp, pop_binOp, isNilC_int, cond_false, pBinX_int, pI_eql, ↓ag_loadL, apL_mk, agQL_some, agL_mk, agL_ld1, agL_ld2, agL_ld3, agL_ld4, agL_ld5, agL_ld6, agP, agQ_some, gv, nthDst, gKnown_bool, gKnown_cond, guardB_cond, guardB_bool_true, guardB_bool_false, cv_cv, implies_true, Bool.not_not, decide_true, decide_false, Bool.not_false, Bool.not_true, condV_true, condV_false, forall_const, false_implies, pickV_true, pickV_false, Bool.and_true, Bool.and_false, Bool.true_and, Bool.false_and, Bool.or_true, Bool.or_false, Bool.true_or, Bool.false_or, pLoad_agg ag27 sz27, cv_load, cp_load, ↓ag_build, pop_build, ↓pop_buildL, bld27_, evP, List.map_cons, List.map_nil, Sc_slice, Sc_nilSlice, Sc_nilPtr, Sc_ptr, Sc_nilFunc, Sc_func, Sc_nilMap, ↓ag_binOp, isNilC_tmp, cv_binl, cv_binr, cp_binl, cp_binr, pBinX_agg, eq27, ↓ap_pick, pop_pick, pPick_bool, pickV_cond_l, pickV_cond_r, pickV_cond_rn, cp_nest1, cp_nest2, cp_nest3, cp_nest4, pickV_and, pickV_or, rd_ne', ne_eq, not_false_eq_true, ne_3q2_0q0, ne_3q2_0q0.symm, ne_4q6_0q0, ne_4q6_0q0.symm, ne_4q6_3q2, ne_4q6_3q2.symm, ne_7q5_0q0, ne_7q5_0q0.symm, ne_7q5_3q2, ne_7q5_3q2.symm, ne_7q5_4q6, ne_7q5_4q6.symm, rd_any, AVal.cells, setAt, List.set_cons_zero, List.set_cons_succ, cellsAt, List.getD_cons_zero, List.getD_cons_succ, Nat.zero_add, Nat.reduceAdd, lv_bool, lv_int, lv_str, lv_nilPtr, lv_ptr, lv_nilSlice, lv_slice, lv_nilFunc, lv_func, lv_nilIface, lv_iface, lv_nilMap, lv_agg, lv_tuple, allLive, Bool.and_true, decA, hlv]
              repeat (with_reducible refine And.intro ?_ ?_; · first | trivial | omega | (intro hg; simp only [Bool.and_eq_true, Bool.or_eq_true, Bool.not_eq_true', Bool.and_eq_false_iff, Bool.or_eq_false_iff, Bool.not_eq_false', decide_eq_true_eq, decide_eq_false_iff_not, eqNil] at hg; omega) | (simp only [List.length_append, List.length_map, List.length_range, List.length_replicate, List.length_take, List.length_drop, List.length_cons, List.length_nil, List.length_set, List.length_reverse]; omega))
              first
              | (refine aOps_yes (by rfl) ?_; refine aOps_callV (V := .bool true) (by rfl) (by rfl) (c_lives12 w₀ ht he _) ?_)
              | (refine aOps_gcall (V := .bool true) (f := _) (cap := _) (xs := _) rfl (fun hg => ⟨rfl, ?_⟩) (fun hg => c_lives12 w₀ ht he _) ?_; · (simp (decide := true) only [gv, nthDst, Slots.get, if_true, if_false, guardB_bool_true, guardB_bool_false, guardB_cond, Bool.not_not] at hg; simp (decide := true) only [evs, ev, Slots.get, if_true, if_false, hg, condV_true, List.append_nil, List.map_cons, List.map_nil, absV, absS] <;> try rfl))
              simp (decide := true) only [aOps_nil, vOps_nil, fOps_nil, kOps_nil, ev, absV, absS, putD, Slots.put, Slots.get, Slots.keep, if_true, if_false, List.contains_cons, List.contains_nil, true_and, and_true, gv, nthDst, guardB_bool_true, guardB_bool_false, guardB_cond, ↓ap_pick, pop_pick, pPick_bool, pickV_cond_l, pickV_cond_r, pickV_cond_rn, cp_nest1, cp_nest2, cp_nest3, cp_nest4, pickV_and, pickV_or, ↓ap_assign, pop_assign, rd_ne', ne_eq, not_false_eq_true, ne_3q2_0q0, ne_3q2_0q0.symm, ne_4q6_0q0, ne_4q6_0q0.symm, ne_4q6_3q2, ne_4q6_3q2.symm, ne_7q5_0q0, ne_7q5_0q0.symm, ne_7q5_3q2, ne_7q5_3q2.symm, ne_7q5_4q6, ne_7q5_4q6.symm, rd_any, AVal.cells, setAt, List.set_cons_zero, List.set_cons_succ, cellsAt, List.getD_cons_zero, List.getD_cons_succ, Nat.zero_add, Nat.reduceAdd, lv_bool, lv_int, lv_str, lv_nilPtr, lv_ptr, lv_nilSlice, lv_slice, lv_nilFunc, lv_func, lv_nilIface, lv_iface, lv_nilMap, lv_agg, lv_tuple, allLive, Bool.and_true, decA, hlv]
              repeat (with_reducible refine And.intro ?_ ?_; · first | trivial | omega | (intro hg; simp only [Bool.and_eq_true, Bool.or_eq_true, Bool.not_eq_true', Bool.and_eq_false_iff, Bool.or_eq_false_iff, Bool.not_eq_false', decide_eq_true_eq, decide_eq_false_iff_not, eqNil] at hg; omega) | (simp only [List.length_append, List.length_map, List.length_range, List.length_replicate, List.length_take, List.length_drop, List.length_cons, List.length_nil, List.length_set, List.length_reverse]; omega))
              apply hK; clear hK K
              refine awp_ret ?_
              try simp only [thenA_ret, inBlockA_ret]
              refine retA_ret h (by repeat (first | exact Sub.refl _ | refine Sub.trans_set ?_ (by assumption))) (resPre_tmp (resPre_nil)) ?_
              simp (decide := true) only [aOps_nil, vOps_nil, fOps_nil, kOps_nil, ev, absV, absS, putD, Slots.put, Slots.get, Slots.keep, if_true, if_false, List.contains_cons, List.contains_nil, true_and, and_true, resOf_one, rd_ne', ne_eq, not_false_eq_true, ne_3q2_0q0, ne_3q2_0q0.symm, ne_4q6_0q0, ne_4q6_0q0.symm, ne_4q6_3q2, ne_4q6_3q2.symm, ne_7q5_0q0, ne_7q5_0q0.symm, ne_7q5_3q2, ne_7q5_3q2.symm, ne_7q5_4q6, ne_7q5_4q6.symm, rd_any, AVal.cells, setAt, List.set_cons_zero, List.set_cons_succ, cellsAt, List.getD_cons_zero, List.getD_cons_succ, Nat.zero_add, Nat.reduceAdd, lv_bool, lv_int, lv_str, lv_nilPtr, lv_ptr, lv_nilSlice, lv_slice, lv_nilFunc, lv_func, lv_nilIface, lv_iface, lv_nilMap, lv_agg, lv_tuple, allLive, Bool.and_true, decA, hlv]
              have hd : dg (r.getD i 0) = false := by
               rw [← dg_two, Bool.and_eq_false_iff, decide_eq_false_iff_not, decide_eq_false_iff_not]
               rw [Int.toNat_natCast] at hb5
               exact hb5
              have hn6 : ¬ ((r.getD i 0 = 46 ∧ pt < 0) ∧ i + 1 < r.length) := by
               rintro ⟨⟨x1, x2⟩, x3⟩
               rw [Int.toNat_natCast, x1] at hb6
               rcases hb6 with (q | q) | q
               · exact q rfl
               · exact q x2
               · omega
              have hbad := parse_bad hs2 hr (hp.bad (by omega) hd hn6)
              rw [hpe] at hbad
              obtain ⟨x1, x2⟩ := Prod.mk.inj hbad
              rw [x1, x2]
              simp [noD]
        · try simp only [decide_eq_true_eq, decide_eq_false_iff_not, Bool.not_eq_true', Bool.not_eq_false', Bool.and_eq_true, Bool.and_eq_false_iff, Bool.or_eq_true, Bool.or_eq_false_iff, Bool.true_eq, Bool.false_eq, reduceCtorEq] at hb4
          have hil : i = r.length := by omega
          rw [hil] at hp
          refine awp_exit ?_
          change Awp _ _ _ _ _ _ _
          refine awp_seq ?_
          -- region 22  law.go:226
          refine awp_rseq [8, 9, 10, 12, 13, 119] (by rfl) fun K hK => ?_
          simp (decide := true) only [aOps_nil, vOps_nil, fOps_nil, kOps_nil, ev, absV, absS, putD, Slots.put, Slots.get, Slots.keep, if_true, if_false, List.contains_cons, List.contains_nil, true_and, and_true, ↓ap_move, pop_move, ↓ap_binOp, pop_binOp, isNilC_str, cond_false, pBinX_str, pS_eql, rd_ne', ne_eq, not_false_eq_true, ne_3q2_0q0, ne_3q2_0q0.symm, ne_4q6_0q0, ne_4q6_0q0.symm, ne_4q6_3q2, ne_4q6_3q2.symm, ne_7q5_0q0, ne_7q5_0q0.symm, ne_7q5_3q2, ne_7q5_3q2.symm, ne_7q5_4q6, ne_7q5_4q6.symm, rd_any, AVal.cells, setAt, List.set_cons_zero, List.set_cons_succ, cellsAt, List.getD_cons_zero, List.getD_cons_succ, Nat.zero_add, Nat.reduceAdd, lv_bool, lv_int, lv_str, lv_nilPtr, lv_ptr, lv_nilSlice, lv_slice, lv_nilFunc, lv_func, lv_nilIface, lv_iface, lv_nilMap, lv_agg, lv_tuple, allLive, Bool.and_true, decA, hlv]
          repeat (with_reducible refine And.intro ?_ ?_; · first | trivial | omega | (intro hg; simp only [Bool.and_eq_true, Bool.or_eq_true, Bool.not_eq_true', Bool.and_eq_false_iff, Bool.or_eq_false_iff, Bool.not_eq_false', decide_eq_true_eq, decide_eq_false_iff_not, eqNil] at hg; omega) | (simp only [List.length_append, List.length_map, List.length_range, List.length_replicate, List.length_take, List.length_drop, List.length_cons, List.length_nil, List.length_set, List.length_reverse]; omega))
          apply hK; clear hK K
          refine awp_cond (b := _) rfl (fun hb7 => ?_) (fun hb7 => ?_)
          · try simp only [decide_eq_true_eq, decide_eq_false_iff_not, Bool.not_eq_true', Bool.not_eq_false', Bool.and_eq_true, Bool.and_eq_false_iff, Bool.or_eq_true, Bool.or_eq_false_iff, Bool.true_eq, Bool.false_eq, reduceCtorEq] at hb7
            -- region 23  law.go:227
            refine awp_rseq [4] (by rfl) fun K hK => ?_
            simp (decide := true) only [aOps_nil, vOps_nil, fOps_nil, kOps_nil, ev, absV, absS, putD, Slots.put, Slots.get, Slots.keep, if_true, if_false, List.contains_cons, List.contains_nil, true_and, and_true, ↓ap_move, pop_move, ↓ap_binOp, pop_binOp, isNilC_int, cond_false, pBinX_int, pI_eql, ↓ag_loadL, apL_mk, agQL_some, agL_mk, agL_ld1, agL_ld2, agL_ld3, agL_ld4, agL_ld5, agL_ld6, agP, agQ_some, gv, nthDst, gKnown_bool, gKnown_cond, guardB_cond, guardB_bool_true, guardB_bool_false, cv_cv, implies_true, Bool.not_not, decide_true, decide_false, Bool.not_false, Bool.not_true, condV_true, condV_false, forall_const, false_implies, pickV_true, pickV_false, Bool.and_true, Bool.and_false, Bool.true_and, Bool.false_and, Bool.or_true, Bool.or_false, Bool.true_or, Bool.false_or, pLoad_agg ag27 sz27, cv_load, cp_load, ↓ag_build, pop_build, ↓pop_buildL, bld27_, evP, List.map_cons, List.map_nil, Sc_slice, Sc_nilSlice, Sc_nilPtr, Sc_ptr, Sc_nilFunc, Sc_func, Sc_nilMap, ↓ag_binOp, isNilC_tmp, cv_binl, cv_binr, cp_binl, cp_binr, pBinX_agg, eq27, ↓ap_pick, pop_pick, pPick_bool, pickV_cond_l, pickV_cond_r, pickV_cond_rn, cp_nest1, cp_nest2, cp_nest3, cp_nest4, pickV_and, pickV_or, rd_ne', ne_eq, not_false_eq_true, ne_3q2_0q0, ne_3q2_0q0.symm, ne_4q6_0q0, ne_4q6_0q0.symm, ne_4q6_3q2, ne_4q6_3q2.symm, ne_7q5_0q0, ne_7q5_0q0.symm, ne_7q5_3q2, ne_7q5_3q2.symm, ne_7q5_4q6, ne_7q5_4q6.symm, rd_any, AVal.cells, setAt, List.set_cons_zero, List.set_cons_succ, cellsAt, List.getD_cons_zero, List.getD_cons_succ, Nat.zero_add, Nat.reduceAdd, lv_bool, lv_int, lv_str, lv_nilPtr, lv_ptr, lv_nilSlice, lv_slice, lv_nilFunc, lv_func, lv_nilIface, lv_iface, lv_nilMap, lv_agg, lv_tuple, allLive, Bool.and_true, decA, hlv]
            repeat (with_reducible refine And.intro ?_ ?_; · first | trivial | omega | (intro hg; simp only [Bool.and_eq_true, Bool.or_eq_true, Bool.not_eq_true', Bool.and_eq_false_iff, Bool.or_eq_false_iff, Bool.not_eq_false', decide_eq_true_eq, decide_eq_false_iff_not, eqNil] at hg; omega) | (simp only [List.length_append, List.length_map, List.length_range, List.length_replicate, List.length_take, List.length_drop, List.length_cons, List.length_nil, List.length_set, List.length_reverse]; omega))
            first
            | (refine aOps_yes (by rfl) ?_; refine aOps_callV (V := .bool true) (by rfl) (by rfl) (c_lives12 w₀ ht he _) ?_)
            | (refine aOps_gcall (V := .bool true) (f := _) (cap := _) (xs := _) rfl (fun hg => ⟨rfl, ?_⟩) (fun hg => c_lives12 w₀ ht he _) ?_; · (simp (decide := true) only [gv, nthDst, Slots.get, if_true, if_false, guardB_bool_true, guardB_bool_false, guardB_cond, Bool.not_not] at hg; simp (decide := true) only [evs, ev, Slots.get, if_true, if_false, hg, condV_true, List.append_nil, List.map_cons, List.map_nil, absV, absS] <;> try rfl))
            simp (decide := true) only [aOps_nil, vOps_nil, fOps_nil, kOps_nil, ev, absV, absS, putD, Slots.put, Slots.get, Slots.keep, if_true, if_false, List.contains_cons, List.contains_nil, true_and, and_true, gv, nthDst, guardB_bool_true, guardB_bool_false, guardB_cond, ↓ap_pick, pop_pick, pPick_bool, pickV_cond_l, pickV_cond_r, pickV_cond_rn, cp_nest1, cp_nest2, cp_nest3, cp_nest4, pickV_and, pickV_or, ↓ap_assign, pop_assign, rd_ne', ne_eq, not_false_eq_true, ne_3q2_0q0, ne_3q2_0q0.symm, ne_4q6_0q0, ne_4q6_0q0.symm, ne_4q6_3q2, ne_4q6_3q2.symm, ne_7q5_0q0, ne_7q5_0q0.symm, ne_7q5_3q2, ne_7q5_3q2.symm, ne_7q5_4q6, ne_7q5_4q6.symm, rd_any, AVal.cells, setAt, List.set_cons_zero, List.set_cons_succ, cellsAt, List.getD_cons_zero, List.getD_cons_succ, Nat.zero_add, Nat.reduceAdd, lv_bool, lv_int, lv_str, lv_nilPtr, lv_ptr, lv_nilSlice, lv_slice, lv_nilFunc, lv_func, lv_nilIface, lv_iface, lv_nilMap, lv_agg, lv_tuple, allLive, Bool.and_true, decA, hlv]
            repeat (with_reducible refine And.intro ?_ ?_; · first | trivial | omega | (intro hg; simp only [Bool.and_eq_true, Bool.or_eq_true, Bool.not_eq_true', Bool.and_eq_false_iff, Bool.or_eq_false_iff, Bool.not_eq_false', decide_eq_true_eq, decide_eq_false_iff_not, eqNil] at hg; omega) | (simp only [List.length_append, List.length_map, List.length_range, List.length_replicate, List.length_take, List.length_drop, List.length_cons, List.length_nil, List.length_set, List.length_reverse]; omega))
            apply hK; clear hK K
            refine awp_ret ?_
            try simp only [thenA_ret, inBlockA_ret]
            refine retA_ret h (by repeat (first | exact Sub.refl _ | refine Sub.trans_set ?_ (by assumption))) (resPre_tmp (resPre_nil)) ?_
            simp (decide := true) only [aOps_nil, vOps_nil, fOps_nil, kOps_nil, ev, absV, absS, putD, Slots.put, Slots.get, Slots.keep, if_true, if_false, List.contains_cons, List.contains_nil, true_and, and_true, resOf_one, rd_ne', ne_eq, not_false_eq_true, ne_3q2_0q0, ne_3q2_0q0.symm, ne_4q6_0q0, ne_4q6_0q0.symm, ne_4q6_3q2, ne_4q6_3q2.symm, ne_7q5_0q0, ne_7q5_0q0.symm, ne_7q5_3q2, ne_7q5_3q2.symm, ne_7q5_4q6, ne_7q5_4q6.symm, rd_any, AVal.cells, setAt, List.set_cons_zero, List.set_cons_succ, cellsAt, List.getD_cons_zero, List.getD_cons_succ, Nat.zero_add, Nat.reduceAdd, lv_bool, lv_int, lv_str, lv_nilPtr, lv_ptr, lv_nilSlice, lv_slice, lv_nilFunc, lv_func, lv_nilIface, lv_iface, lv_nilMap, lv_agg, lv_tuple, allLive, Bool.and_true, decA, hlv]
            have hbad := parse_bad hs2 hr (hp.done.2.1.2 hb7)
            rw [hpe] at hbad
            obtain ⟨x1, x2⟩ := Prod.mk.inj hbad
            rw [x1, x2]
            simp [noD]
          · try simp only [decide_eq_true_eq, decide_eq_false_iff_not, Bool.not_eq_true', Bool.not_eq_false', Bool.and_eq_true, Bool.and_eq_false_iff, Bool.or_eq_true, Bool.or_eq_false_iff, Bool.true_eq, Bool.false_eq, reduceCtorEq] at hb7
            refine awp_skip ?_
            change Awp _ _ _ _ _ _ _
            refine awp_seq ?_
            -- region 24  law.go:229
            refine awp_rseq [8, 9, 10, 12, 13, 131] (by rfl) fun K hK => ?_
            simp (decide := true) only [aOps_nil, vOps_nil, fOps_nil, kOps_nil, ev, absV, absS, putD, Slots.put, Slots.get, Slots.keep, if_true, if_false, List.contains_cons, List.contains_nil, true_and, and_true, ↓ap_move, pop_move, ↓ap_binOp, pop_binOp, isNilC_int, cond_false, pBinX_int, pI_lss, rd_ne', ne_eq, not_false_eq_true, ne_3q2_0q0, ne_3q2_0q0.symm, ne_4q6_0q0, ne_4q6_0q0.symm, ne_4q6_3q2, ne_4q6_3q2.symm, ne_7q5_0q0, ne_7q5_0q0.symm, ne_7q5_3q2, ne_7q5_3q2.symm, ne_7q5_4q6, ne_7q5_4q6.symm, rd_any, AVal.cells, setAt, List.set_cons_zero, List.set_cons_succ, cellsAt, List.getD_cons_zero, List.getD_cons_succ, Nat.zero_add, Nat.reduceAdd, lv_bool, lv_int, lv_str, lv_nilPtr, lv_ptr, lv_nilSlice, lv_slice, lv_nilFunc, lv_func, lv_nilIface, lv_iface, lv_nilMap, lv_agg, lv_tuple, allLive, Bool.and_true, decA, hlv]
            repeat (with_reducible refine And.intro ?_ ?_; · first | trivial | omega | (intro hg; simp only [Bool.and_eq_true, Bool.or_eq_true, Bool.not_eq_true', Bool.and_eq_false_iff, Bool.or_eq_false_iff, Bool.not_eq_false', decide_eq_true_eq, decide_eq_false_iff_not, eqNil] at hg; omega) | (simp only [List.length_append, List.length_map, List.length_range, List.length_replicate, List.length_take, List.length_drop, List.length_cons, List.length_nil, List.length_set, List.length_reverse]; omega))
            apply hK; clear hK K
            refine awp_joinT [8, 9, 10, 12, 13] (fun q : Int => [(8, .ptr (.own k7q5) 0), (9, .int .i64 e), (10, .bool ng), (12, .str digs), (13, .int .i64 q)]) (fun q : Int => (((h.set k0q0 ⟨[.bool neg, v, .int .u8 sc.toNat], 0⟩).set k3q2 ⟨[.bool d.neg, .str d.dig, .int .i64 d.scale], 0⟩).set k4q6 ⟨[.bool d.neg, .str d.dig, .int .i64 d.scale], 0⟩).set k7q5 ⟨[.bool p.neg, .str p.dig, .int .i64 p.scale], 0⟩) (fun q : Int => q = if pt < 0 then (digs.length : Int) else pt) ?_ ?_
            · refine awp_cond (b := _) rfl (fun hb8 => ?_) (fun hb8 => ?_)
              · try simp only [decide_eq_true_eq, decide_eq_false_iff_not, Bool.not_eq_true', Bool.not_eq_false', Bool.and_eq_true, Bool.and_eq_false_iff, Bool.or_eq_true, Bool.or_eq_false_iff, Bool.true_eq, Bool.false_eq, reduceCtorEq] at hb8
                -- region 25  law.go:230
                refine awp_r [8, 9, 10, 12, 13] (by rfl) ?_
                simp (decide := true) only [aOps_nil, vOps_nil, fOps_nil, kOps_nil, ev, absV, absS, putD, Slots.put, Slots.get, Slots.keep, if_true, if_false, List.contains_cons, List.contains_nil, true_and, and_true, ↓ap_move, pop_move, ↓ap_len, pop_len, pLen_str Tryz.underlying9, ↓ap_assign, pop_assign, rd_ne', ne_eq, not_false_eq_true, ne_3q2_0q0, ne_3q2_0q0.symm, ne_4q6_0q0, ne_4q6_0q0.symm, ne_4q6_3q2, ne_4q6_3q2.symm, ne_7q5_0q0, ne_7q5_0q0.symm, ne_7q5_3q2, ne_7q5_3q2.symm, ne_7q5_4q6, ne_7q5_4q6.symm, rd_any, AVal.cells, setAt, List.set_cons_zero, List.set_cons_succ, cellsAt, List.getD_cons_zero, List.getD_cons_succ, Nat.zero_add, Nat.reduceAdd, lv_bool, lv_int, lv_str, lv_nilPtr, lv_ptr, lv_nilSlice, lv_slice, lv_nilFunc, lv_func, lv_nilIface, lv_iface, lv_nilMap, lv_agg, lv_tuple, allLive, Bool.and_true, decA, hlv]
                repeat (with_reducible refine And.intro ?_ ?_; · first | trivial | omega | (intro hg; simp only [Bool.and_eq_true, Bool.or_eq_true, Bool.not_eq_true', Bool.and_eq_false_iff, Bool.or_eq_false_iff, Bool.not_eq_false', decide_eq_true_eq, decide_eq_false_iff_not, eqNil] at hg; omega) | (simp only [List.length_append, List.length_map, List.length_range, List.length_replicate, List.length_take, List.length_drop, List.length_cons, List.length_nil, List.length_set, List.length_reverse]; omega))
                try simp only [thenA_normal, inBlockA_normal]
                first
                | exact ⟨_, rfl, Sub.refl _, by rw [if_pos hb8]⟩
                | exact ⟨_, rfl, Sub.refl _, by rw [if_neg hb8]⟩
              · try simp only [decide_eq_true_eq, decide_eq_false_iff_not, Bool.not_eq_true', Bool.not_eq_false', Bool.and_eq_true, Bool.and_eq_false_iff, Bool.or_eq_true, Bool.or_eq_false_iff, Bool.true_eq, Bool.false_eq, reduceCtorEq] at hb8
                refine awp_skip ?_
                try simp only [thenA_normal, inBlockA_normal]
                first
                | exact ⟨_, rfl, Sub.refl _, by rw [if_pos hb8]⟩
                | exact ⟨_, rfl, Sub.refl _, by rw [if_neg hb8]⟩
            · rintro q hq
              have hpd := parse_done hs2 hr hp (by simpa using hb7)
              have hq1 : 0 ≤ q ∧ q ≤ digs.length := by rw [hq]; split <;> omega
              rw [← hq, hpe, ← hng] at hpd
              -- region 26  law.go:232
              refine awp_dseq_any [4] mixed (by kernel_rfl) (by rfl) fun K hK => ?_
              simp (decide := true) only [aOps_nil, vOps_nil, fOps_nil, kOps_nil, ev, absV, absS, putD, Slots.put, Slots.get, Slots.keep, if_true, if_false, List.contains_cons, List.contains_nil, true_and, and_true, ↓vp_load, pop_load, pLoad_agg ag27 sz27, ↓vp_move, pop_move, ↓vp_len, pop_len, pLen_str Tryz.underlying9, ↓vp_binOp, pop_binOp, isNilC_tmp, cond_false, pBinX_int, pI_sub, rd_ne', ne_eq, not_false_eq_true, ne_3q2_0q0, ne_3q2_0q0.symm, ne_4q6_0q0, ne_4q6_0q0.symm, ne_4q6_3q2, ne_4q6_3q2.symm, ne_7q5_0q0, ne_7q5_0q0.symm, ne_7q5_3q2, ne_7q5_3q2.symm, ne_7q5_4q6, ne_7q5_4q6.symm, rd_any, AVal.cells, setAt, List.set_cons_zero, List.set_cons_succ, cellsAt, List.getD_cons_zero, List.getD_cons_succ, Nat.zero_add, Nat.reduceAdd, lv_bool, lv_int, lv_str, lv_nilPtr, lv_ptr, lv_nilSlice, lv_slice, lv_nilFunc, lv_func, lv_nilIface, lv_iface, lv_nilMap, lv_agg, lv_tuple, allLive, Bool.and_true, decA, hlv]
              try simp (disch := omega) only [wrap_i64, wrap_u8]
              repeat (with_reducible refine And.intro ?_ ?_; · first | trivial | omega | (intro hg; simp only [Bool.and_eq_true, Bool.or_eq_true, Bool.not_eq_true', Bool.and_eq_false_iff, Bool.or_eq_false_iff, Bool.not_eq_false', decide_eq_true_eq, decide_eq_false_iff_not, eqNil] at hg; omega) | (simp only [List.length_append, List.length_map, List.length_range, List.length_replicate, List.length_take, List.length_drop, List.length_cons, List.length_nil, List.length_set, List.length_reverse]; omega))
              refine vOps_callV (V := decA (canon ng (natOf digs) ((digs.length : Int) - q).toNat)) (by rfl) (by rfl) (c_Normal w₀ _ ng digs ((digs.length : Int) - q) pa1 (by omega) (by omega) (by omega)) ?_
              refine vOps_callV (V := .bool true) (by rfl) (by rfl) ((c_is w₀ _ p (canon ng (natOf digs) ((digs.length : Int) - q).toNat) e).val (by rw [decide_eq_true hpd])) ?_
              simp (decide := true) only [aOps_nil, vOps_nil, fOps_nil, kOps_nil, ev, absV, absS, putD, Slots.put, Slots.get, Slots.keep, if_true, if_false, List.contains_cons, List.contains_nil, true_and, and_true, ↓vp_move, pop_move, rd_ne', ne_eq, not_false_eq_true, ne_3q2_0q0, ne_3q2_0q0.symm, ne_4q6_0q0, ne_4q6_0q0.symm, ne_4q6_3q2, ne_4q6_3q2.symm, ne_7q5_0q0, ne_7q5_0q0.symm, ne_7q5_3q2, ne_7q5_3q2.symm, ne_7q5_4q6, ne_7q5_4q6.symm, rd_any, AVal.cells, setAt, List.set_cons_zero, List.set_cons_succ, cellsAt, List.getD_cons_zero, List.getD_cons_succ, Nat.zero_add, Nat.reduceAdd, lv_bool, lv_int, lv_str, lv_nilPtr, lv_ptr, lv_nilSlice, lv_slice, lv_nilFunc, lv_func, lv_nilIface, lv_iface, lv_nilMap, lv_agg, lv_tuple, allLive, Bool.and_true, decA, hlv]
              repeat (with_reducible refine And.intro ?_ ?_; · first | trivial | omega | (intro hg; simp only [Bool.and_eq_true, Bool.or_eq_true, Bool.not_eq_true', Bool.and_eq_false_iff, Bool.or_eq_false_iff, Bool.not_eq_false', decide_eq_true_eq, decide_eq_false_iff_not, eqNil] at hg; omega) | (simp only [List.length_append, List.length_map, List.length_range, List.length_replicate, List.length_take, List.length_drop, List.length_cons, List.length_nil, List.length_set, List.length_reverse]; omega))
              refine vOps_gcall (V := .bool true) (f := _) (cap := _) (xs := _) rfl (fun hg => ⟨rfl, ?_⟩) (fun hg => c_lives12 w₀ ht he _) ?_
              · try simp (decide := true) only [gv, nthDst, Slots.get, if_true, if_false, guardB_bool_true, guardB_bool_false, guardB_cond, Bool.not_not] at hg
                simp (decide := true) only [evs, ev, Slots.get, if_true, if_false, hg, condV_true, List.append_nil, List.map_cons, List.map_nil, absV, absS] <;> try rfl
              simp (decide := true) only [aOps_nil, vOps_nil, fOps_nil, kOps_nil, ev, absV, absS, putD, Slots.put, Slots.get, Slots.keep, if_true, if_false, List.contains_cons, List.contains_nil, true_and, and_true, gv, nthDst, guardB_bool_true, guardB_bool_false, guardB_cond, ↓vp_pick, pop_pick, pPick_bool, pickV_cond_l, pickV_cond_r, pickV_cond_rn, cp_nest1, cp_nest2, cp_nest3, cp_nest4, pickV_and, pickV_or, ↓vp_assign, pop_assign, rd_ne', ne_eq, not_false_eq_true, ne_3q2_0q0, ne_3q2_0q0.symm, ne_4q6_0q0, ne_4q6_0q0.symm, ne_4q6_3q2, ne_4q6_3q2.symm, ne_7q5_0q0, ne_7q5_0q0.symm, ne_7q5_3q2, ne_7q5_3q2.symm, ne_7q5_4q6, ne_7q5_4q6.symm, rd_any, AVal.cells, setAt, List.set_cons_zero, List.set_cons_succ, cellsAt, List.getD_cons_zero, List.getD_cons_succ, Nat.zero_add, Nat.reduceAdd, lv_bool, lv_int, lv_str, lv_nilPtr, lv_ptr, lv_nilSlice, lv_slice, lv_nilFunc, lv_func, lv_nilIface, lv_iface, lv_nilMap, lv_agg, lv_tuple, allLive, Bool.and_true, decA, hlv]
              repeat (with_reducible refine And.intro ?_ ?_; · first | trivial | omega | (intro hg; simp only [Bool.and_eq_true, Bool.or_eq_true, Bool.not_eq_true', Bool.and_eq_false_iff, Bool.or_eq_false_iff, Bool.not_eq_false', decide_eq_true_eq, decide_eq_false_iff_not, eqNil] at hg; omega) | (simp only [List.length_append, List.length_map, List.length_range, List.length_replicate, List.length_take, List.length_drop, List.length_cons, List.length_nil, List.length_set, List.length_reverse]; omega))
              apply hK; clear hK K
              refine awp_ret ?_
              try simp only [thenA_ret, inBlockA_ret]
              refine retA_ret h (by repeat (first | exact Sub.refl _ | refine Sub.trans_set ?_ (by assumption))) (resPre_tmp (resPre_nil)) ?_
              simp (decide := true) only [aOps_nil, vOps_nil, fOps_nil, kOps_nil, ev, absV, absS, putD, Slots.put, Slots.get, Slots.keep, if_true, if_false, List.contains_cons, List.contains_nil, true_and, and_true, resOf_one, rd_ne', ne_eq, not_false_eq_true, ne_3q2_0q0, ne_3q2_0q0.symm, ne_4q6_0q0, ne_4q6_0q0.symm, ne_4q6_3q2, ne_4q6_3q2.symm, ne_7q5_0q0, ne_7q5_0q0.symm, ne_7q5_3q2, ne_7q5_3q2.symm, ne_7q5_4q6, ne_7q5_4q6.symm, rd_any, AVal.cells, setAt, List.set_cons_zero, List.set_cons_succ, cellsAt, List.getD_cons_zero, List.getD_cons_succ, Nat.zero_add, Nat.reduceAdd, lv_bool, lv_int, lv_str, lv_nilPtr, lv_ptr, lv_nilSlice, lv_slice, lv_nilFunc, lv_func, lv_nilIface, lv_iface, lv_nilMap, lv_agg, lv_tuple, allLive, Bool.and_true, decA, hlv]
              all_goals first | rfl | exact ⟨rfl, rfl⟩ | (simp (decide := true) only [if_true, if_false, *]; done) | (trace_state; fail)
end Go.Proofs.YthiiakghjoeikaaGreatDoor
