/-
  Texts of this proof, joined: CoR, TlD, TlE, LwR, LwS.
  Conditions: none.
-/
import Derived.Test.YtmadddihphkmoaaGreatDoorNd
import Derived.Test.YtmadddihphkmoaaGreatDoorNe
import Derived.Test.YtmadddihphkmoaaGreatDoorProg
import Derived.Test.YtmadddihphkmoaaGreatDoorNb
import Derived.WalkKit
import Derived.ProofKit
import Derived.OpenShut
import Derived.ShutString
import Derived.ChangeOld
import Derived.Below
import Derived.Deep.Strs
import Derived.Handed
import Derived.HandedShaped
import Derived.Shelf.Vars
import Derived.Test.YtmadddihphkmoaaGreatDoorNc
import Derived.Test.YtmadddihphkmoaaGreatDoorRows
import Derived.Lib.LaidTab
import Derived.MakeChecks
set_option linter.unusedSimpArgs false
set_option linter.unnecessarySimpa false
set_option linter.unusedVariables false
/-
  Plain law: where the bytes of the cards that Read answers stand in the source text.
  Conditions: none.
-/
namespace Go.Proofs.YtmadddihphkmoaaGreatDoor
open Go.AM
open Go.Proofs
open Go.Col
set_option maxRecDepth 100000

/-- A part of a card: where it begins, its bytes. -/
structure PartC where
  line : Int
  col : Int
  str : Str
def partsText : List PartC → Str
  | [] => []
  | p :: ps => p.str ++ partsText ps
def marksFrom : Nat → List PartC → List MarkC
  | _, [] => []
  | n, p :: ps => ⟨n, p.line, p.col⟩ :: marksFrom (n + p.str.length) ps
def posAt : List PartC → Nat → Int × Int
  | [], _ => (0, 0)
  | [p], i => (p.line, p.col + i)
  | p :: q :: ps, i => if i < p.str.length then (p.line, p.col + i) else posAt (q :: ps) (i - p.str.length)
/-- The byte at a place of the source text, lines padded to 72 columns. -/
def byteAt (L : List Str) (line col : Int) : UInt8 := (padE (L.getD (line.toNat - 1) [])).getD (col.toNat - 1) 0
structure PartOk (L : List Str) (p : PartC) : Prop where
  ne : 0 < p.str.length
  low : 1 ≤ p.line
  high : p.line ≤ L.length
  col : 8 ≤ p.col
  fit : p.col + p.str.length ≤ 73
  byte : ∀ j : Nat, j < p.str.length → p.str.getD j 0 = byteAt L p.line (p.col + j)
def Asc (ps : List PartC) : Prop := ps.Pairwise fun p q => p.line < q.line

theorem getD_l {α : Type} {a b : List α} {d : α} {i : Nat} (h : i < a.length) : (a ++ b).getD i d = a.getD i d := by
  simp only [List.getD, List.getElem?_append_left h]
theorem dropWhile_nil {α : Type} {p : α → Bool} : ∀ {l : List α}, l.dropWhile p = [] → ∀ x ∈ l, p x = true
  | [], _, x, hx => by cases hx
  | y :: l, h, x, hx => by
    rw [List.dropWhile_cons] at h
    split at h
    · rename_i hy
      rcases List.mem_cons.1 hx with rfl | hx
      · exact hy
      · exact dropWhile_nil h x hx
    · cases h
theorem partsText_append (a b : List PartC) : partsText (a ++ b) = partsText a ++ partsText b := by
  induction a with
  | nil => rfl
  | cons p a ih => simp only [List.cons_append, partsText, ih, List.append_assoc]
theorem marksFrom_append : ∀ (a b : List PartC) (n : Nat), marksFrom n (a ++ b) = marksFrom n a ++ marksFrom (n + (partsText a).length) b
  | [], b, n => rfl
  | p :: a, b, n => by
    simp only [List.cons_append, marksFrom, partsText, List.length_append]
    rw [marksFrom_append a b, Nat.add_assoc]
theorem marksFrom_above : ∀ (ps : List PartC) (n : Nat), ∀ m ∈ marksFrom n ps, (n : Int) ≤ m.frm
  | [], n, m, h => by cases h
  | p :: ps, n, m, h => by
    rcases List.mem_cons.1 h with rfl | h
    · exact Int.le_refl _
    · have := marksFrom_above ps _ m h
      omega
theorem atGo_above {i : Int} : ∀ (ms : List MarkC) (p : Int × Int), (∀ m ∈ ms, i < m.frm) → atGo i ms p = p
  | [], p, _ => rfl
  | m :: ms, p, h => by
    rw [atGo, if_neg (by have := h m (by simp); omega)]
    exact atGo_above ms p fun x hx => h x (by simp [hx])
theorem at_parts : ∀ (ps : List PartC) (n i : Nat) (p0 : Int × Int), ps ≠ [] → atGo ((n + i : Nat) : Int) (marksFrom n ps) p0 = posAt ps i
  | [], _, _, _, h => absurd rfl h
  | [p], n, i, p0, _ => by
    show (if ((n : Int)) ≤ ((n + i : Nat) : Int) then (p.line, p.col + ((n + i : Nat) : Int) - (n : Int)) else p0) = (p.line, p.col + (i : Int))
    rw [if_pos (by omega)]
    congr 1
    omega
  | p :: q :: ps, n, i, p0, _ => by
    rw [marksFrom, atGo, if_pos (show ((n : Nat) : Int) ≤ ((n + i : Nat) : Int) by omega), posAt]
    by_cases hi : i < p.str.length
    · rw [if_pos hi, atGo_above _ _ (fun m hm => by have := marksFrom_above _ _ m hm; omega)]
      show (p.line, p.col + ((n + i : Nat) : Int) - (n : Int)) = _
      congr 1
      omega
    · rw [if_neg hi, show n + i = (n + p.str.length) + (i - p.str.length) by omega]
      exact at_parts (q :: ps) (n + p.str.length) (i - p.str.length) _ (by simp)
theorem valid_parts (c : CardC) {L : List Str} : ∀ (ps : List PartC) (n : Nat) (b : Int), b < n → n + (partsText ps).length ≤ c.text.length → (∀ p ∈ ps, PartOk L p) → validC.go c b (marksFrom n ps) = true
  | [], _, _, _, _, _ => rfl
  | p :: ps, n, b, hb, hn, hp => by
    have h := hp p (by simp)
    have h1 := h.ne
    have h2 := h.low
    have h3 := h.col
    have h4 := h.fit
    simp only [partsText, List.length_append] at hn
    rw [marksFrom, validC.go, Bool.and_eq_true]
    refine ⟨decide_eq_true ⟨hb, by simp only; omega, h2, h3, by simp only; omega⟩, ?_⟩
    exact valid_parts c ps _ _ (by simp only; omega) (by omega) fun q hq => hp q (by simp [hq])
/-- A card and its parts. -/
structure CardOk (L : List Str) (c : CardC) (ps : List PartC) : Prop where
  text : c.text = partsText ps
  marks : c.marks = marksFrom 0 ps
  parts : ∀ p ∈ ps, PartOk L p
  asc : Asc ps
theorem CardOk.valid {L : List Str} {c : CardC} {ps : List PartC} (h : CardOk L c ps) (hn : ps ≠ []) : validC c = true := by
  cases ps with
  | nil => exact absurd rfl hn
  | cons p ps =>
    have hm := h.marks
    rw [validC_eq (by rw [hm, marksFrom]; simp)]
    rw [Bool.and_eq_true]
    refine ⟨?_, ?_⟩
    · rw [hm, marksFrom]; rfl
    · rw [hm]; exact valid_parts c (p :: ps) 0 (-1) (by omega) (by rw [h.text]; omega) h.parts
theorem CardOk.at {L : List Str} {c : CardC} {ps : List PartC} (h : CardOk L c ps) (hn : ps ≠ []) {k : Nat} (hk : k ≤ c.text.length) : atE c k = ((posAt ps k).1, (posAt ps k).2, 0) := by
  unfold atE
  rw [if_pos ⟨h.valid hn, by omega, by omega⟩, h.marks]
  have := at_parts ps 0 k (0, 0) hn
  rw [Nat.zero_add] at this
  rw [this]
/-! ### What Read collects -/
theorem addC_ok {L : List Str} {c : CardC} {ps : List PartC} (h : CardOk L c ps) {line col : Int} {text : Str} (hp : ∀ t, t <+: text → 0 < t.length → PartOk L ⟨line, col, t⟩) (ha : ∀ p ∈ ps, p.line < line) :
    ∃ qs, CardOk L (addC c line col text) (ps ++ qs) ∧ (∀ q ∈ qs, q.line = line) ∧ qs.length ≤ 1 ∧ (trimR text ≠ [] → text ≠ [] → qs ≠ []) := by
  obtain ⟨t, ht⟩ : ∃ t, t = if oddQ (c.text ++ text) then text else trimR text := ⟨_, rfl⟩
  have hpre : t <+: text := by
    rw [ht]
    split
    · exact List.prefix_refl _
    · unfold trimR
      exact List.reverse_suffix.1 (by rw [List.reverse_reverse]; exact List.dropWhile_suffix _)
  have hc : addC c line col text = ⟨c.left, c.text ++ t, if t = [] then c.marks else c.marks ++ [⟨c.text.length, line, col⟩]⟩ := by unfold addC; rw [ht]
  by_cases h0 : t = []
  · refine ⟨[], ?_, by simp, by simp, fun h1 h2 => ?_⟩
    · rw [hc, h0, if_pos rfl, List.append_nil, List.append_nil]
      exact ⟨h.text, h.marks, h.parts, h.asc⟩
    · rw [h0] at ht
      split at ht
      · exact absurd ht.symm h2
      · exact absurd ht.symm h1
  · refine ⟨[⟨line, col, t⟩], ?_, by simp, by simp, by simp⟩
    rw [hc, if_neg h0]
    refine ⟨?_, ?_, ?_, ?_⟩
    · simp only [partsText_append, partsText, List.append_nil, h.text]
    · simp only [marksFrom_append, marksFrom, Nat.zero_add, h.marks, h.text]
    · intro p hq
      rcases List.mem_append.1 hq with hq | hq
      · exact h.parts p hq
      · rw [List.mem_singleton.1 hq]
        exact hp t hpre (List.length_pos_iff.2 h0)
    · refine List.pairwise_append.2 ⟨h.asc, List.pairwise_singleton _ _, fun p hq q hr => ?_⟩
      rw [List.mem_singleton.1 hr]
      exact ha p hq
/-- Cards with their parts, ahead of a line. -/
structure RdOk (L : List Str) (n : Nat) (x : Rd) (ys : List (CardC × List PartC)) : Prop where
  cards : x.cards = ys.map (·.1)
  ok : ∀ y ∈ ys, CardOk L y.1 y.2
  ne : ∀ y ∈ ys, y.2 ≠ []
  asc : Asc (ys.flatMap (·.2))
  low : ∀ y ∈ ys, ∀ p ∈ y.2, p.line < n
theorem RdOk.next {L : List Str} {n : Nat} {x : Rd} {ys : List (CardC × List PartC)} (h : RdOk L n x ys) : RdOk L (n + 1) x ys :=
  ⟨h.cards, h.ok, h.ne, h.asc, fun y hy p hp => by have := h.low y hy p hp; omega⟩
/-- What a counting row gives. -/
structure RowOk (L : List Str) (n : Nat) (r : RowC) : Prop where
  line : r.line = n
  part : ∀ (d : Nat) (t : Str), t <+: r.text.drop d → 0 < t.length → PartOk L ⟨n, r.col + d, t⟩
  ne : r.text ≠ []
  trim : trimR r.text ≠ []
theorem trimL_drop (s : Str) : trimL s = s.drop (s.length - (trimL s).length) := by
  obtain ⟨k, h1, _⟩ := trimL_split s
  have h2 := congrArg List.length h1
  rw [List.length_append, List.length_replicate] at h2
  have : s.length - (trimL s).length = k := by omega
  rw [this]
  conv => rhs; rw [h1]
  rw [List.drop_left' (by simp)]
theorem lineE_row {s : Str} {n : Nat} {dbg : Bool} {r : RowC} (h : lineE s n dbg = (r, true, okF)) : s.length ≤ 80 ∧ r = rowE s n ∧ r.text ≠ [] := by
  have h1 := (lineE_small (s := s) (line := n) (dbg := dbg)).2
  rw [h] at h1
  have hne := (h1 rfl).1
  by_cases h80 : 80 < s.length
  · unfold lineE at h; rw [if_pos h80] at h; cases h
  · refine ⟨by omega, ?_, hne⟩
    cases hb : badAt s with
    | some i => unfold lineE at h; rw [if_neg h80, hb] at h; cases h
    | none =>
      rw [lineE_none h80 hb] at h
      split at h
      · cases h
      · split at h
        · exact (congrArg (·.1) h).symm
        · split at h
          · exact (congrArg (·.1) h).symm
          · cases h
theorem row_ok {L : List Str} {s : Str} {n : Nat} {dbg : Bool} {r : RowC} (h : lineE s n dbg = (r, true, okF)) (h1 : 1 ≤ n) (h2 : n ≤ L.length) (hs : L.getD (n - 1) [] = s) : RowOk L n r := by
  obtain ⟨h80, rfl, hne⟩ := lineE_row h
  obtain ⟨T, hT⟩ : ∃ T, T = ((padE s).drop 7).take 65 := ⟨_, rfl⟩
  have hp := padE_len h80
  have hTl : T.length = 65 := by rw [hT, List.length_take, List.length_drop]; omega
  have htx : (rowE s n).text = trimL T := by rw [hT]; rfl
  have hcol : (rowE s n).col = 73 - ((trimL T).length : Int) := by rw [hT]; rfl
  have hle := trimL_le T
  have hd := trimL_drop T
  obtain ⟨m, hm⟩ : ∃ m, m = (trimL T).length := ⟨_, rfl⟩
  rw [← hm] at hcol hle hd
  rw [hTl] at hle hd
  have htl2 : (trimL T).head? ≠ some 32 := by obtain ⟨_, _, q⟩ := trimL_split T; exact q
  refine ⟨rfl, fun d t ht hl => ?_, hne, ?_⟩
  · rw [htx] at ht
    obtain ⟨rest, hr⟩ := ht
    have hlen := congrArg List.length hr
    rw [List.length_append, List.length_drop, ← hm] at hlen
    refine ⟨hl, by simp only; omega, by simp only; omega, by simp only [hcol]; omega, by simp only [hcol]; omega, fun j hj => ?_⟩
    simp only
    unfold byteAt
    rw [hcol, show ((n : Int)).toNat - 1 = n - 1 by omega, hs, show ((73 : Int) - (m : Int) + (d : Int) + (j : Int)).toNat - 1 = 72 - m + d + j by simp only at hj; omega]
    have e1 : t.getD j 0 = (t ++ rest).getD j 0 := (getD_l hj).symm
    rw [e1, hr, hd, hT]
    simp only [List.getD_eq_getElem?_getD, List.getElem?_drop]
    rw [List.getElem?_take_of_lt (by simp only at hj; omega), List.getElem?_drop]
    congr 2
    simp only at hj
    omega
  · rw [htx] at hne ⊢
    intro e
    unfold trimR at e
    rw [List.reverse_eq_nil_iff] at e
    replace e := dropWhile_nil e
    cases hx : trimL T with
    | nil => exact hne hx
    | cons b u =>
      rw [hx] at htl2 e
      have := e b (by simp)
      simp only [beq_iff_eq] at this
      exact htl2 (by rw [this]; rfl)
theorem RdOk.flat {L : List Str} {n : Nat} {x : Rd} {ys : List (CardC × List PartC)} (h : RdOk L n x ys) : ∀ p ∈ ys.flatMap (fun y => y.2), p.line < (n : Int) := by
  intro p hp
  obtain ⟨y, hy, hp⟩ := List.mem_flatMap.1 hp
  exact h.low y hy p hp
theorem add_new {L : List Str} {n : Nat} {x : Rd} {ys : List (CardC × List PartC)} (h : RdOk L n x ys) {r : RowC} (hr : RowOk L n r) (b : Bool) : ∃ zs, RdOk L (n + 1) (addE { x with cards := x.cards ++ [⟨b, [], []⟩] } r.line r.col r.text) zs := by
  have h0 : CardOk L ⟨b, [], []⟩ [] := ⟨rfl, rfl, by simp, .nil⟩
  obtain ⟨qs, q1, q2, q3, q4⟩ := addC_ok h0 (line := r.line) (col := r.col) (text := r.text) (fun t ht hl => by have := hr.part 0 t ht hl; rw [hr.line]; simpa using this) (by simp)
  rw [addE_last (x := { x with cards := x.cards ++ [⟨b, [], []⟩] }) rfl]
  rw [List.nil_append] at q1
  have hl : ∀ q ∈ qs, q.line = n := fun q hq => by rw [q2 q hq, hr.line]
  refine ⟨ys ++ [(addC ⟨b, [], []⟩ r.line r.col r.text, qs)], ?_, ?_, ?_, ?_, ?_⟩
  · simp only [List.map_append, h.cards, List.map_cons, List.map_nil]
  · intro y hy
    rcases List.mem_append.1 hy with hy | hy
    · exact h.ok y hy
    · rw [List.mem_singleton.1 hy]; exact q1
  · intro y hy
    rcases List.mem_append.1 hy with hy | hy
    · exact h.ne y hy
    · rw [List.mem_singleton.1 hy]; exact q4 hr.trim hr.ne
  · rw [List.flatMap_append]
    refine List.pairwise_append.2 ⟨h.asc, by simp only [List.flatMap_cons, List.flatMap_nil, List.append_nil]; exact q1.asc, fun p hp q hq => ?_⟩
    simp only [List.flatMap_cons, List.flatMap_nil, List.append_nil] at hq
    rw [hl q hq]
    exact h.flat p hp
  · intro y hy p hp
    rcases List.mem_append.1 hy with hy | hy
    · have := h.low y hy p hp; omega
    · rw [List.mem_singleton.1 hy] at hp
      rw [hl p hp]; omega
theorem add_more {L : List Str} {n : Nat} {x : Rd} {ys : List (CardC × List PartC)} (h : RdOk L n x ys) (hn : x.cards ≠ []) {line col : Int} {text : Str} (hl : line = n) (hp : ∀ t, t <+: text → 0 < t.length → PartOk L ⟨line, col, t⟩) : ∃ zs, RdOk L (n + 1) (addE x line col text) zs := by
  rcases List.eq_nil_or_concat ys with e | ⟨zs, y, e⟩
  · exact absurd (by rw [h.cards, e]; rfl) hn
  · rw [List.concat_eq_append] at e
    subst e
    obtain ⟨c, ps⟩ := y
    have hc : x.cards = zs.map (·.1) ++ [c] := by rw [h.cards]; simp
    have hy := h.ok (c, ps) (by simp)
    obtain ⟨qs, q1, q2, q3, q4⟩ := addC_ok hy (line := line) (col := col) (text := text) hp (fun p hp => by rw [hl]; exact h.low (c, ps) (by simp) p hp)
    rw [addE_last hc]
    have hql : ∀ q ∈ qs, q.line = n := fun q hq => by rw [q2 q hq, hl]
    refine ⟨zs ++ [(addC c line col text, ps ++ qs)], ?_, ?_, ?_, ?_, ?_⟩
    · simp
    · intro y hy
      rcases List.mem_append.1 hy with hy | hy
      · exact h.ok y (by simp [hy])
      · rw [List.mem_singleton.1 hy]; exact q1
    · intro y hy
      rcases List.mem_append.1 hy with hy | hy
      · exact h.ne y (by simp [hy])
      · rw [List.mem_singleton.1 hy]
        have := h.ne (c, ps) (by simp)
        simp only at this ⊢
        intro e
        exact this (List.append_eq_nil_iff.1 e).1
    · have ha := h.asc
      have hf := h.flat
      simp only [List.flatMap_append, List.flatMap_cons, List.flatMap_nil, List.append_nil] at ha hf ⊢
      rw [← List.append_assoc]
      refine List.pairwise_append.2 ⟨ha, (List.pairwise_append.1 q1.asc).2.1, fun p hp q hq => ?_⟩
      rw [hql q hq]
      exact hf p hp
    · intro y hy p hp
      rcases List.mem_append.1 hy with hy | hy
      · have := h.low y (by simp [hy]) p hp; omega
      · rw [List.mem_singleton.1 hy] at hp
        simp only at hp
        rcases List.mem_append.1 hp with hp | hp
        · have := h.low (c, ps) (by simp) p hp; omega
        · rw [hql p hp]; omega
theorem take_ok {L : List Str} {n : Nat} {x : Rd} {ys : List (CardC × List PartC)} (h : RdOk L n x ys) {r : RowC} (hr : RowOk L n r) (hf : (takeE x r).2 = okF) : ∃ zs, RdOk L (n + 1) (takeE x r).1 zs := by
  have hb : ∀ {a b c : Int}, a ≠ 0 → ¬ ((⟨a, b, c⟩ : FaultC) = okF) := fun ha e => ha (congrArg FaultC.e e)
  unfold takeE at hf ⊢
  split at hf
  · exact absurd hf (hb (by decide))
  · rename_i c1
    rw [if_neg c1]
    split at hf
    · rename_i c2
      rw [if_pos c2]
      exact add_new h hr _
    · rename_i c2
      rw [if_neg c2]
      split at hf
      · exact absurd hf (hb (by decide))
      · rename_i c3
        rw [if_neg c3]
        split at hf
        · exact absurd hf (hb (by decide))
        · rename_i c4
          rw [if_neg c4]
          split at hf
          · rename_i c5
            rw [if_pos c5]
            exact add_more h c3 hr.line (fun t ht hl => by have := hr.part 1 t ht hl; rw [hr.line]; simpa using this)
          · rename_i c5
            rw [if_neg c5]
            exact add_more h c3 hr.line (fun t ht hl => by have := hr.part 0 t ht hl; rw [hr.line]; simpa using this)
theorem readL_ok {L : List Str} (dbg : Bool) : ∀ (ls : List Str) (n : Nat) (x : Rd) (ys : List (CardC × List PartC)), RdOk L n x ys → 1 ≤ n → n + ls.length ≤ L.length + 1 → (∀ j, j < ls.length → L.getD (n - 1 + j) [] = ls.getD j []) → (readL dbg ls n x).2 = okF → ∃ m zs, RdOk L m (readL dbg ls n x).1 zs
  | [], n, x, ys, h, _, _, _, _ => ⟨n, ys, h⟩
  | s :: ls, n, x, ys, h, h1, h2, h3, hf => by
    have e1 : ((n : Int) + 1) = ((n + 1 : Nat) : Int) := by omega
    have hs : L.getD (n - 1) [] = s := by have := h3 0 (by simp); simpa using this
    rw [List.length_cons] at h2
    have h3' : ∀ j, j < ls.length → L.getD (n + 1 - 1 + j) [] = ls.getD j [] := fun j hj => by
      have := h3 (j + 1) (by simp; omega)
      rw [show n - 1 + (j + 1) = n + 1 - 1 + j by omega] at this
      simpa using this
    cases hp : lineE s n dbg with
    | mk r q =>
      obtain ⟨cn, f⟩ := q
      by_cases hff : f = okF
      · cases cn with
        | false =>
          rw [readL_skip hp hff, e1] at hf ⊢
          exact readL_ok dbg ls (n + 1) x ys h.next (by omega) (by omega) h3' hf
        | true =>
          subst hff
          have hr : RowOk L n r := row_ok hp h1 (by omega) hs
          by_cases hg : (takeE x r).2 = okF
          · rw [readL_take hp rfl hg, e1] at hf ⊢
            obtain ⟨zs, hz⟩ := take_ok h hr hg
            exact readL_ok dbg ls (n + 1) _ zs hz (by omega) (by omega) h3' hf
          · rw [readL_bad hp rfl hg] at hf
            exact absurd hf hg
      · rw [readL_fault hp hff] at hf
        exact absurd hf hff
theorem splitNL_ne : ∀ s : Str, splitNL s ≠ []
  | [] => by simp [splitNL]
  | b :: s => by unfold splitNL; split <;> (try split) <;> simp
theorem splitNL_cat : ∀ (a b : Str), splitNL (a ++ 10 :: b) = splitNL a ++ splitNL b
  | [], b => by show splitNL (10 :: b) = [] :: splitNL b; rw [splitNL, if_pos rfl]
  | x :: a, b => by
    rw [List.cons_append, splitNL, splitNL]
    by_cases h : x = 10
    · rw [if_pos h, if_pos h, splitNL_cat a b, List.cons_append]
    · rw [if_neg h, if_neg h, splitNL_cat a b]
      cases hq : splitNL a with
      | nil => exact absurd hq (splitNL_ne a)
      | cons l ls => rfl
theorem splitNL_trim (s : Str) : splitNL (trimNL s) = splitNL s ∨ splitNL s = splitNL (trimNL s) ++ [[]] := by
  unfold trimNL
  by_cases h : s.getLast? = some 10
  · rw [if_pos h]
    refine .inr ?_
    obtain ⟨t, ht⟩ : ∃ t, s = t ++ [10] := by
      rcases List.eq_nil_or_concat s with e | ⟨t, x, e⟩
      · rw [e] at h; cases h
      · rw [List.concat_eq_append] at e
        rw [e, List.getLast?_append] at h
        cases h
        exact ⟨t, e⟩
    rw [ht, List.dropLast_concat, splitNL_cat]
    rfl
  · rw [if_neg h]; exact .inl rfl
theorem readE_parts {text : Str} {dbg : Bool} (hf : (readE text dbg).2 = okF) : ∃ n x ys, RdOk (splitNL text) n x ys ∧ (readE text dbg).1 = ys.map (·.1) := by
  have h0 : RdOk (splitNL text) 1 .start [] := ⟨rfl, by simp, by simp, .nil, by simp⟩
  have hpre : ∀ j, j < (splitNL (trimNL text)).length → (splitNL text).getD (1 - 1 + j) [] = (splitNL (trimNL text)).getD j [] := fun j hj => by
    rw [Nat.sub_self, Nat.zero_add]
    rcases splitNL_trim text with e | e
    · rw [e]
    · rw [e, getD_l hj]
  have hlen : 1 + (splitNL (trimNL text)).length ≤ (splitNL text).length + 1 := by
    rcases splitNL_trim text with e | e
    · rw [e]; omega
    · rw [e, List.length_append]; omega
  by_cases hl : text.length ≤ 1048576
  · have hro := readL_ok (L := splitNL text) dbg (splitNL (trimNL text)) 1 .start [] h0 (Nat.le_refl _) hlen hpre
    cases hq : readL dbg (splitNL (trimNL text)) 1 .start with
    | mk x f =>
      by_cases hff : f = okF
      · subst hff
        have hq' : readL dbg (splitNL (trimNL text)) ((1 : Nat) : Int) .start = (x, okF) := hq
        rw [hq'] at hro
        obtain ⟨m, zs, hz⟩ := hro rfl
        cases ho : x.odd with
        | true =>
          rw [readE_odd hl hq ho] at hf
          exact absurd (congrArg FaultC.e hf) (show ¬ ((4 : Int) = 0) by decide)
        | false =>
          rw [readE_ok hl hq ho]
          exact ⟨m, x, zs, hz, hz.cards⟩
      · rw [readE_fault hl hq hff] at hf
        exact absurd hf hff
  · unfold readE at hf
    rw [if_pos (by omega)] at hf
    exact absurd (congrArg FaultC.e hf) (by decide)

end Go.Proofs.YtmadddihphkmoaaGreatDoor

/-
  Plain: the reference's Scan against Scan on what Read reads.
  Conditions: none.
-/
namespace Go.Proofs.YtmadddihphkmoaaGreatDoor
open Go.AM
open Go.Proofs
open Go.Col
open Go.Tok
open Go.RowKit (Below)
set_option maxRecDepth 100000

theorem scan_ref : ∀ (cs : List CardC) (l : List TokC), (∀ c ∈ cs, validC c = true) → scanGo cs l = refGo cs l
  | [], l, _ => rfl
  | c :: r, l, h => by
    have hv := h c (by simp)
    have h0 : (atE c 0).2.2 = 0 := by
      unfold atE
      rw [if_pos ⟨hv, by omega, by omega⟩]
    have e : cardT c l = cardR c 0 l := by
      unfold cardT
      rw [if_neg (by rw [h0]; simp)]
      rfl
    rw [scanGo, refGo, e, scan_ref r _ fun d hd => h d (by simp [hd])]
theorem read_valid {text : Str} {dbg : Bool} (hf : (readE text dbg).2 = okF) : ∀ c ∈ (readE text dbg).1, validC c = true := by
  obtain ⟨n, x, ys, ho, he⟩ := readE_parts hf
  rw [he]
  intro c hc
  obtain ⟨y, hy, rfl⟩ := List.mem_map.1 hc
  exact (ho.ok y hy).valid (ho.ne y hy)
/-! ### How much text Read puts together -/
theorem lenSum_app (a b : List CardC) : lenSum (a ++ b) = lenSum a + lenSum b := by
  unfold lenSum
  rw [List.map_append, List.sum_append]
theorem pad_empty {s : Str} (h : s.length ≤ 7) : trimL (((padE s).drop 7).take 65) = [] := by
  unfold trimL
  refine dropW_nil.2 (List.all_eq_true.2 ?_)
  intro b hb
  obtain ⟨j, hj, rfl⟩ := List.mem_iff_getElem.1 hb
  rw [List.getElem_take, List.getElem_drop]
  unfold padE sp
  rw [List.getElem_append_right (by omega), List.getElem_replicate]
  rfl
theorem row_cost (s : Str) (n : Int) (dbg : Bool) (h : (lineE s n dbg).2.1 = true) : (lineE s n dbg).1.text.length ≤ 9 * s.length := by
  obtain ⟨h1, h2⟩ := lineE_small (s := s) (line := n) (dbg := dbg)
  have h3 := (h2 h).1
  by_cases h8 : s.length ≤ 7
  · exfalso
    have hr : (rowE s n).text = [] := pad_empty h8
    revert h h3
    unfold lineE
    split
    · intro q; cases q
    · split
      · intro q; cases q
      · simp only
        split
        · intro _ q; exact q hr
        · split
          · intro _ q; exact q hr
          · split
            · intro _ q; exact q hr
            · intro _ q; exact q hr
  · omega
theorem addE_cost (x : Rd) (line col : Int) (t : Str) : lenSum (addE x line col t).cards ≤ lenSum x.cards + t.length := by
  rcases List.eq_nil_or_concat x.cards with e | ⟨l, c, e⟩
  · have : addE x line col t = x := by unfold addE; rw [e]; rfl
    rw [this]
    omega
  · rw [List.concat_eq_append] at e
    rw [addE_last e, e]
    have h1 := trimR_le t
    simp only [lenSum_app]
    have : lenSum [addC c line col t] ≤ lenSum [c] + t.length := by
      unfold lenSum addC
      simp only [List.map_cons, List.map_nil, List.sum_cons, List.sum_nil, List.length_append]
      split <;> omega
    omega
theorem takeE_cost (x : Rd) (r : RowC) : lenSum (Col.takeE x r).1.cards ≤ lenSum x.cards + r.text.length := by
  unfold Col.takeE
  split
  · exact Nat.le_add_right _ _
  · split
    · have := addE_cost { x with cards := x.cards ++ [⟨decide (r.col < 12), [], []⟩] } r.line r.col r.text
      simp only [lenSum_app] at this
      have e : lenSum [⟨decide (r.col < 12), [], []⟩] = 0 := rfl
      rw [e] at this
      exact this
    · split
      · exact Nat.le_add_right _ _
      · split
        · exact Nat.le_add_right _ _
        · split
          · have := addE_cost x r.line (r.col + 1) (r.text.drop 1)
            rw [List.length_drop] at this
            simp only
            omega
          · exact addE_cost x r.line r.col r.text
def lineSum (ls : List Str) : Nat := (ls.map List.length).sum
theorem readL_cost (dbg : Bool) : ∀ (ls : List Str) (n : Int) (x : Rd), lenSum (readL dbg ls n x).1.cards ≤ lenSum x.cards + 9 * lineSum ls
  | [], _, x => Nat.le_add_right _ _
  | s :: ls, n, x => by
    have hs : lineSum (s :: ls) = s.length + lineSum ls := by unfold lineSum; rw [List.map_cons, List.sum_cons]
    have hc := row_cost s n dbg
    rw [readL]
    cases hp : lineE s n dbg with
    | mk r q =>
      obtain ⟨cn, f⟩ := q
      rw [hp] at hc
      simp only at hc ⊢
      split
      · have := readL_cost dbg ls (n + 1) x
        omega
      · rename_i q1
        split
        · rename_i q2
          have hcn : cn = true := by
            cases cn with
            | true => rfl
            | false => exact absurd ⟨q2, rfl⟩ q1
          have ht := takeE_cost x r
          have hr := hc hcn
          split
          · have := readL_cost dbg ls (n + 1) (Col.takeE x r).1
            omega
          · simp only
            omega
        · simp only
          omega
theorem splitNL_sum : ∀ s : Str, lineSum (splitNL s) ≤ s.length
  | [] => Nat.le_refl _
  | b :: s => by
    have ih := splitNL_sum s
    rw [splitNL]
    split
    · unfold lineSum at ih ⊢
      rw [List.map_cons, List.sum_cons, List.length_cons, List.length_nil]
      omega
    · split
      · unfold lineSum
        simp
      · rename_i l ls e
        rw [e] at ih
        unfold lineSum at ih ⊢
        rw [List.map_cons, List.sum_cons] at ih ⊢
        simp only [List.length_cons]
        omega
theorem read_cost (text : Str) (dbg : Bool) : lenSum (readE text dbg).1 ≤ 9 * text.length := by
  have h := readL_cost dbg (splitNL (trimNL text)) 1 .start
  have h1 := splitNL_sum (trimNL text)
  have h2 := trimNL_len text
  have h3 : lenSum Rd.start.cards = 0 := rfl
  have h4 : lenSum [] = 0 := rfl
  unfold readE
  split
  · exact Nat.zero_le _
  · simp only
    split
    · exact Nat.zero_le _
    · split
      · exact Nat.zero_le _
      · simp only
        omega
theorem ref_read {text : Str} {dbg : Bool} (hf : (readE text dbg).2 = okF) : refGo (readE text dbg).1 [] = sourceE text dbg := by
  rw [← scan_ref _ _ (read_valid hf)]
  unfold sourceE
  rw [if_neg (fun q => q hf)]
  rfl
end Go.Proofs.YtmadddihphkmoaaGreatDoor

/-
  The law TokensScan.
  Conditions: none.
-/
namespace Go.Proofs.YtmadddihphkmoaaGreatDoor
open Go.AM
open Go.Proofs
open Go.Col
open Go.Tok
open Go.RowKit (Below)
set_option maxRecDepth 100000

theorem capL_idem (v : AVal) : capL (capL v) = capL v := by cases v <;> rfl
theorem c_equalS (w₀ : World) (h : AHeap) (a b : AVal) (l : List TokC) (ha : IsL w₀ h 5 a (l.map tokC)) (hb : IsL w₀ h 5 b (l.map tokC)) (hl : l.length ≤ 1099511627776) : ACall Tryz.prog w₀ 15 [a, b] h (fun v h' => v = .int .i64 0 ∧ h' = h) := by
  have hla := ha.live
  have hlb := hb.live
  have na := tok_len ha
  have nb := tok_len hb
  refine acall_intro (n := 26) (rs := [.tmp 4]) Tryz.func15 rfl rfl rfl rfl (Nat.le_of_ble_eq_true rfl) ?_
  simp only [initSlots]
  -- region 0  law.go:104
  refine awp_rseq [0, 1] (by rfl) fun K hK => ?_
  simp (decide := true) only [aOps_nil, ev, absV, absS, putD, Slots.put, Slots.keep, if_true, if_false, true_and, ↓ap_assign, pop_assign]
  apply hK; clear hK K
  refine awp_seq ?_
  -- region 1  law.go:105
  refine awp_rseq [0, 1, 10] (by rfl) fun K hK => ?_
  simp (decide := true) only [aOps_nil, ev, putD, Slots.put, Slots.get, Slots.keep, if_true, if_false, true_and, ↓ap_move, pop_move, ↓ap_len, pop_len, ↓ap_binOp, pop_binOp, isNilC_tmp, cond_false, pBinX_int, pI_neq, na, nb]
  apply hK; clear hK K
  refine awp_cond (b := _) rfl (fun hb1 => ?_) (fun hb1 => ?_)
  · exact absurd hb1 (by simp)
  · try simp only [decide_eq_true_eq, Bool.not_eq_false'] at hb1
    refine awp_skip ?_
    change Awp _ _ _ _ _ _ _
    refine awp_seq ?_
    -- region 3  law.go:108
    refine awp_rseq [0, 1, 5] (by rfl) fun K hK => ?_
    simp (decide := true) only [aOps_nil, ev, absV, absS, putD, Slots.put, Slots.keep, if_true, if_false, true_and, ↓ap_assign, pop_assign]
    apply hK; clear hK K
    refine awp_block ?_
    refine awp_loopG [0, 1, 5] (fun i : Nat => [(0, a), (1, b), (5, .int .i64 i)]) (fun i : Nat => h) (fun i : Nat => i ≤ l.length) (fun i : Nat => l.length - i) 0 (by rfl) (Sub.refl _) (Nat.zero_le _) ?_
    intro i hi
    refine awp_seq ?_
    -- region 4  law.go:108
    refine awp_rseq [0, 1, 5, 14] (by rfl) fun K hK => ?_
    simp (decide := true) only [aOps_nil, ev, putD, Slots.put, Slots.get, Slots.keep, if_true, if_false, true_and, ↓ap_move, pop_move, ↓ap_len, pop_len, ↓ap_binOp, pop_binOp, isNilC_tmp, cond_false, pBinX_int, pI_lss, na]
    apply hK; clear hK K
    refine awp_cond (b := _) rfl (fun hb2 => ?_) (fun hb2 => ?_)
    · try simp only [decide_eq_true_eq] at hb2
      have hi' : i < l.length := by omega
      obtain ⟨lc, o, c, rfl⟩ := tok_open ha (by omega)
      obtain ⟨lc', o', c', rfl⟩ := tok_open hb (by omega)
      have he := ha.elem (i := i) (by rw [List.length_map]; exact hi')
      have hd := hb.elem (i := i) (by rw [List.length_map]; exact hi')
      rw [getD_map badT hi', tokC] at he hd
      have hal : AM.allLive (tokC (l.getD i badT)) = true := rfl
      rw [tokC] at hal
      have hbe : ((l.getD i badT).left == (l.getD i badT).left) = true := beq_self_eq_true _
      refine awp_skip ?_
      change Awp _ _ _ _ _ _ _
      refine awp_seq ?_
      refine awp_block ?_
      -- region 6  law.go:109
      refine awp_dseq_all [0, 1, 5, 25] mixed (by kernel_rfl) (by rfl) (by rfl) fun K hK => ?_
      simp (decide := true) only [aOps_nil, ev, putD, Slots.put, Slots.get, Slots.keep, if_true, if_false, true_and, ↓ap_move, pop_move, ↓ap_indexAddrL, apL_mk, pIndexAddr_slice Tryz.underlying25 sz38, ↓ap_loadL, pLoad_agg ag38 sz38, ↓ap_binOp, pop_binOp, isNilC_tmp, cond_false, pBinX_agg, ne38, he, hd, hal, hbe, Int.toNat_natCast]
      repeat (with_reducible refine And.intro ?_ ?_; · first | trivial | omega | (intro hg; simp only [Bool.and_eq_true, Bool.or_eq_true, Bool.not_eq_true', Bool.and_eq_false_iff, Bool.or_eq_false_iff, Bool.not_eq_false', decide_eq_true_eq, decide_eq_false_iff_not, eqNil] at hg; omega) )
      apply hK; clear hK K
      refine awp_cond (b := _) rfl (fun hb3 => ?_) (fun hb3 => ?_)
      · exact absurd hb3 (by simp)
      · try simp only [decide_eq_true_eq, Bool.not_eq_false', Bool.and_eq_true] at hb3
        refine awp_skip ?_
        change Awp _ _ _ _ _ _ _
        -- region 5  law.go:108
        refine awp_r [0, 1, 5] (by rfl) ?_
        simp (decide := true) only [aOps_nil, ev, absV, absS, putD, Slots.put, Slots.get, Slots.keep, if_true, if_false, true_and, ↓ap_move, pop_move, ↓ap_binOp, pop_binOp, isNilC_int, cond_false, pBinX_int, pI_add, ↓ap_assign, pop_assign]
        try simp (disch := omega) only [wrap_i64]
        try simp only [thenA_normal]
        exact ⟨i + 1, rfl, Sub.refl _, hi', by omega⟩
    · try simp only [decide_eq_false_iff_not] at hb2
      refine awp_exit ?_
      change Awp _ _ _ _ _ _ _
      -- region 8  law.go:113
      refine awp_rseq [4] (by rfl) fun K hK => ?_
      simp (decide := true) only [aOps_nil, ev, absV, absS, putD, Slots.put, Slots.keep, if_true, if_false, true_and, ↓ap_assign, pop_assign]
      apply hK; clear hK K
      refine awp_ret ?_
      refine retA_ret _ (Sub.refl _) (resPre_tmp (resPre_nil)) ?_
      simp (decide := true) only [Slots.get, if_true, and_true, resOf_one]
      all_goals first | rfl | exact ⟨rfl, rfl⟩ | (simp (decide := true) only [if_true, if_false, *]; done) | (trace_state; fail)
set_option maxHeartbeats 2000000 in
theorem l_TokensScan (w₀ : World) (hm : MaxL w₀) (h : AHeap) (text : Str) (hl : text.length ≤ 9223372036854775807) :
    ACall Tryz.prog w₀ 4 [.str text] h (fun x _ => x = .bool true) := by
  refine ACall.mono (R := fun x h' => x = .bool true ∧ h' = h) ?_ fun x h' hx => hx.1
  obtain ⟨z1, z2⟩ := source_small text false
  obtain ⟨y1, y2⟩ := readE_smallT text false
  have hcost := read_cost text false
  have hre : (readE text false).2 ≠ okF → sourceE text false = ([], (readE text false).2) := fun q => by unfold sourceE; rw [if_pos q]
  have hrr := ref_read (text := text) (dbg := false)
  have hsc : (readE text false).2 = okF → scanE (readE text false).1 = sourceE text false := fun q => by unfold sourceE; rw [if_neg (fun z => z q)]
  refine acall_intro (n := 79) (rs := [.tmp 2]) Tryz.func4 rfl rfl rfl rfl (Nat.le_of_ble_eq_true rfl) ?_
  simp only [initSlots]
  -- region 0  law.go:89
  refine awp_rseq [0] (by rfl) fun K hK => ?_
  simp (decide := true) only [aOps_nil, ev, absV, absS, putD, Slots.put, Slots.keep, if_true, if_false, true_and, ↓ap_assign, pop_assign]
  apply hK; clear hK K
  refine awp_seq ?_
  -- region 1  law.go:90
  refine awp_rseq [0, 13] (by rfl) fun K hK => ?_
  simp (decide := true) only [aOps_nil, ev, absV, absS, putD, Slots.put, Slots.get, Slots.keep, if_true, if_false, true_and, ↓ap_move, pop_move, ↓ap_len, pop_len, pLen_str Tryz.underlying9, ↓ap_binOp, pop_binOp, isNilC_int, cond_false, pBinX_int, pI_gtr]
  apply hK; clear hK K
  refine awp_cond (b := _) rfl (fun hb1 => ?_) (fun hb1 => ?_)
  · try simp only [decide_eq_true_eq] at hb1
    -- region 2  law.go:91
    refine awp_rseq [2] (by rfl) fun K hK => ?_
    refine aOps_callV (V := .bool true) (by rfl) (by rfl) (c_lives03 w₀ hm _) ?_
    simp (decide := true) only [aOps_nil, ev, putD, Slots.put, Slots.get, Slots.keep, if_true, if_false, true_and, ↓ap_assign, pop_assign]
    apply hK; clear hK K
    refine awp_ret ?_
    try simp only [thenA_ret]
    refine retA_ret h (by repeat (first | exact Sub.refl _ | assumption | refine Sub.trans_set ?_ (by assumption))) (resPre_tmp (resPre_nil)) ?_
    simp (decide := true) only [Slots.get, if_true, and_true, resOf_one]
    all_goals first | rfl | exact ⟨rfl, rfl⟩ | (simp (decide := true) only [if_true, if_false, *]; done) | (trace_state; fail)
  · try simp only [decide_eq_false_iff_not] at hb1
    have hl2 : text.length ≤ 2000 := by omega
    refine awp_skip ?_
    change Awp _ _ _ _ _ _ _
    -- region 3  law.go:93
    refine awp_rseq [0, 3, 4] (by rfl) fun K hK => ?_
    simp (decide := true) only [ev, putD, Slots.put, Slots.get, if_true, if_false, true_and, ↓ap_move, pop_move]
    refine aOps_call (by rfl) (by rfl) (c_Read w₀ hm _ text false hl) fun x3q1 h3q1 hx3q1 => ?_
    obtain ⟨cv, hv3, hc, hs3⟩ := hx3q1
    have hclv := hc.liveT
    obtain ⟨cs, hcs⟩ : ∃ cs, cs = (readE text false).1 := ⟨_, rfl⟩
    obtain ⟨f, hf⟩ : ∃ f, f = (readE text false).2 := ⟨_, rfl⟩
    rw [← hcs] at hc y1 y2 hcost hrr hsc
    rw [← hf] at hv3 hre hrr hsc
    rw [hv3]
    have hs_h3q1 : Sub h h3q1 := Sub.trans (by repeat (first | exact Sub.refl _ | assumption | refine Sub.trans_set ?_ (by assumption))) hs3
    have hr_h3q1 := hs_h3q1
    simp (decide := true) only [ev, putD, Slots.put, Slots.get, if_true, if_false, true_and, ↓ap_move, pop_move, ↓ap_extract, pop_extract, pExt_tuple, List.length_cons, List.length_nil, List.getD_cons_zero, List.getD_cons_succ, List.getD_cons_zero, List.getD_cons_succ, Nat.zero_add, Nat.reduceAdd, faultA]
    refine aOps_alloc ze31 (cs := [.int .i64 0, .int .i64 0, .int .i64 0]) (by rfl) fun k3q5 hk3q5 => ?_
    have hn_3q5 : h3q1 k3q5 = none := by first | assumption | (simp only [AHeap.set_none] at hk3q5; simp only [hk3q5])
    have hf_3q5 : h k3q5 = none := Sub.none hs_h3q1 hn_3q5
    simp (decide := true) only [ev, putD, Slots.put, Slots.get, if_true, if_false, true_and, ↓ap_assign, pop_assign]
    refine aOps_store (by rfl) (by rfl) (by repeat (first | exact AHeap.set_same _ _ _ | assumption | refine (AHeap.set_ne _ _ (by first | assumption | exact Ne.symm (by assumption))).trans ?_)) sz31 (by rfl) (by rfl) (by first | exact Nat.le_refl _ | decide | (simp; done) | (simp; omega)) (Nat.zero_le _) (by rfl) ?_
    simp only [AHeap.set_set, AVal.cells]
    simp (decide := true) only [aOps_nil, ev, putD, Slots.get, Slots.keep, if_true, if_false, setAt, List.set_cons_zero, List.set_cons_succ, Nat.zero_add, Nat.reduceAdd]
    apply hK; clear hK K
    -- region 4  law.go:94
    refine awp_rseq [3, 4, 5, 6] (by rfl) fun K hK => ?_
    simp (decide := true) only [ev, putD, Slots.put, Slots.get, if_true, if_false, true_and, ↓ap_move, pop_move]
    refine aOps_call (by rfl) (by rfl) (c_Source w₀ hm _ text false hl) fun x4q1 h4q1 hx4q1 => ?_
    obtain ⟨tv, hv4, htv, hs4⟩ := hx4q1.toks (w₀ := w₀)
    obtain ⟨R, hR⟩ : ∃ R, R = sourceE text false := ⟨_, rfl⟩
    obtain ⟨v, hv⟩ : ∃ v, v = capL tv := ⟨_, rfl⟩
    rw [← hR] at hv4 htv z1 z2 hre hrr hsc
    have hvc : capL v = v := by rw [hv, capL_idem]
    rw [← hv] at hv4 htv
    have hcap := htv.cap Tryz.underlying25
    rw [hvc, List.length_map] at hcap
    have hlv := htv.live
    have hlen := tok_len htv
    rw [hv4]
    have hs_h4q1 : Sub h h4q1 := Sub.trans (by repeat (first | exact Sub.refl _ | assumption | refine Sub.trans_set ?_ (by assumption))) hs4
    have hr_h4q1 : Sub h3q1 h4q1 := Sub.trans (by repeat (first | exact Sub.refl _ | assumption | refine Sub.trans_set ?_ (by assumption))) hs4
    have eb_3q5 := hs4 k3q5 _ (by repeat (first | exact AHeap.set_same _ _ _ | assumption | refine (AHeap.set_ne _ _ (by first | assumption | exact Ne.symm (by assumption))).trans ?_))
    simp (decide := true) only [ev, putD, Slots.put, Slots.get, if_true, if_false, true_and, ↓ap_move, pop_move, ↓ap_extract, pop_extract, pExt_tuple, List.length_cons, List.length_nil, List.getD_cons_zero, List.getD_cons_succ, List.getD_cons_zero, List.getD_cons_succ, Nat.zero_add, Nat.reduceAdd, faultA]
    refine aOps_alloc ze31 (cs := [.int .i64 0, .int .i64 0, .int .i64 0]) (by rfl) fun k4q5 hk4q5 => ?_
    have hn_4q5 : h4q1 k4q5 = none := by first | assumption | (simp only [AHeap.set_none] at hk4q5; simp only [hk4q5])
    have hf_4q5 : h k4q5 = none := Sub.none hs_h4q1 hn_4q5
    have ne_4q5_3q5 : k4q5 ≠ k3q5 := AHeap.ne_some hn_4q5 eb_3q5
    simp (decide := true) only [ev, putD, Slots.put, Slots.get, if_true, if_false, true_and, ↓ap_assign, pop_assign]
    refine aOps_store (by rfl) (by rfl) (by repeat (first | exact AHeap.set_same _ _ _ | assumption | refine (AHeap.set_ne _ _ (by first | assumption | exact Ne.symm (by assumption))).trans ?_)) sz31 (by rfl) (by rfl) (by first | exact Nat.le_refl _ | decide | (simp; done) | (simp; omega)) (Nat.zero_le _) (by rfl) ?_
    simp only [AHeap.set_set, AVal.cells]
    simp (decide := true) only [aOps_nil, ev, putD, Slots.get, Slots.keep, if_true, if_false, setAt, List.set_cons_zero, List.set_cons_succ, Nat.zero_add, Nat.reduceAdd]
    apply hK; clear hK K
    refine awp_seq ?_
    -- region 5  law.go:95
    refine awp_rseq [3, 4, 5, 6, 27] (by rfl) fun K hK => ?_
    simp (decide := true) only [aOps_nil, ev, absV, absS, putD, Slots.put, Slots.get, Slots.keep, if_true, if_false, true_and, ↓ap_loadL, apL_mk, pLoad_agg ag31 sz31, ↓ap_build, ↓pop_buildL, bld31_, evP, List.map_nil, ↓ap_binOp, pop_binOp, isNilC_tmp, cond_false, pBinX_agg, ne31, rd_ne', ne_eq, not_false_eq_true, ne_4q5_3q5.symm, rd_own w₀ eb_3q5, cellsAt, List.getD_cons_zero, List.getD_cons_succ, Nat.zero_add, Nat.reduceAdd, lv_int, allLive, Bool.and_true, faultA_eq]
    apply hK; clear hK K
    refine awp_cond (b := _) rfl (fun hb2 => ?_) (fun hb2 => ?_)
    · try simp only [decide_eq_false_iff_not, Bool.not_eq_true'] at hb2
      have hR2 := hre hb2
      have hRf : R.2 = f := by rw [hR2]
      have hR1 : R.1 = [] := by rw [hR2]
      have hlen0 : pLen Tryz.prog 25 v = ⟨True, .int .i64 0⟩ := by rw [hR1] at hlen; exact hlen
      -- region 6  law.go:96
      refine awp_rseq [2] (by rfl) fun K hK => ?_
      simp (decide := true) only [ev, absV, absS, putD, Slots.put, Slots.get, if_true, if_false, true_and, ↓ap_loadL, apL_mk, pLoad_agg ag31 sz31, ↓ap_binOp, pop_binOp, isNilC_tmp, cond_false, pBinX_agg, eq31, ↓ap_move, pop_move, ↓ag_move, agP, agQ_some, nthDst, gKnown_bool, guardB_bool_true, implies_true, decide_true, condV_true, Bool.and_true, ↓ag_len, pop_len, ↓ag_binOp, isNilC_int, pBinX_int, pI_eql, ↓ap_pick, pop_pick, pPick_bool, pickV_and, rd_ne', ne_eq, not_false_eq_true, ne_4q5_3q5.symm, rd_own w₀ eb_3q5, rd_any, cellsAt, List.getD_cons_zero, List.getD_cons_succ, Nat.zero_add, Nat.reduceAdd, lv_int, allLive, Bool.and_true, hlen0, hRf]
      (refine aOps_yes (by rfl) ?_; refine aOps_callV (V := .bool true) (by rfl) (by rfl) (c_lives03 w₀ hm _) ?_)
      simp (decide := true) only [aOps_nil, ev, absV, absS, putD, Slots.put, Slots.get, Slots.keep, if_true, if_false, true_and, ↓ap_pick, pop_pick, pPick_bool, pickV_and, ↓ap_assign, pop_assign, Bool.and_true]
      apply hK; clear hK K
      refine awp_ret ?_
      try simp only [thenA_ret]
      refine retA_ret h (by repeat (first | exact Sub.refl _ | assumption | refine Sub.trans_set ?_ (by assumption))) (resPre_tmp (resPre_nil)) ?_
      simp (decide := true) only [Slots.get, if_true, and_true, resOf_one]
      skip
    · try simp only [decide_eq_true_eq, Bool.not_eq_false'] at hb2
      have hq := hrr hb2
      have hq2 := hsc hb2
      have hc4 := hc.mono hr_h4q1
      refine awp_skip ?_
      change Awp _ _ _ _ _ _ _
      -- region 7  law.go:98
      refine awp_rseq [3, 5, 6, 7, 8] (by rfl) fun K hK => ?_
      simp (decide := true) only [ev, putD, Slots.put, Slots.get, if_true, if_false, true_and, ↓ap_move, pop_move]
      refine aOps_call (by rfl) (by rfl) (c_refScan w₀ _ cv cs (hc4.mono (by repeat (first | exact Sub.refl _ | assumption | refine Sub.set_both ?_ _ _ | refine Sub.trans_set ?_ (by repeat (first | assumption | refine (AHeap.set_ne _ _ (by first | assumption | exact Ne.symm (by assumption))).trans ?_))))) (by omega) (fun c hcm => by have := (y2 c hcm).2; omega) (by omega)) fun x7q1 h7q1 hx7q1 => ?_
      obtain ⟨rb, hv7, r1, r2, r3⟩ := hx7q1
      rw [hq] at r2 hv7
      have hs7 : Sub (h4q1.set k4q5 ⟨[.int .i64 R.2.e, .int .i64 R.2.line, .int .i64 R.2.col], 0⟩) h7q1 := by rw [r3]; exact Sub.buf r1
      have hrb : IsL w₀ h7q1 5 (bufV 5 rb) (R.1.map tokC) := IsL.buf r1 (by decide) r2 tokC_wide (by rw [r3]; exact Sub.refl _)
      have hlrb := hrb.live
      rw [hv7]
      have hs_h7q1 : Sub h h7q1 := Sub.trans (by repeat (first | exact Sub.refl _ | assumption | refine Sub.trans_set ?_ (by assumption))) hs7
      have hr_h7q1 : Sub h4q1 h7q1 := Sub.trans (by repeat (first | exact Sub.refl _ | assumption | refine Sub.trans_set ?_ (by assumption))) hs7
      have eb_4q5 := hs7 k4q5 _ (by repeat (first | exact AHeap.set_same _ _ _ | assumption | refine (AHeap.set_ne _ _ (by first | assumption | exact Ne.symm (by assumption))).trans ?_))
      have eb_3q5 := hs7 k3q5 _ (by repeat (first | exact AHeap.set_same _ _ _ | assumption | refine (AHeap.set_ne _ _ (by first | assumption | exact Ne.symm (by assumption))).trans ?_))
      simp (decide := true) only [ev, putD, Slots.put, Slots.get, if_true, if_false, true_and, ↓ap_move, pop_move, ↓ap_extract, pop_extract, pExt_tuple, List.length_cons, List.length_nil, List.getD_cons_zero, List.getD_cons_succ, List.getD_cons_zero, List.getD_cons_succ, Nat.zero_add, Nat.reduceAdd, faultA]
      refine aOps_alloc ze31 (cs := [.int .i64 0, .int .i64 0, .int .i64 0]) (by rfl) fun k7q5 hk7q5 => ?_
      have hn_7q5 : h7q1 k7q5 = none := by first | assumption | (simp only [AHeap.set_none] at hk7q5; simp only [hk7q5])
      have hf_7q5 : h k7q5 = none := Sub.none hs_h7q1 hn_7q5
      have ne_7q5_3q5 : k7q5 ≠ k3q5 := AHeap.ne_some hn_7q5 eb_3q5
      have ne_7q5_4q5 : k7q5 ≠ k4q5 := AHeap.ne_some hn_7q5 eb_4q5
      simp (decide := true) only [ev, putD, Slots.put, Slots.get, if_true, if_false, true_and, ↓ap_assign, pop_assign]
      refine aOps_store (by rfl) (by rfl) (by repeat (first | exact AHeap.set_same _ _ _ | assumption | refine (AHeap.set_ne _ _ (by first | assumption | exact Ne.symm (by assumption))).trans ?_)) sz31 (by rfl) (by rfl) (by first | exact Nat.le_refl _ | decide | (simp; done) | (simp; omega)) (Nat.zero_le _) (by rfl) ?_
      simp only [AHeap.set_set, AVal.cells]
      simp (decide := true) only [aOps_nil, ev, putD, Slots.get, Slots.keep, if_true, if_false, setAt, List.set_cons_zero, List.set_cons_succ, Nat.zero_add, Nat.reduceAdd]
      apply hK; clear hK K
      -- region 8  law.go:99
      refine awp_rseq [5, 6, 7, 8, 9, 10] (by rfl) fun K hK => ?_
      simp (decide := true) only [ev, putD, Slots.put, Slots.get, if_true, if_false, true_and, ↓ap_move, pop_move]
      refine aOps_call (by rfl) (by rfl) (c_Scan w₀ _ cv cs ((hc4.mono hr_h7q1).mono (by repeat (first | exact Sub.refl _ | assumption | refine Sub.set_both ?_ _ _ | refine Sub.trans_set ?_ (by repeat (first | assumption | refine (AHeap.set_ne _ _ (by first | assumption | exact Ne.symm (by assumption))).trans ?_))))) (by omega) (fun c hcm => by have := y2 c hcm; omega)) fun x8q1 h8q1 hx8q1 => ?_
      obtain ⟨tv8, hv8, htv8, hs8⟩ := hx8q1.toks (w₀ := w₀)
      rw [hq2] at hv8 htv8
      have hl8 := htv8.live
      rw [hv8]
      have hs_h8q1 : Sub h h8q1 := Sub.trans (by repeat (first | exact Sub.refl _ | assumption | refine Sub.trans_set ?_ (by assumption))) hs8
      have hr_h8q1 : Sub h7q1 h8q1 := Sub.trans (by repeat (first | exact Sub.refl _ | assumption | refine Sub.trans_set ?_ (by assumption))) hs8
      have eb_7q5 := hs8 k7q5 _ (by repeat (first | exact AHeap.set_same _ _ _ | assumption | refine (AHeap.set_ne _ _ (by first | assumption | exact Ne.symm (by assumption))).trans ?_))
      have eb_3q5 := hs8 k3q5 _ (by repeat (first | exact AHeap.set_same _ _ _ | assumption | refine (AHeap.set_ne _ _ (by first | assumption | exact Ne.symm (by assumption))).trans ?_))
      have eb_4q5 := hs8 k4q5 _ (by repeat (first | exact AHeap.set_same _ _ _ | assumption | refine (AHeap.set_ne _ _ (by first | assumption | exact Ne.symm (by assumption))).trans ?_))
      simp (decide := true) only [ev, putD, Slots.put, Slots.get, if_true, if_false, true_and, ↓ap_move, pop_move, ↓ap_extract, pop_extract, pExt_tuple, List.length_cons, List.length_nil, List.getD_cons_zero, List.getD_cons_succ, List.getD_cons_zero, List.getD_cons_succ, Nat.zero_add, Nat.reduceAdd, faultA]
      refine aOps_alloc ze31 (cs := [.int .i64 0, .int .i64 0, .int .i64 0]) (by rfl) fun k8q5 hk8q5 => ?_
      have hn_8q5 : h8q1 k8q5 = none := by first | assumption | (simp only [AHeap.set_none] at hk8q5; simp only [hk8q5])
      have hf_8q5 : h k8q5 = none := Sub.none hs_h8q1 hn_8q5
      have ne_8q5_3q5 : k8q5 ≠ k3q5 := AHeap.ne_some hn_8q5 eb_3q5
      have ne_8q5_4q5 : k8q5 ≠ k4q5 := AHeap.ne_some hn_8q5 eb_4q5
      have ne_8q5_7q5 : k8q5 ≠ k7q5 := AHeap.ne_some hn_8q5 eb_7q5
      simp (decide := true) only [ev, putD, Slots.put, Slots.get, if_true, if_false, true_and, ↓ap_assign, pop_assign]
      refine aOps_store (by rfl) (by rfl) (by repeat (first | exact AHeap.set_same _ _ _ | assumption | refine (AHeap.set_ne _ _ (by first | assumption | exact Ne.symm (by assumption))).trans ?_)) sz31 (by rfl) (by rfl) (by first | exact Nat.le_refl _ | decide | (simp; done) | (simp; omega)) (Nat.zero_le _) (by rfl) ?_
      simp only [AHeap.set_set, AVal.cells]
      simp (decide := true) only [aOps_nil, ev, putD, Slots.get, Slots.keep, if_true, if_false, setAt, List.set_cons_zero, List.set_cons_succ, Nat.zero_add, Nat.reduceAdd]
      apply hK; clear hK K
      have t4 := (htv.mono (hr_h7q1.trans hr_h8q1))
      have t7 := hrb.mono hr_h8q1
      -- region 9  law.go:100
      refine awp_rseq [2] (by kernel_rfl) fun K hK => ?_
      simp (decide := true) only [ev, putD, Slots.put, Slots.get, if_true, if_false, true_and, ↓ap_move, pop_move]
      refine aOps_callV (V := .int .i64 0) (by rfl) (by rfl) (c_equalS w₀ _ v _ R.1 (t4.mono (by repeat (first | exact Sub.refl _ | assumption | refine Sub.set_both ?_ _ _ | refine Sub.trans_set ?_ (by repeat (first | assumption | refine (AHeap.set_ne _ _ (by first | assumption | exact Ne.symm (by assumption))).trans ?_))))) (t7.mono (by repeat (first | exact Sub.refl _ | assumption | refine Sub.set_both ?_ _ _ | refine Sub.trans_set ?_ (by repeat (first | assumption | refine (AHeap.set_ne _ _ (by first | assumption | exact Ne.symm (by assumption))).trans ?_))))) (by omega)) ?_
      simp (decide := true) only [ev, absV, absS, putD, Slots.put, Slots.get, if_true, if_false, true_and, ↓ap_binOp, pop_binOp, isNilC_int, cond_false, pBinX_int, pI_eql, ↓ap_move, pop_move, ↓ag_move, agP, agQ_some, nthDst, gKnown_bool, guardB_bool_true, implies_true, decide_true, condV_true]
      (refine aOps_yes (by rfl) ?_; refine aOps_callV (V := .int .i64 0) (by rfl) (by rfl) (c_equalS w₀ _ _ _ R.1 (htv8.mono (by repeat (first | exact Sub.refl _ | assumption | refine Sub.set_both ?_ _ _ | refine Sub.trans_set ?_ (by repeat (first | assumption | refine (AHeap.set_ne _ _ (by first | assumption | exact Ne.symm (by assumption))).trans ?_))))) (t7.mono (by repeat (first | exact Sub.refl _ | assumption | refine Sub.set_both ?_ _ _ | refine Sub.trans_set ?_ (by repeat (first | assumption | refine (AHeap.set_ne _ _ (by first | assumption | exact Ne.symm (by assumption))).trans ?_))))) (by omega)) ?_)
      simp (decide := true) only [ev, absV, absS, putD, Slots.put, Slots.get, if_true, if_false, true_and, nthDst, guardB_bool_true, ↓ag_binOp, pop_binOp, agP, agQ_some, gKnown_bool, implies_true, decide_true, condV_true, Bool.and_true, isNilC_int, cond_false, pBinX_int, pI_eql, ↓ap_pick, pop_pick, pPick_bool, pickV_and, ↓ap_move, pop_move, ↓ag_loadL, agQL_some, agL_mk, pLoad_agg ag31 sz31, isNilC_tmp, pBinX_agg, eq31, ↓ag_move, ↓ag_cap, pop_cap, ↓ag_len, pop_len, rd_ne', ne_eq, not_false_eq_true, ne_8q5_4q5.symm, ne_8q5_7q5.symm, rd_own w₀ eb_4q5, rd_own w₀ eb_7q5, rd_any, cellsAt, List.getD_cons_zero, List.getD_cons_succ, Nat.zero_add, Nat.reduceAdd, lv_int, allLive, Bool.and_true, hlen, hcap]
      (refine aOps_yes (by rfl) ?_; refine aOps_callV (V := .bool true) (by rfl) (by rfl) (c_lives03 w₀ hm _) ?_)
      simp (decide := true) only [aOps_nil, ev, absV, absS, putD, Slots.put, Slots.get, Slots.keep, if_true, if_false, true_and, ↓ap_pick, pop_pick, pPick_bool, pickV_and, ↓ap_assign, pop_assign, Bool.and_true]
      apply hK; clear hK K
      refine awp_ret ?_
      refine retA_ret h (by repeat (first | exact Sub.refl _ | assumption | refine Sub.trans_set ?_ (by assumption))) (resPre_tmp (resPre_nil)) ?_
      simp (decide := true) only [Slots.get, if_true, and_true, resOf_one]
      skip
end Go.Proofs.YtmadddihphkmoaaGreatDoor

/-
  The arguments of the statements, opened: booleans, texts, integers, pairs of bytes; the wrap that hands on the world's shape.
  Conditions: none.
-/
namespace Go.Proofs.YtmadddihphkmoaaGreatDoor
open Go.AM
open Go.ChangeShapes Go.WideShapes Go.ChangeAt Go.RowKit
set_option maxRecDepth 100000

section
variable {H : Type} {enc : TypeId × Value → H} {W : World} {base : Nat} {v : Value} {x : DataW H × List MemPlace}
theorem arg_str {t : TypeId} (ht : Tryz.prog.underlying t = some .string) (h : ∃ fuel, DataW.trod enc Tryz.prog W 0 (fun _ => true) true fuel t v.cells.toList = some x) (hv : Value.okWide Tryz.prog W .any base t v) :
    ∃ s : List UInt8, VR (fun _ => none) (.str s) v ∧ s.length ≤ 9223372036854775807 := by
  obtain ⟨fuel, hf⟩ := h
  obtain ⟨s, rfl⟩ := okWide_string ht hv
  obtain ⟨s', h, hx, hs⟩ := DataW.trod_string ht hf
  simp [Value.cells] at h
  subst h
  exact ⟨s.data.toList, VR_strArg _ s, str_le hs⟩
end

/-- The plain wrap of a row with listed variables, the world's shape handed on. -/
theorem returns_and_shaped {H : Type} {enc : TypeId × Value → H} {a : Assume} {C : Checked} {os : Os} {f : FuncId} {fn : Func} {s : ChangeSpec} {conds : List PathCond} {apart fresh handsOn again : Bool} {X : World → Array Value → Prop}
    (hX : ∀ (w w' : World) (args : Array Value), w.heap = w'.heap → X w args → X w' args)
    (own : ownKnob C.prog.godebug = none) (started : os.Started) (noInit : C.prog.inits.idxOf? f = none) (hfn : C.prog.funcs[f]? = some fn)
    (witness : ∃ (w : World) (tape : Tape) (i : Input), w.os = os ∧ (w.forCall tape i).Shaped C.prog ∧ i.vars = [] ∧ Input.okWide C.prog (w.forCall tape i) .any w.heap.size f i ∧
      ((s.pre enc C.prog fn conds apart (w.forCall tape i).memory i.args ∧ X (w.forCall tape i).memory i.args) ∧ sizedMet enc C.prog fn (OpenSpec.ofChange s) apart (w.forCall tape i).memory i.args) ∧ a.holds C.prog (lone (Frame.enter C.prog f i.args .normal) [] (w.forCall tape i)))
    (contract : ∀ (W : World) (base : Nat) (args : Array Value) (ds gs : List (DataW H)) (before : List MemPlace), W.ShapedOpen C.prog →
      (∀ (j : Nat) t v, fn.params[j]? = some t → args[j]? = some v → Value.okWide C.prog W .any base t v) →
      DataW.Whole enc C.prog fn.params.toList s.vars apart W args.toList ds gs before →
      conds.all (PathCond.test C.prog ⟨fn.params.toList, ds, s.plain.varTypes C.prog, gs⟩) = true →
      (DataW.weightsEach C.prog (fn.params.toList ++ s.plain.varTypes C.prog) (ds ++ gs)).all (· ≤ reachBytes) = true → X W args →
      a.holds C.prog (lone (Frame.enter C.prog f args .normal) [] W) →
      Calls C.prog f args W fun e W' => ∃ v, e = .returned v ∧ s.post enc C.prog fn apart fresh handsOn again W args v W') :
    ReturnsInHanded a C os f .any (fun w args => (s.pre enc C.prog fn conds apart w args ∧ X w args) ∧ sizedMet enc C.prog fn (OpenSpec.ofChange s) apart w args) (s.post enc C.prog fn apart fresh handsOn again) := by
  refine returnsInHanded_of_calls own started noInit witness ?_
  intro w tape i _ hsh _ hok hpre hholds
  obtain ⟨_, _, _, fn', hfn', _, _, _, _, hval⟩ := hok
  have e : fn' = fn := Option.some.inj (hfn'.symm.trans hfn)
  subst e
  obtain ⟨⟨⟨ds, gs, before, hw, hc⟩, hx⟩, hz⟩ := hpre
  have hw' := DataW.Whole.of_heap (w' := w.forCall tape i) (by rfl) hw
  refine (contract (w.forCall tape i) w.heap.size i.args ds gs before hsh hval hw' hc (hz.weights hw) (hX _ _ _ (by rfl) hx) hholds).mono fun e W' ⟨v, he, hp⟩ => ?_
  subst he
  exact ChangeSpec.post_blind hp
end Go.Proofs.YtmadddihphkmoaaGreatDoor

/-
  What the world of a statement about columns gives: the listed table, the cell of the longest text.
  Conditions: none.
-/
namespace Go.Proofs.YtmadddihphkmoaaGreatDoor
open Go.AM
open Go.ChangeShapes Go.WideShapes Go.ChangeAt Go.RowKit
set_option maxRecDepth 100000
theorem maxl_of {W : World} (h : W.ShapedOpen Tryz.prog) : MaxL W :=
  cell_of_shapedOpen_int (t := 3) (zero := #[.int .i64 0]) h (of_decide_eq_true (by kernel_rfl)) (by kernel_rfl) rfl (by kernel_rfl) (by kernel_rfl) Tryz.underlying3
end Go.Proofs.YtmadddihphkmoaaGreatDoor

