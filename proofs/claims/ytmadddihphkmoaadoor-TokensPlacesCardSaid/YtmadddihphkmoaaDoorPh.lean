/-
  Texts of this proof, joined: CoR, TkR, BmB, TkS, LwR, LwS.
  Conditions: none.
-/
import Derived.Test.YtmadddihphkmoaaDoorPg
import Derived.Test.YtmadddihphkmoaaDoorPf
import Derived.Test.YtmadddihphkmoaaDoorPb
import Derived.Test.YtmadddihphkmoaaDoorProg
import Derived.WalkKit
import Derived.ProofKit
import Derived.OpenShut
import Derived.ShutString
import Derived.ChangeOld
import Derived.Below
import Derived.Deep.Strs
import Derived.Handed
import Derived.HandedShaped
import Derived.Shelf.Vars
import Derived.Test.YtmadddihphkmoaaDoorPc
import Derived.Test.YtmadddihphkmoaaDoorRows
import Derived.Lib.LaidTab
import Derived.MakeChecks
set_option linter.unusedSimpArgs false
set_option linter.unnecessarySimpa false
set_option linter.unusedVariables false
/-
  Plain law: where the bytes of the cards that Read answers stand in the source text.
  Conditions: none.
-/
namespace Go.Proofs.YtmadddihphkmoaaDoor
open Go.AM
open Go.Proofs
open Go.Col
set_option maxRecDepth 100000

/-- A part of a card: where it begins, its bytes. -/
structure PartC where
  line : Int
  col : Int
  str : Str
def partsText : List PartC → Str
  | [] => []
  | p :: ps => p.str ++ partsText ps
def marksFrom : Nat → List PartC → List MarkC
  | _, [] => []
  | n, p :: ps => ⟨n, p.line, p.col⟩ :: marksFrom (n + p.str.length) ps
def posAt : List PartC → Nat → Int × Int
  | [], _ => (0, 0)
  | [p], i => (p.line, p.col + i)
  | p :: q :: ps, i => if i < p.str.length then (p.line, p.col + i) else posAt (q :: ps) (i - p.str.length)
/-- The byte at a place of the source text, lines padded to 72 columns. -/
def byteAt (L : List Str) (line col : Int) : UInt8 := (padE (L.getD (line.toNat - 1) [])).getD (col.toNat - 1) 0
structure PartOk (L : List Str) (p : PartC) : Prop where
  ne : 0 < p.str.length
  low : 1 ≤ p.line
  high : p.line ≤ L.length
  col : 8 ≤ p.col
  fit : p.col + p.str.length ≤ 73
  byte : ∀ j : Nat, j < p.str.length → p.str.getD j 0 = byteAt L p.line (p.col + j)
def Asc (ps : List PartC) : Prop := ps.Pairwise fun p q => p.line < q.line

theorem getD_l {α : Type} {a b : List α} {d : α} {i : Nat} (h : i < a.length) : (a ++ b).getD i d = a.getD i d := by
  simp only [List.getD, List.getElem?_append_left h]
theorem getD_r {α : Type} {a b : List α} {d : α} {i : Nat} (h : a.length ≤ i) : (a ++ b).getD i d = b.getD (i - a.length) d := by
  simp only [List.getD, List.getElem?_append_right h]
theorem dropWhile_nil {α : Type} {p : α → Bool} : ∀ {l : List α}, l.dropWhile p = [] → ∀ x ∈ l, p x = true
  | [], _, x, hx => by cases hx
  | y :: l, h, x, hx => by
    rw [List.dropWhile_cons] at h
    split at h
    · rename_i hy
      rcases List.mem_cons.1 hx with rfl | hx
      · exact hy
      · exact dropWhile_nil h x hx
    · cases h
theorem partsText_append (a b : List PartC) : partsText (a ++ b) = partsText a ++ partsText b := by
  induction a with
  | nil => rfl
  | cons p a ih => simp only [List.cons_append, partsText, ih, List.append_assoc]
theorem marksFrom_append : ∀ (a b : List PartC) (n : Nat), marksFrom n (a ++ b) = marksFrom n a ++ marksFrom (n + (partsText a).length) b
  | [], b, n => rfl
  | p :: a, b, n => by
    simp only [List.cons_append, marksFrom, partsText, List.length_append]
    rw [marksFrom_append a b, Nat.add_assoc]
theorem marksFrom_above : ∀ (ps : List PartC) (n : Nat), ∀ m ∈ marksFrom n ps, (n : Int) ≤ m.frm
  | [], n, m, h => by cases h
  | p :: ps, n, m, h => by
    rcases List.mem_cons.1 h with rfl | h
    · exact Int.le_refl _
    · have := marksFrom_above ps _ m h
      omega
theorem atGo_above {i : Int} : ∀ (ms : List MarkC) (p : Int × Int), (∀ m ∈ ms, i < m.frm) → atGo i ms p = p
  | [], p, _ => rfl
  | m :: ms, p, h => by
    rw [atGo, if_neg (by have := h m (by simp); omega)]
    exact atGo_above ms p fun x hx => h x (by simp [hx])
theorem at_parts : ∀ (ps : List PartC) (n i : Nat) (p0 : Int × Int), ps ≠ [] → atGo ((n + i : Nat) : Int) (marksFrom n ps) p0 = posAt ps i
  | [], _, _, _, h => absurd rfl h
  | [p], n, i, p0, _ => by
    show (if ((n : Int)) ≤ ((n + i : Nat) : Int) then (p.line, p.col + ((n + i : Nat) : Int) - (n : Int)) else p0) = (p.line, p.col + (i : Int))
    rw [if_pos (by omega)]
    congr 1
    omega
  | p :: q :: ps, n, i, p0, _ => by
    rw [marksFrom, atGo, if_pos (show ((n : Nat) : Int) ≤ ((n + i : Nat) : Int) by omega), posAt]
    by_cases hi : i < p.str.length
    · rw [if_pos hi, atGo_above _ _ (fun m hm => by have := marksFrom_above _ _ m hm; omega)]
      show (p.line, p.col + ((n + i : Nat) : Int) - (n : Int)) = _
      congr 1
      omega
    · rw [if_neg hi, show n + i = (n + p.str.length) + (i - p.str.length) by omega]
      exact at_parts (q :: ps) (n + p.str.length) (i - p.str.length) _ (by simp)
theorem valid_parts (c : CardC) {L : List Str} : ∀ (ps : List PartC) (n : Nat) (b : Int), b < n → n + (partsText ps).length ≤ c.text.length → (∀ p ∈ ps, PartOk L p) → validC.go c b (marksFrom n ps) = true
  | [], _, _, _, _, _ => rfl
  | p :: ps, n, b, hb, hn, hp => by
    have h := hp p (by simp)
    have h1 := h.ne
    have h2 := h.low
    have h3 := h.col
    have h4 := h.fit
    simp only [partsText, List.length_append] at hn
    rw [marksFrom, validC.go, Bool.and_eq_true]
    refine ⟨decide_eq_true ⟨hb, by simp only; omega, h2, h3, by simp only; omega⟩, ?_⟩
    exact valid_parts c ps _ _ (by simp only; omega) (by omega) fun q hq => hp q (by simp [hq])
/-- A card and its parts. -/
structure CardOk (L : List Str) (c : CardC) (ps : List PartC) : Prop where
  text : c.text = partsText ps
  marks : c.marks = marksFrom 0 ps
  parts : ∀ p ∈ ps, PartOk L p
  asc : Asc ps
theorem CardOk.valid {L : List Str} {c : CardC} {ps : List PartC} (h : CardOk L c ps) (hn : ps ≠ []) : validC c = true := by
  cases ps with
  | nil => exact absurd rfl hn
  | cons p ps =>
    have hm := h.marks
    rw [validC_eq (by rw [hm, marksFrom]; simp)]
    rw [Bool.and_eq_true]
    refine ⟨?_, ?_⟩
    · rw [hm, marksFrom]; rfl
    · rw [hm]; exact valid_parts c (p :: ps) 0 (-1) (by omega) (by rw [h.text]; omega) h.parts
theorem CardOk.at {L : List Str} {c : CardC} {ps : List PartC} (h : CardOk L c ps) (hn : ps ≠ []) {k : Nat} (hk : k ≤ c.text.length) : atE c k = ((posAt ps k).1, (posAt ps k).2, 0) := by
  unfold atE
  rw [if_pos ⟨h.valid hn, by omega, by omega⟩, h.marks]
  have := at_parts ps 0 k (0, 0) hn
  rw [Nat.zero_add] at this
  rw [this]
/-- The place of a byte: its part. -/
theorem posAt_mem {L : List Str} : ∀ (ps : List PartC) (k : Nat), (∀ p ∈ ps, PartOk L p) → k < (partsText ps).length → ∃ p ∈ ps, ∃ j : Nat, j < p.str.length ∧ posAt ps k = (p.line, p.col + j) ∧ (partsText ps).getD k 0 = p.str.getD j 0
  | [], k, _, h => by simp [partsText] at h
  | [p], k, hp, h => by
    simp only [partsText, List.append_nil] at h ⊢
    exact ⟨p, by simp, k, h, rfl, rfl⟩
  | p :: q :: ps, k, hp, h => by
    rw [posAt]
    by_cases hk : k < p.str.length
    · rw [if_pos hk]
      refine ⟨p, by simp, k, hk, rfl, ?_⟩
      rw [partsText, getD_l hk]
    · rw [if_neg hk]
      have hl : (partsText (p :: q :: ps)).length = p.str.length + (partsText (q :: ps)).length := by rw [partsText, List.length_append]
      obtain ⟨r, hr, j, h1, h2, h3⟩ := posAt_mem (q :: ps) (k - p.str.length) (fun x hx => hp x (by simp only [List.mem_cons] at hx ⊢; exact .inr hx)) (by omega)
      refine ⟨r, by simp only [List.mem_cons] at hr ⊢; exact .inr hr, j, h1, h2, ?_⟩
      rw [partsText, getD_r (by omega)]
      exact h3
theorem posAt_line {ps : List PartC} (hn : ps ≠ []) (k : Nat) : ∃ p ∈ ps, (posAt ps k).1 = p.line := by
  induction ps generalizing k with
  | nil => exact absurd rfl hn
  | cons p ps ih =>
    cases ps with
    | nil => exact ⟨p, by simp, rfl⟩
    | cons q ps =>
      rw [posAt]
      split
      · exact ⟨p, by simp, rfl⟩
      · obtain ⟨r, hr, h⟩ := ih (by simp) (k - p.str.length)
        exact ⟨r, by simp only [List.mem_cons] at hr ⊢; exact .inr hr, h⟩
theorem posAt_next {L : List Str} : ∀ (ps : List PartC) (k : Nat), (∀ p ∈ ps, PartOk L p) → Asc ps → k + 1 < (partsText ps).length → (posAt ps k).1 < (posAt ps (k + 1)).1 ∨ ((posAt ps (k + 1)).1 = (posAt ps k).1 ∧ (posAt ps (k + 1)).2 = (posAt ps k).2 + 1)
  | [], k, _, _, h => by simp [partsText] at h
  | [p], k, _, _, h => .inr ⟨rfl, by show p.col + ((k + 1 : Nat) : Int) = p.col + (k : Int) + 1; omega⟩
  | p :: q :: ps, k, hp, ha, h => by
    have hl : (partsText (p :: q :: ps)).length = p.str.length + (partsText (q :: ps)).length := by rw [partsText, List.length_append]
    rw [posAt, posAt]
    by_cases h1 : k + 1 < p.str.length
    · rw [if_pos h1, if_pos (by omega)]
      exact .inr ⟨rfl, by simp only; omega⟩
    · rw [if_neg h1]
      by_cases h2 : k < p.str.length
      · rw [if_pos h2]
        obtain ⟨r, hr, e⟩ := posAt_line (ps := q :: ps) (by simp) (k + 1 - p.str.length)
        refine .inl ?_
        rw [e]
        exact (List.pairwise_cons.1 ha).1 r hr
      · rw [if_neg h2, show k + 1 - p.str.length = (k - p.str.length) + 1 by omega]
        exact posAt_next (q :: ps) (k - p.str.length) (fun x hx => hp x (by simp only [List.mem_cons] at hx ⊢; exact .inr hx)) (List.pairwise_cons.1 ha).2 (by omega)
/-! ### What Read collects -/
theorem addC_ok {L : List Str} {c : CardC} {ps : List PartC} (h : CardOk L c ps) {line col : Int} {text : Str} (hp : ∀ t, t <+: text → 0 < t.length → PartOk L ⟨line, col, t⟩) (ha : ∀ p ∈ ps, p.line < line) :
    ∃ qs, CardOk L (addC c line col text) (ps ++ qs) ∧ (∀ q ∈ qs, q.line = line) ∧ qs.length ≤ 1 ∧ (trimR text ≠ [] → text ≠ [] → qs ≠ []) := by
  obtain ⟨t, ht⟩ : ∃ t, t = if oddQ (c.text ++ text) then text else trimR text := ⟨_, rfl⟩
  have hpre : t <+: text := by
    rw [ht]
    split
    · exact List.prefix_refl _
    · unfold trimR
      exact List.reverse_suffix.1 (by rw [List.reverse_reverse]; exact List.dropWhile_suffix _)
  have hc : addC c line col text = ⟨c.left, c.text ++ t, if t = [] then c.marks else c.marks ++ [⟨c.text.length, line, col⟩]⟩ := by unfold addC; rw [ht]
  by_cases h0 : t = []
  · refine ⟨[], ?_, by simp, by simp, fun h1 h2 => ?_⟩
    · rw [hc, h0, if_pos rfl, List.append_nil, List.append_nil]
      exact ⟨h.text, h.marks, h.parts, h.asc⟩
    · rw [h0] at ht
      split at ht
      · exact absurd ht.symm h2
      · exact absurd ht.symm h1
  · refine ⟨[⟨line, col, t⟩], ?_, by simp, by simp, by simp⟩
    rw [hc, if_neg h0]
    refine ⟨?_, ?_, ?_, ?_⟩
    · simp only [partsText_append, partsText, List.append_nil, h.text]
    · simp only [marksFrom_append, marksFrom, Nat.zero_add, h.marks, h.text]
    · intro p hq
      rcases List.mem_append.1 hq with hq | hq
      · exact h.parts p hq
      · rw [List.mem_singleton.1 hq]
        exact hp t hpre (List.length_pos_iff.2 h0)
    · refine List.pairwise_append.2 ⟨h.asc, List.pairwise_singleton _ _, fun p hq q hr => ?_⟩
      rw [List.mem_singleton.1 hr]
      exact ha p hq
/-- Cards with their parts, ahead of a line. -/
structure RdOk (L : List Str) (n : Nat) (x : Rd) (ys : List (CardC × List PartC)) : Prop where
  cards : x.cards = ys.map (·.1)
  ok : ∀ y ∈ ys, CardOk L y.1 y.2
  ne : ∀ y ∈ ys, y.2 ≠ []
  asc : Asc (ys.flatMap (·.2))
  low : ∀ y ∈ ys, ∀ p ∈ y.2, p.line < n
theorem RdOk.next {L : List Str} {n : Nat} {x : Rd} {ys : List (CardC × List PartC)} (h : RdOk L n x ys) : RdOk L (n + 1) x ys :=
  ⟨h.cards, h.ok, h.ne, h.asc, fun y hy p hp => by have := h.low y hy p hp; omega⟩
/-- What a counting row gives. -/
structure RowOk (L : List Str) (n : Nat) (r : RowC) : Prop where
  line : r.line = n
  part : ∀ (d : Nat) (t : Str), t <+: r.text.drop d → 0 < t.length → PartOk L ⟨n, r.col + d, t⟩
  ne : r.text ≠ []
  trim : trimR r.text ≠ []
theorem trimL_drop (s : Str) : trimL s = s.drop (s.length - (trimL s).length) := by
  obtain ⟨k, h1, _⟩ := trimL_split s
  have h2 := congrArg List.length h1
  rw [List.length_append, List.length_replicate] at h2
  have : s.length - (trimL s).length = k := by omega
  rw [this]
  conv => rhs; rw [h1]
  rw [List.drop_left' (by simp)]
theorem lineE_row {s : Str} {n : Nat} {dbg : Bool} {r : RowC} (h : lineE s n dbg = (r, true, okF)) : s.length ≤ 80 ∧ r = rowE s n ∧ r.text ≠ [] := by
  have h1 := (lineE_small (s := s) (line := n) (dbg := dbg)).2
  rw [h] at h1
  have hne := (h1 rfl).1
  by_cases h80 : 80 < s.length
  · unfold lineE at h; rw [if_pos h80] at h; cases h
  · refine ⟨by omega, ?_, hne⟩
    cases hb : badAt s with
    | some i => unfold lineE at h; rw [if_neg h80, hb] at h; cases h
    | none =>
      rw [lineE_none h80 hb] at h
      split at h
      · cases h
      · split at h
        · exact (congrArg (·.1) h).symm
        · split at h
          · exact (congrArg (·.1) h).symm
          · cases h
theorem row_ok {L : List Str} {s : Str} {n : Nat} {dbg : Bool} {r : RowC} (h : lineE s n dbg = (r, true, okF)) (h1 : 1 ≤ n) (h2 : n ≤ L.length) (hs : L.getD (n - 1) [] = s) : RowOk L n r := by
  obtain ⟨h80, rfl, hne⟩ := lineE_row h
  obtain ⟨T, hT⟩ : ∃ T, T = ((padE s).drop 7).take 65 := ⟨_, rfl⟩
  have hp := padE_len h80
  have hTl : T.length = 65 := by rw [hT, List.length_take, List.length_drop]; omega
  have htx : (rowE s n).text = trimL T := by rw [hT]; rfl
  have hcol : (rowE s n).col = 73 - ((trimL T).length : Int) := by rw [hT]; rfl
  have hle := trimL_le T
  have hd := trimL_drop T
  obtain ⟨m, hm⟩ : ∃ m, m = (trimL T).length := ⟨_, rfl⟩
  rw [← hm] at hcol hle hd
  rw [hTl] at hle hd
  have htl2 : (trimL T).head? ≠ some 32 := by obtain ⟨_, _, q⟩ := trimL_split T; exact q
  refine ⟨rfl, fun d t ht hl => ?_, hne, ?_⟩
  · rw [htx] at ht
    obtain ⟨rest, hr⟩ := ht
    have hlen := congrArg List.length hr
    rw [List.length_append, List.length_drop, ← hm] at hlen
    refine ⟨hl, by simp only; omega, by simp only; omega, by simp only [hcol]; omega, by simp only [hcol]; omega, fun j hj => ?_⟩
    simp only
    unfold byteAt
    rw [hcol, show ((n : Int)).toNat - 1 = n - 1 by omega, hs, show ((73 : Int) - (m : Int) + (d : Int) + (j : Int)).toNat - 1 = 72 - m + d + j by simp only at hj; omega]
    have e1 : t.getD j 0 = (t ++ rest).getD j 0 := (getD_l hj).symm
    rw [e1, hr, hd, hT]
    simp only [List.getD_eq_getElem?_getD, List.getElem?_drop]
    rw [List.getElem?_take_of_lt (by simp only at hj; omega), List.getElem?_drop]
    congr 2
    simp only at hj
    omega
  · rw [htx] at hne ⊢
    intro e
    unfold trimR at e
    rw [List.reverse_eq_nil_iff] at e
    replace e := dropWhile_nil e
    cases hx : trimL T with
    | nil => exact hne hx
    | cons b u =>
      rw [hx] at htl2 e
      have := e b (by simp)
      simp only [beq_iff_eq] at this
      exact htl2 (by rw [this]; rfl)
theorem RdOk.flat {L : List Str} {n : Nat} {x : Rd} {ys : List (CardC × List PartC)} (h : RdOk L n x ys) : ∀ p ∈ ys.flatMap (fun y => y.2), p.line < (n : Int) := by
  intro p hp
  obtain ⟨y, hy, hp⟩ := List.mem_flatMap.1 hp
  exact h.low y hy p hp
theorem add_new {L : List Str} {n : Nat} {x : Rd} {ys : List (CardC × List PartC)} (h : RdOk L n x ys) {r : RowC} (hr : RowOk L n r) (b : Bool) : ∃ zs, RdOk L (n + 1) (addE { x with cards := x.cards ++ [⟨b, [], []⟩] } r.line r.col r.text) zs := by
  have h0 : CardOk L ⟨b, [], []⟩ [] := ⟨rfl, rfl, by simp, .nil⟩
  obtain ⟨qs, q1, q2, q3, q4⟩ := addC_ok h0 (line := r.line) (col := r.col) (text := r.text) (fun t ht hl => by have := hr.part 0 t ht hl; rw [hr.line]; simpa using this) (by simp)
  rw [addE_last (x := { x with cards := x.cards ++ [⟨b, [], []⟩] }) rfl]
  rw [List.nil_append] at q1
  have hl : ∀ q ∈ qs, q.line = n := fun q hq => by rw [q2 q hq, hr.line]
  refine ⟨ys ++ [(addC ⟨b, [], []⟩ r.line r.col r.text, qs)], ?_, ?_, ?_, ?_, ?_⟩
  · simp only [List.map_append, h.cards, List.map_cons, List.map_nil]
  · intro y hy
    rcases List.mem_append.1 hy with hy | hy
    · exact h.ok y hy
    · rw [List.mem_singleton.1 hy]; exact q1
  · intro y hy
    rcases List.mem_append.1 hy with hy | hy
    · exact h.ne y hy
    · rw [List.mem_singleton.1 hy]; exact q4 hr.trim hr.ne
  · rw [List.flatMap_append]
    refine List.pairwise_append.2 ⟨h.asc, by simp only [List.flatMap_cons, List.flatMap_nil, List.append_nil]; exact q1.asc, fun p hp q hq => ?_⟩
    simp only [List.flatMap_cons, List.flatMap_nil, List.append_nil] at hq
    rw [hl q hq]
    exact h.flat p hp
  · intro y hy p hp
    rcases List.mem_append.1 hy with hy | hy
    · have := h.low y hy p hp; omega
    · rw [List.mem_singleton.1 hy] at hp
      rw [hl p hp]; omega
theorem add_more {L : List Str} {n : Nat} {x : Rd} {ys : List (CardC × List PartC)} (h : RdOk L n x ys) (hn : x.cards ≠ []) {line col : Int} {text : Str} (hl : line = n) (hp : ∀ t, t <+: text → 0 < t.length → PartOk L ⟨line, col, t⟩) : ∃ zs, RdOk L (n + 1) (addE x line col text) zs := by
  rcases List.eq_nil_or_concat ys with e | ⟨zs, y, e⟩
  · exact absurd (by rw [h.cards, e]; rfl) hn
  · rw [List.concat_eq_append] at e
    subst e
    obtain ⟨c, ps⟩ := y
    have hc : x.cards = zs.map (·.1) ++ [c] := by rw [h.cards]; simp
    have hy := h.ok (c, ps) (by simp)
    obtain ⟨qs, q1, q2, q3, q4⟩ := addC_ok hy (line := line) (col := col) (text := text) hp (fun p hp => by rw [hl]; exact h.low (c, ps) (by simp) p hp)
    rw [addE_last hc]
    have hql : ∀ q ∈ qs, q.line = n := fun q hq => by rw [q2 q hq, hl]
    refine ⟨zs ++ [(addC c line col text, ps ++ qs)], ?_, ?_, ?_, ?_, ?_⟩
    · simp
    · intro y hy
      rcases List.mem_append.1 hy with hy | hy
      · exact h.ok y (by simp [hy])
      · rw [List.mem_singleton.1 hy]; exact q1
    · intro y hy
      rcases List.mem_append.1 hy with hy | hy
      · exact h.ne y (by simp [hy])
      · rw [List.mem_singleton.1 hy]
        have := h.ne (c, ps) (by simp)
        simp only at this ⊢
        intro e
        exact this (List.append_eq_nil_iff.1 e).1
    · have ha := h.asc
      have hf := h.flat
      simp only [List.flatMap_append, List.flatMap_cons, List.flatMap_nil, List.append_nil] at ha hf ⊢
      rw [← List.append_assoc]
      refine List.pairwise_append.2 ⟨ha, (List.pairwise_append.1 q1.asc).2.1, fun p hp q hq => ?_⟩
      rw [hql q hq]
      exact hf p hp
    · intro y hy p hp
      rcases List.mem_append.1 hy with hy | hy
      · have := h.low y (by simp [hy]) p hp; omega
      · rw [List.mem_singleton.1 hy] at hp
        simp only at hp
        rcases List.mem_append.1 hp with hp | hp
        · have := h.low (c, ps) (by simp) p hp; omega
        · rw [hql p hp]; omega
theorem take_ok {L : List Str} {n : Nat} {x : Rd} {ys : List (CardC × List PartC)} (h : RdOk L n x ys) {r : RowC} (hr : RowOk L n r) (hf : (takeE x r).2 = okF) : ∃ zs, RdOk L (n + 1) (takeE x r).1 zs := by
  have hb : ∀ {a b c : Int}, a ≠ 0 → ¬ ((⟨a, b, c⟩ : FaultC) = okF) := fun ha e => ha (congrArg FaultC.e e)
  unfold takeE at hf ⊢
  split at hf
  · exact absurd hf (hb (by decide))
  · rename_i c1
    rw [if_neg c1]
    split at hf
    · rename_i c2
      rw [if_pos c2]
      exact add_new h hr _
    · rename_i c2
      rw [if_neg c2]
      split at hf
      · exact absurd hf (hb (by decide))
      · rename_i c3
        rw [if_neg c3]
        split at hf
        · exact absurd hf (hb (by decide))
        · rename_i c4
          rw [if_neg c4]
          split at hf
          · rename_i c5
            rw [if_pos c5]
            exact add_more h c3 hr.line (fun t ht hl => by have := hr.part 1 t ht hl; rw [hr.line]; simpa using this)
          · rename_i c5
            rw [if_neg c5]
            exact add_more h c3 hr.line (fun t ht hl => by have := hr.part 0 t ht hl; rw [hr.line]; simpa using this)
theorem readL_ok {L : List Str} (dbg : Bool) : ∀ (ls : List Str) (n : Nat) (x : Rd) (ys : List (CardC × List PartC)), RdOk L n x ys → 1 ≤ n → n + ls.length ≤ L.length + 1 → (∀ j, j < ls.length → L.getD (n - 1 + j) [] = ls.getD j []) → (readL dbg ls n x).2 = okF → ∃ m zs, RdOk L m (readL dbg ls n x).1 zs
  | [], n, x, ys, h, _, _, _, _ => ⟨n, ys, h⟩
  | s :: ls, n, x, ys, h, h1, h2, h3, hf => by
    have e1 : ((n : Int) + 1) = ((n + 1 : Nat) : Int) := by omega
    have hs : L.getD (n - 1) [] = s := by have := h3 0 (by simp); simpa using this
    rw [List.length_cons] at h2
    have h3' : ∀ j, j < ls.length → L.getD (n + 1 - 1 + j) [] = ls.getD j [] := fun j hj => by
      have := h3 (j + 1) (by simp; omega)
      rw [show n - 1 + (j + 1) = n + 1 - 1 + j by omega] at this
      simpa using this
    cases hp : lineE s n dbg with
    | mk r q =>
      obtain ⟨cn, f⟩ := q
      by_cases hff : f = okF
      · cases cn with
        | false =>
          rw [readL_skip hp hff, e1] at hf ⊢
          exact readL_ok dbg ls (n + 1) x ys h.next (by omega) (by omega) h3' hf
        | true =>
          subst hff
          have hr : RowOk L n r := row_ok hp h1 (by omega) hs
          by_cases hg : (takeE x r).2 = okF
          · rw [readL_take hp rfl hg, e1] at hf ⊢
            obtain ⟨zs, hz⟩ := take_ok h hr hg
            exact readL_ok dbg ls (n + 1) _ zs hz (by omega) (by omega) h3' hf
          · rw [readL_bad hp rfl hg] at hf
            exact absurd hf hg
      · rw [readL_fault hp hff] at hf
        exact absurd hf hff
theorem splitNL_ne : ∀ s : Str, splitNL s ≠ []
  | [] => by simp [splitNL]
  | b :: s => by unfold splitNL; split <;> (try split) <;> simp
theorem splitNL_cat : ∀ (a b : Str), splitNL (a ++ 10 :: b) = splitNL a ++ splitNL b
  | [], b => by show splitNL (10 :: b) = [] :: splitNL b; rw [splitNL, if_pos rfl]
  | x :: a, b => by
    rw [List.cons_append, splitNL, splitNL]
    by_cases h : x = 10
    · rw [if_pos h, if_pos h, splitNL_cat a b, List.cons_append]
    · rw [if_neg h, if_neg h, splitNL_cat a b]
      cases hq : splitNL a with
      | nil => exact absurd hq (splitNL_ne a)
      | cons l ls => rfl
theorem splitNL_trim (s : Str) : splitNL (trimNL s) = splitNL s ∨ splitNL s = splitNL (trimNL s) ++ [[]] := by
  unfold trimNL
  by_cases h : s.getLast? = some 10
  · rw [if_pos h]
    refine .inr ?_
    obtain ⟨t, ht⟩ : ∃ t, s = t ++ [10] := by
      rcases List.eq_nil_or_concat s with e | ⟨t, x, e⟩
      · rw [e] at h; cases h
      · rw [List.concat_eq_append] at e
        rw [e, List.getLast?_append] at h
        cases h
        exact ⟨t, e⟩
    rw [ht, List.dropLast_concat, splitNL_cat]
    rfl
  · rw [if_neg h]; exact .inl rfl
theorem readE_parts {text : Str} {dbg : Bool} (hf : (readE text dbg).2 = okF) : ∃ n x ys, RdOk (splitNL text) n x ys ∧ (readE text dbg).1 = ys.map (·.1) := by
  have h0 : RdOk (splitNL text) 1 .start [] := ⟨rfl, by simp, by simp, .nil, by simp⟩
  have hpre : ∀ j, j < (splitNL (trimNL text)).length → (splitNL text).getD (1 - 1 + j) [] = (splitNL (trimNL text)).getD j [] := fun j hj => by
    rw [Nat.sub_self, Nat.zero_add]
    rcases splitNL_trim text with e | e
    · rw [e]
    · rw [e, getD_l hj]
  have hlen : 1 + (splitNL (trimNL text)).length ≤ (splitNL text).length + 1 := by
    rcases splitNL_trim text with e | e
    · rw [e]; omega
    · rw [e, List.length_append]; omega
  by_cases hl : text.length ≤ 1048576
  · have hro := readL_ok (L := splitNL text) dbg (splitNL (trimNL text)) 1 .start [] h0 (Nat.le_refl _) hlen hpre
    cases hq : readL dbg (splitNL (trimNL text)) 1 .start with
    | mk x f =>
      by_cases hff : f = okF
      · subst hff
        have hq' : readL dbg (splitNL (trimNL text)) ((1 : Nat) : Int) .start = (x, okF) := hq
        rw [hq'] at hro
        obtain ⟨m, zs, hz⟩ := hro rfl
        cases ho : x.odd with
        | true =>
          rw [readE_odd hl hq ho] at hf
          exact absurd (congrArg FaultC.e hf) (show ¬ ((4 : Int) = 0) by decide)
        | false =>
          rw [readE_ok hl hq ho]
          exact ⟨m, x, zs, hz, hz.cards⟩
      · rw [readE_fault hl hq hff] at hf
        exact absurd hf hff
  · unfold readE at hf
    rw [if_pos (by omega)] at hf
    exact absurd (congrArg FaultC.e hf) (by decide)

end Go.Proofs.YtmadddihphkmoaaDoor

/-
  The plain law of places: where the tokens of a source text stand.
  Conditions: none.
-/
namespace Go.Proofs.YtmadddihphkmoaaDoor
open Go.AM
open Go.Proofs
open Go.Col
open Go.Tok
set_option maxRecDepth 100000

theorem padE_atT {s : Str} {i : Nat} (h : i < 72) : (padE s).getD i 0 = if i < s.length then s.getD i 0 else 32 := by
  unfold padE sp
  by_cases hi : i < s.length
  · rw [if_pos hi, List.getD, List.getElem?_append_left hi]
    rfl
  · rw [if_neg hi, List.getD, List.getElem?_append_right (by omega), List.getElem?_replicate, if_pos (by omega)]
    rfl
def lexP (a b : Int × Int) : Prop := a.1 < b.1 ∨ (a.1 = b.1 ∧ a.2 < b.2)
theorem lexP.trans {a b c : Int × Int} (h : lexP a b) (h' : lexP b c) : lexP a c := by unfold lexP at *; omega
def posT (t : TokC) : Int × Int := (t.line, t.col)
def lineT (L : List Str) (t : TokC) : Str := L.getD (t.line.toNat - 1) []
/-- What is true of a token's place. -/
structure PlOk (L : List Str) (t : TokC) : Prop where
  l0 : 1 ≤ t.line
  l1 : t.line ≤ L.length
  c0 : 8 ≤ t.col
  c1 : t.col ≤ (lineT L t).length
  left : t.left = decide (t.col < 12)
  ne : t.text ≠ []
  quote : t.kind = 3 → (lineT L t).getD (t.col.toNat - 1) 0 = 34
  other : t.kind ≠ 3 → foldB ((lineT L t).getD (t.col.toNat - 1) 0) = t.text.getD 0 0
theorem posAt_lt {L : List Str} {ps : List PartC} (h1 : ∀ p ∈ ps, PartOk L p) (h2 : Asc ps) : ∀ (d j : Nat), j + d + 1 < (partsText ps).length → lexP (posAt ps j) (posAt ps (j + d + 1))
  | 0, j, h => by
    have := posAt_next ps j h1 h2 h
    unfold lexP
    rcases this with q | ⟨q1, q2⟩
    · exact .inl q
    · exact .inr ⟨by rw [Nat.add_zero, q1], by rw [Nat.add_zero, q2]; omega⟩
  | d + 1, j, h => by
    have ih := posAt_lt h1 h2 d j (by omega)
    refine ih.trans ?_
    have := posAt_next ps (j + d + 1) h1 h2 (by omega)
    rw [show j + (d + 1) + 1 = j + d + 1 + 1 by omega]
    unfold lexP
    rcases this with q | ⟨q1, q2⟩
    · exact .inl q
    · exact .inr ⟨q1.symm, by rw [q2]; omega⟩
theorem tok_place {L : List Str} {c : CardC} {ps : List PartC} (h : CardOk L c ps) (hn : ps ≠ []) {j : Nat} {l : List TokC} (hj : j < c.text.length) (h32 : peekE c.text j ≠ 32) (he : (nextE c.text j l).e = 0) : PlOk L (tokAt c j (nextE c.text j l)) ∧ posT (tokAt c j (nextE c.text j l)) = posAt ps j := by
  have hk : c.text.getD j 0 ≠ 32 := by rwa [peekE_lt hj] at h32
  have hx := next_ok hj hk he
  have hat := h.at hn (k := j) (by omega)
  obtain ⟨p, hp, k, k1, k2, k3⟩ := posAt_mem (L := L) ps j h.parts (by rw [← h.text]; exact hj)
  have ho := h.parts p hp
  have o1 := ho.low
  have o2 := ho.high
  have o3 := ho.col
  have o4 := ho.fit
  have ob := ho.byte k k1
  rw [← h.text] at k3
  rw [← k3] at ob
  have e1 : (tokAt c j (nextE c.text j l)).line = p.line := by show (atE c j).1 = _; rw [hat, k2]
  have e2 : (tokAt c j (nextE c.text j l)).col = p.col + k := by show (atE c j).2.1 = _; rw [hat, k2]
  have e3 : (tokAt c j (nextE c.text j l)).left = decide ((tokAt c j (nextE c.text j l)).col < 12) := rfl
  have el : lineT L (tokAt c j (nextE c.text j l)) = L.getD (p.line.toNat - 1) [] := by unfold lineT; rw [e1]
  have hb : (p.col + (k : Int)).toNat - 1 < 72 := by omega
  unfold byteAt at ob
  rw [padE_atT hb] at ob
  have hin : (p.col + (k : Int)).toNat - 1 < (L.getD (p.line.toNat - 1) []).length := by
    refine Nat.lt_of_not_le fun q => hk ?_
    rw [ob, if_neg (by omega)]
  rw [if_pos hin] at ob
  refine ⟨⟨by rw [e1]; exact o1, by rw [e1]; exact o2, by rw [e2]; omega, by rw [e2, el]; omega, e3, hx.ne, fun q => ?_, fun q => ?_⟩, ?_⟩
  · rw [el, e2, ← ob]
    exact hx.quote q
  · rw [el, e2, ← ob]
    exact (hx.other q).symm
  · show ((atE c j).1, (atE c j).2.1) = _
    rw [hat]
def lexT (a b : TokC) : Prop := lexP (posT a) (posT b)
theorem card_places {L : List Str} {c : CardC} {ps : List PartC} (h : CardOk L c ps) (hn : ps ≠ []) : ∀ (f i : Nat) (l : List TokC), (∀ t ∈ l, PlOk L t) → l.Pairwise lexT → (∀ t ∈ l, ∀ j, i ≤ j → j < c.text.length → lexP (posT t) (posAt ps j)) →
    (∀ t ∈ (cardGo c f i l).1, PlOk L t) ∧ (cardGo c f i l).1.Pairwise lexT ∧ ∀ t ∈ (cardGo c f i l).1, t ∈ l ∨ ∃ p ∈ ps, t.line = p.line
  | 0, i, l, h1, h2, h3 => ⟨h1, h2, fun t ht => .inl ht⟩
  | f + 1, i, l, h1, h2, h3 => by
    have hjg := skipE_ge c.text (picE l).1 i
    rw [cardGo_step]
    split
    · exact ⟨h1, h2, fun t ht => .inl ht⟩
    · rename_i hl
      split
      · exact ⟨h1, h2, fun t ht => .inl ht⟩
      · rename_i he
        have he0 := errE_ok (Decidable.of_not_not he)
        have hx := next_len (by omega) he0
        have hx0 := hx.n0
        have hx1 := hx.n1
        obtain ⟨j, hj⟩ : ∃ j, j = skipE c.text (picE l).1 i := ⟨_, rfl⟩
        have h32 := skip_not (s := c.text) (next := (picE l).1) (i := i) (by omega)
        rw [← hj] at he0 hx0 hx1 h32 hjg hl ⊢
        obtain ⟨p1, p2⟩ := tok_place h hn (by omega) h32 he0
        obtain ⟨q, hq, eq⟩ := posAt_line hn j
        have ih := card_places h hn f (j + (nextE c.text j l).n) (l ++ [tokAt c j (nextE c.text j l)]) (fun t ht => by
          rw [List.mem_append, List.mem_singleton] at ht
          rcases ht with ht | rfl
          · exact h1 t ht
          · exact p1) (by
          refine List.pairwise_append.2 ⟨h2, List.pairwise_singleton _ _, fun a ha b hb => ?_⟩
          rw [List.mem_singleton.1 hb]
          unfold lexT
          rw [p2]
          exact h3 a ha j hjg (by omega)) (fun t ht k k1 k2 => by
          rw [List.mem_append, List.mem_singleton] at ht
          rcases ht with ht | rfl
          · exact h3 t ht k (by omega) k2
          · rw [p2, show k = j + (k - j - 1) + 1 by omega]
            exact posAt_lt h.parts h.asc _ _ (by rw [← h.text]; omega))
        refine ⟨ih.1, ih.2.1, fun t ht => ?_⟩
        rcases ih.2.2 t ht with ht | ht
        · rw [List.mem_append, List.mem_singleton] at ht
          rcases ht with ht | rfl
          · exact .inl ht
          · refine .inr ⟨q, hq, ?_⟩
            rw [← eq, ← p2]
            rfl
        · exact .inr ht
theorem scan_places {L : List Str} : ∀ (ys : List (CardC × List PartC)) (S : List Int) (l : List TokC), (∀ y ∈ ys, CardOk L y.1 y.2) → (∀ y ∈ ys, y.2 ≠ []) → Asc (ys.flatMap (·.2)) → (∀ s ∈ S, ∀ p ∈ ys.flatMap (·.2), s < p.line) → (∀ t ∈ l, PlOk L t) → l.Pairwise lexT → (∀ t ∈ l, t.line ∈ S) →
    (∀ t ∈ (scanGo (ys.map (·.1)) l).1, PlOk L t) ∧ (scanGo (ys.map (·.1)) l).1.Pairwise lexT
  | [], S, l, _, _, _, _, h1, h2, _ => ⟨h1, h2⟩
  | y :: ys, S, l, g1, g2, g3, g4, h1, h2, h3 => by
    rw [List.map_cons, scanGo]
    split
    · exact And.intro (fun t ht => (by cases ht)) List.Pairwise.nil
    · rename_i hf
      have ho := g1 y (by simp)
      have hn := g2 y (by simp)
      have hv : (atE y.1 0).2.2 = 0 := by rw [show (0 : Int) = ((0 : Nat) : Int) from rfl, ho.at hn (Nat.zero_le _)]; rfl
      have hc : cardT y.1 l = cardGo y.1 (y.1.text.length + 1) 0 l := by
        unfold cardT
        rw [if_neg (by rw [hv]; simp)]
      have ha : ∀ p ∈ y.2, p ∈ (y :: ys).flatMap (·.2) := fun p hp => by rw [List.flatMap_cons]; exact List.mem_append_left _ hp
      have hp := card_places ho hn (y.1.text.length + 1) 0 l h1 h2 (fun t ht j _ hj => by
        obtain ⟨q, hq, e⟩ := posAt_line hn j
        refine .inl ?_
        rw [e]
        exact g4 _ (h3 t ht) q (ha q hq))
      rw [← hc] at hp
      rw [List.flatMap_cons] at g3 g4
      have g3' := List.pairwise_append.1 g3
      refine scan_places ys (S ++ y.2.map (·.line)) _ (fun z hz => g1 z (by simp [hz])) (fun z hz => g2 z (by simp [hz])) g3'.2.1 (fun s hs p hp' => ?_) hp.1 hp.2.1 (fun t ht => ?_)
      · rw [List.mem_append] at hs
        rcases hs with hs | hs
        · exact g4 s hs p (List.mem_append_right _ hp')
        · obtain ⟨q, hq, rfl⟩ := List.mem_map.1 hs
          exact g3'.2.2 q hq p hp'
      · rw [List.mem_append]
        rcases hp.2.2 t ht with q | ⟨p, q, e⟩
        · exact .inl (h3 t q)
        · exact .inr (List.mem_map.2 ⟨p, q, e.symm⟩)
theorem places_law {text : Str} {dbg : Bool} (hf : (sourceE text dbg).2 = okF) : (∀ t ∈ (sourceE text dbg).1, PlOk (splitNL text) t) ∧ (sourceE text dbg).1.Pairwise lexT := by
  unfold sourceE at hf ⊢
  by_cases h : (readE text dbg).2 = okF
  · rw [if_neg (fun q => q h)] at hf ⊢
    obtain ⟨n, x, ys, ho, he⟩ := readE_parts h
    rw [he] at hf ⊢
    exact scan_places ys [] [] ho.ok ho.ne ho.asc (fun s hs => by cases hs) (fun t ht => by cases ht) List.Pairwise.nil (fun t ht => by cases ht)
  · rw [if_pos h] at hf
    exact absurd hf h
end Go.Proofs.YtmadddihphkmoaaDoor

/-
  An assertion layer over the model's wp, part BB: a long statement, walked piece by piece.
  Conditions: none. Nothing here is about a particular program.
-/
namespace Go.AM
section
variable {P : Program} {w₀ : World} {ops : List Oper} {K : Slots → AHeap → Prop}
theorem aOps_app : ∀ (a b : List Oper) (s : Slots) (h : AHeap), aOps P w₀ ops a s h (fun s' h' => aOps P w₀ ops b s' h' K) → aOps P w₀ ops (a ++ b) s h K
  | [], _, _, _, hk => hk
  | o :: a, b, s, h, hk => by
    rw [List.cons_append]
    unfold aOps at hk ⊢
    cases hg : o.guard with
    | none =>
      rw [hg] at hk
      simp only at hk ⊢
      exact eop_mono hk fun x h' hx => aOps_app a b _ _ hx
    | some q =>
      rw [hg] at hk
      obtain ⟨j, want⟩ := q
      simp only at hk ⊢
      cases hd : nthDst ops j with
      | none =>
        rw [hd] at hk
        simp only at hk ⊢
        exact aOps_app a b _ _ hk
      | some d =>
        rw [hd] at hk
        simp only at hk ⊢
        refine ⟨hk.1, ?_⟩
        have h2 := hk.2
        split at h2
        · rename_i hp
          rw [if_pos hp]
          exact ⟨h2.1, aOps_app a b _ _ h2.2⟩
        · rename_i hp
          rw [if_neg hp]
          exact ⟨fun hb => eop_mono (h2.1 hb) fun x h' hx => aOps_app a b _ _ hx, fun hb => aOps_app a b _ _ (h2.2 hb)⟩
theorem aOps_chunk (k : Nat) {l : List Oper} {s : Slots} {h : AHeap} (hc : ∀ K' : Slots → AHeap → Prop, (∀ s h, aOps P w₀ ops (l.drop k) s h K → K' s h) → aOps P w₀ ops (l.take k) s h K') : aOps P w₀ ops l s h K := by
  rw [← List.take_append_drop k l]
  exact aOps_app _ _ _ _ (hc _ fun _ _ hx => hx)
theorem aOps_hide {l : List Oper} {s : Slots} {h : AHeap} (hc : ∀ O, O = ops → aOps P w₀ O l s h K) : aOps P w₀ ops l s h K := hc _ rfl
end
end Go.AM

/-
  The law TokensPlaces.
  Conditions: none.
-/
namespace Go.Proofs.YtmadddihphkmoaaDoor
open Go.AM
open Go.Proofs
open Go.Col
open Go.Tok
open Go.RowKit (Below)
set_option maxRecDepth 100000

def befT (l : List TokC) (i : Nat) : Int × Int := if i = 0 then (0, 0) else posT (l.getD (i - 1) badT)
theorem befT_lt {L : List Str} {l : List TokC} (h1 : ∀ t ∈ l, PlOk L t) (h2 : l.Pairwise lexT) {i : Nat} (hi : i < l.length) : lexP (befT l i) (posT (l.getD i badT)) := by
  have hm : ∀ j, j < l.length → l.getD j badT ∈ l := fun j hj => by rw [List.getD, List.getElem?_eq_getElem hj]; exact List.getElem_mem hj
  unfold befT
  split
  · have := (h1 _ (hm i hi)).l0
    exact .inl (by show (0 : Int) < (l.getD i badT).line; omega)
  · have := List.pairwise_iff_getElem.1 h2 (i - 1) i (by omega) hi (by omega)
    unfold lexT at this
    simpa [List.getD, hi, show i - 1 < l.length by omega] using this
theorem strs_atT {l : List Str} {i : Nat} (hi : i < l.length) : (l.map AVal.str).getD i .dead = .str (l.getD i []) := by
  simp [List.getD, hi]
theorem foldB_int (b : UInt8) : (if 97 ≤ (b.toNat : Int) ∧ (b.toNat : Int) ≤ 122 then (b.toNat : Int) - 32 else b.toNat) = (foldB b).toNat := by
  unfold foldB
  by_cases h : 97 ≤ b.toNat ∧ b.toNat ≤ 122
  · rw [if_pos h, if_pos (by omega), UInt8.toNat_sub_of_le _ _ (by rw [UInt8.le_iff_toNat_le]; show 32 ≤ b.toNat; omega)]
    show _ = ((b.toNat - 32 : Nat) : Int)
    omega
  · rw [if_neg h, if_neg (by omega)]
set_option maxHeartbeats 2000000 in
theorem l_TokensPlaces (w₀ : World) (hm : MaxL w₀) (h : AHeap) (text : Str) (hl : text.length ≤ 9223372036854775807) :
    ACall Tryd.prog w₀ 3 [.str text] h (fun x _ => x = .bool true) := by
  refine ACall.mono (R := fun x h' => x = .bool true ∧ h' = h) ?_ fun x h' hx => hx.1
  obtain ⟨z1, z2⟩ := source_small text false
  refine acall_intro (n := 152) (rs := [.tmp 2]) Tryd.func3 rfl rfl rfl rfl (Nat.le_of_ble_eq_true rfl) ?_
  simp only [initSlots]
  -- region 0  law.go:158
  refine awp_rseq [0] (by rfl) fun K hK => ?_
  simp (decide := true) only [aOps_nil, ev, absV, absS, putD, Slots.put, Slots.keep, if_true, if_false, true_and, ↓ap_assign, pop_assign]
  repeat (with_reducible refine And.intro ?_ ?_; · first | trivial | omega | (intro hg; simp only [Bool.and_eq_true, Bool.or_eq_true, Bool.not_eq_true', Bool.and_eq_false_iff, Bool.or_eq_false_iff, Bool.not_eq_false', decide_eq_true_eq, decide_eq_false_iff_not, eqNil] at hg; omega) | (simp only [List.length_append, List.length_map, List.length_range, List.length_replicate, List.length_take, List.length_drop, List.length_cons, List.length_nil, List.length_set, List.length_reverse]; omega))
  apply hK; clear hK K
  refine awp_seq ?_
  -- region 1  law.go:159
  refine awp_rseq [0, 12] (by rfl) fun K hK => ?_
  simp (decide := true) only [aOps_nil, ev, absV, absS, putD, Slots.put, Slots.get, Slots.keep, if_true, if_false, true_and, ↓ap_move, pop_move, ↓ap_len, pop_len, pLen_str Tryd.underlying9, ↓ap_binOp, pop_binOp, isNilC_int, cond_false, pBinX_int, pI_gtr]
  repeat (with_reducible refine And.intro ?_ ?_; · first | trivial | omega | (intro hg; simp only [Bool.and_eq_true, Bool.or_eq_true, Bool.not_eq_true', Bool.and_eq_false_iff, Bool.or_eq_false_iff, Bool.not_eq_false', decide_eq_true_eq, decide_eq_false_iff_not, eqNil] at hg; omega) | (simp only [List.length_append, List.length_map, List.length_range, List.length_replicate, List.length_take, List.length_drop, List.length_cons, List.length_nil, List.length_set, List.length_reverse]; omega))
  apply hK; clear hK K
  refine awp_cond (b := _) rfl (fun hb1 => ?_) (fun hb1 => ?_)
  · try simp only [decide_eq_true_eq] at hb1
    -- region 2  law.go:160
    refine awp_rseq [2] (by rfl) fun K hK => ?_
    refine aOps_callV (V := .bool true) (by rfl) (by rfl) (c_lives03 w₀ hm _) ?_
    simp (decide := true) only [aOps_nil, ev, putD, Slots.put, Slots.get, Slots.keep, if_true, if_false, true_and, ↓ap_assign, pop_assign]
    repeat (with_reducible refine And.intro ?_ ?_; · first | trivial | omega | (intro hg; simp only [Bool.and_eq_true, Bool.or_eq_true, Bool.not_eq_true', Bool.and_eq_false_iff, Bool.or_eq_false_iff, Bool.not_eq_false', decide_eq_true_eq, decide_eq_false_iff_not, eqNil] at hg; omega) | (simp only [List.length_append, List.length_map, List.length_range, List.length_replicate, List.length_take, List.length_drop, List.length_cons, List.length_nil, List.length_set, List.length_reverse]; omega))
    apply hK; clear hK K
    refine awp_ret ?_
    try simp only [thenA_ret]
    refine retA_ret h (by repeat (first | exact Sub.refl _ | assumption | refine Sub.trans_set ?_ (by assumption))) (resPre_tmp (resPre_nil)) ?_
    simp (decide := true) only [Slots.get, if_true, and_true, resOf_one]
    all_goals first | rfl | exact ⟨rfl, rfl⟩ | (simp (decide := true) only [if_true, if_false, *]; done) | (trace_state; fail)
  · try simp only [decide_eq_false_iff_not] at hb1
    have hl2 : text.length ≤ 2000 := by omega
    refine awp_skip ?_
    change Awp _ _ _ _ _ _ _
    -- region 3  law.go:162
    refine awp_rseq [0, 3, 4] (by rfl) fun K hK => ?_
    simp (decide := true) only [ev, putD, Slots.put, Slots.get, if_true, if_false, true_and, ↓ap_move, pop_move]
    repeat (with_reducible refine And.intro ?_ ?_; · first | trivial | omega | (intro hg; simp only [Bool.and_eq_true, Bool.or_eq_true, Bool.not_eq_true', Bool.and_eq_false_iff, Bool.or_eq_false_iff, Bool.not_eq_false', decide_eq_true_eq, decide_eq_false_iff_not, eqNil] at hg; omega) | (simp only [List.length_append, List.length_map, List.length_range, List.length_replicate, List.length_take, List.length_drop, List.length_cons, List.length_nil, List.length_set, List.length_reverse]; omega))
    refine aOps_call (by rfl) (by rfl) (c_Source w₀ hm _ text false hl) fun x3q1 h3q1 hx3q1 => ?_
    obtain ⟨tv, hv3, htv, hs3⟩ := hx3q1.toks (w₀ := w₀)
    obtain ⟨f, hf⟩ : ∃ f, f = (sourceE text false).2 := ⟨_, rfl⟩
    obtain ⟨l, hl'⟩ : ∃ l, l = (sourceE text false).1 := ⟨_, rfl⟩
    obtain ⟨v, hv⟩ : ∃ v, v = capL tv := ⟨_, rfl⟩
    rw [← hf, ← hv] at hv3
    rw [← hl', ← hv] at htv
    rw [← hl'] at z1 z2
    rw [hv3]
    have hs_h3q1 : Sub h h3q1 := Sub.trans (by repeat (first | exact Sub.refl _ | assumption | refine Sub.trans_set ?_ (by assumption))) hs3
    have hr_h3q1 := hs_h3q1
    simp (decide := true) only [ev, putD, Slots.put, Slots.get, if_true, if_false, true_and, ↓ap_move, pop_move, ↓ap_extract, pop_extract, pExt_tuple, List.length_cons, List.length_nil, List.getD_cons_zero, List.getD_cons_succ, List.getD_cons_zero, List.getD_cons_succ, Nat.zero_add, Nat.reduceAdd, faultA]
    repeat (with_reducible refine And.intro ?_ ?_; · first | trivial | omega | (intro hg; simp only [Bool.and_eq_true, Bool.or_eq_true, Bool.not_eq_true', Bool.and_eq_false_iff, Bool.or_eq_false_iff, Bool.not_eq_false', decide_eq_true_eq, decide_eq_false_iff_not, eqNil] at hg; omega) | (simp only [List.length_append, List.length_map, List.length_range, List.length_replicate, List.length_take, List.length_drop, List.length_cons, List.length_nil, List.length_set, List.length_reverse]; omega))
    refine aOps_alloc ze28 (cs := [.int .i64 0, .int .i64 0, .int .i64 0]) (by rfl) fun k3q5 hk3q5 => ?_
    have hn_3q5 : h3q1 k3q5 = none := by first | assumption | (simp only [AHeap.set_none] at hk3q5; simp only [hk3q5])
    have hf_3q5 : h k3q5 = none := Sub.none hs_h3q1 hn_3q5
    simp (decide := true) only [ev, putD, Slots.put, Slots.get, if_true, if_false, true_and, ↓ap_assign, pop_assign]
    repeat (with_reducible refine And.intro ?_ ?_; · first | trivial | omega | (intro hg; simp only [Bool.and_eq_true, Bool.or_eq_true, Bool.not_eq_true', Bool.and_eq_false_iff, Bool.or_eq_false_iff, Bool.not_eq_false', decide_eq_true_eq, decide_eq_false_iff_not, eqNil] at hg; omega) | (simp only [List.length_append, List.length_map, List.length_range, List.length_replicate, List.length_take, List.length_drop, List.length_cons, List.length_nil, List.length_set, List.length_reverse]; omega))
    refine aOps_store (by rfl) (by rfl) (by repeat (first | exact AHeap.set_same _ _ _ | assumption | refine (AHeap.set_ne _ _ (by first | assumption | exact Ne.symm (by assumption))).trans ?_)) sz28 (by rfl) (by rfl) (by first | exact Nat.le_refl _ | decide | (simp; done) | (simp; omega)) (Nat.zero_le _) (by rfl) ?_
    simp only [AHeap.set_set, AVal.cells]
    simp (decide := true) only [aOps_nil, ev, putD, Slots.get, Slots.keep, if_true, if_false, setAt, List.set_cons_zero, List.set_cons_succ, Nat.zero_add, Nat.reduceAdd]
    repeat (with_reducible refine And.intro ?_ ?_; · first | trivial | omega | (intro hg; simp only [Bool.and_eq_true, Bool.or_eq_true, Bool.not_eq_true', Bool.and_eq_false_iff, Bool.or_eq_false_iff, Bool.not_eq_false', decide_eq_true_eq, decide_eq_false_iff_not, eqNil] at hg; omega) | (simp only [List.length_append, List.length_map, List.length_range, List.length_replicate, List.length_take, List.length_drop, List.length_cons, List.length_nil, List.length_set, List.length_reverse]; omega))
    apply hK; clear hK K
    refine awp_seq ?_
    -- region 4  law.go:163
    refine awp_rseq [0, 3, 21] (by rfl) fun K hK => ?_
    simp (decide := true) only [aOps_nil, ev, absV, absS, putD, Slots.put, Slots.get, Slots.keep, if_true, if_false, true_and, ↓ap_loadL, apL_mk, pLoad_agg ag28 sz28, ↓ap_build, ↓pop_buildL, bld28_, evP, List.map_nil, ↓ap_binOp, pop_binOp, isNilC_tmp, cond_false, pBinX_agg, ne28, rd_any, cellsAt, List.getD_cons_zero, List.getD_cons_succ, Nat.zero_add, Nat.reduceAdd, lv_int, allLive, Bool.and_true, faultA_eq]
    repeat (with_reducible refine And.intro ?_ ?_; · first | trivial | omega | (intro hg; simp only [Bool.and_eq_true, Bool.or_eq_true, Bool.not_eq_true', Bool.and_eq_false_iff, Bool.or_eq_false_iff, Bool.not_eq_false', decide_eq_true_eq, decide_eq_false_iff_not, eqNil] at hg; omega) | (simp only [List.length_append, List.length_map, List.length_range, List.length_replicate, List.length_take, List.length_drop, List.length_cons, List.length_nil, List.length_set, List.length_reverse]; omega))
    apply hK; clear hK K
    refine awp_cond (b := _) rfl (fun hb2 => ?_) (fun hb2 => ?_)
    · try simp only [decide_eq_false_iff_not, Bool.not_eq_true'] at hb2
      -- region 5  law.go:164
      refine awp_rseq [2] (by rfl) fun K hK => ?_
      refine aOps_callV (V := .bool true) (by rfl) (by rfl) (c_lives03 w₀ hm _) ?_
      simp (decide := true) only [aOps_nil, ev, putD, Slots.put, Slots.get, Slots.keep, if_true, if_false, true_and, ↓ap_assign, pop_assign]
      repeat (with_reducible refine And.intro ?_ ?_; · first | trivial | omega | (intro hg; simp only [Bool.and_eq_true, Bool.or_eq_true, Bool.not_eq_true', Bool.and_eq_false_iff, Bool.or_eq_false_iff, Bool.not_eq_false', decide_eq_true_eq, decide_eq_false_iff_not, eqNil] at hg; omega) | (simp only [List.length_append, List.length_map, List.length_range, List.length_replicate, List.length_take, List.length_drop, List.length_cons, List.length_nil, List.length_set, List.length_reverse]; omega))
      apply hK; clear hK K
      refine awp_ret ?_
      try simp only [thenA_ret]
      refine retA_ret h (by repeat (first | exact Sub.refl _ | assumption | refine Sub.trans_set ?_ (by assumption))) (resPre_tmp (resPre_nil)) ?_
      simp (decide := true) only [Slots.get, if_true, and_true, resOf_one]
      all_goals first | rfl | exact ⟨rfl, rfl⟩ | (simp (decide := true) only [if_true, if_false, *]; done) | (trace_state; fail)
    · try simp only [decide_eq_true_eq, Bool.not_eq_false'] at hb2
      obtain ⟨p1, p2⟩ := places_law (text := text) (dbg := false) (by rw [← hf]; simpa using hb2)
      rw [← hl'] at p1 p2
      have hlv := htv.live
      refine awp_skip ?_
      change Awp _ _ _ _ _ _ _
      -- region 6  law.go:166
      refine awp_rseq [3, 5] (by rfl) fun K hK => ?_
      simp (decide := true) only [ev, putD, Slots.put, Slots.get, if_true, if_false, true_and, ↓ap_move, pop_move]
      repeat (with_reducible refine And.intro ?_ ?_; · first | trivial | omega | (intro hg; simp only [Bool.and_eq_true, Bool.or_eq_true, Bool.not_eq_true', Bool.and_eq_false_iff, Bool.or_eq_false_iff, Bool.not_eq_false', decide_eq_true_eq, decide_eq_false_iff_not, eqNil] at hg; omega) | (simp only [List.length_append, List.length_map, List.length_range, List.length_replicate, List.length_take, List.length_drop, List.length_cons, List.length_nil, List.length_set, List.length_reverse]; omega))
      refine aOps_call (by rfl) (by rfl) (c_split w₀ hm _ text (by omega)) fun x6q1 h6q1 hx6q1 => ?_
      obtain ⟨ks, hks, rfl, hh6⟩ := hx6q1
      have hs6 : Sub (h3q1.set k3q5 ⟨[.int .i64 f.e, .int .i64 f.line, .int .i64 f.col], 0⟩) h6q1 := by rw [hh6]; exact Sub.set hks
      have ebs : h6q1 ks = some ⟨(splitNL text).map AVal.str, 0⟩ := by rw [hh6]; exact AHeap.set_same _ _ _
      have hs_h6q1 : Sub h h6q1 := Sub.trans (by repeat (first | exact Sub.refl _ | assumption | refine Sub.trans_set ?_ (by assumption))) hs6
      have hr_h6q1 : Sub h3q1 h6q1 := Sub.trans (by repeat (first | exact Sub.refl _ | assumption | refine Sub.trans_set ?_ (by assumption))) hs6
      have eb_3q5 := hs6 k3q5 _ (by repeat (first | exact AHeap.set_same _ _ _ | assumption | refine (AHeap.set_ne _ _ (by first | assumption | exact Ne.symm (by assumption))).trans ?_))
      simp (decide := true) only [aOps_nil, ev, putD, Slots.put, Slots.get, Slots.keep, if_true, if_false, true_and, ↓ap_assign, pop_assign]
      repeat (with_reducible refine And.intro ?_ ?_; · first | trivial | omega | (intro hg; simp only [Bool.and_eq_true, Bool.or_eq_true, Bool.not_eq_true', Bool.and_eq_false_iff, Bool.or_eq_false_iff, Bool.not_eq_false', decide_eq_true_eq, decide_eq_false_iff_not, eqNil] at hg; omega) | (simp only [List.length_append, List.length_map, List.length_range, List.length_replicate, List.length_take, List.length_drop, List.length_cons, List.length_nil, List.length_set, List.length_reverse]; omega))
      apply hK; clear hK K
      -- region 7  law.go:167
      refine awp_rseq [3, 5, 6] (by rfl) fun K hK => ?_
      simp (decide := true) only [ev, absV, absS, putD, Slots.put, Slots.get, if_false, true_and, ↓ap_build, ↓pop_buildL, bld26_, evP, List.map_nil]
      repeat (with_reducible refine And.intro ?_ ?_; · first | trivial | omega | (intro hg; simp only [Bool.and_eq_true, Bool.or_eq_true, Bool.not_eq_true', Bool.and_eq_false_iff, Bool.or_eq_false_iff, Bool.not_eq_false', decide_eq_true_eq, decide_eq_false_iff_not, eqNil] at hg; omega) | (simp only [List.length_append, List.length_map, List.length_range, List.length_replicate, List.length_take, List.length_drop, List.length_cons, List.length_nil, List.length_set, List.length_reverse]; omega))
      refine aOps_alloc ze26 (cs := [.int .i64 0, .int .i64 0]) (by rfl) fun k7q1 hk7q1 => ?_
      have hn_7q1 : h6q1 k7q1 = none := by first | assumption | (simp only [AHeap.set_none] at hk7q1; simp only [hk7q1])
      have hf_7q1 : h k7q1 = none := Sub.none hs_h6q1 hn_7q1
      have ne_7q1_3q5 : k7q1 ≠ k3q5 := AHeap.ne_some hn_7q1 eb_3q5
      refine aOps_store (by rfl) (by rfl) (by repeat (first | exact AHeap.set_same _ _ _ | assumption | refine (AHeap.set_ne _ _ (by first | assumption | exact Ne.symm (by assumption))).trans ?_)) sz26 (by rfl) (by rfl) (by first | exact Nat.le_refl _ | decide | (simp; done) | (simp; omega)) (Nat.zero_le _) (by rfl) ?_
      simp only [AHeap.set_set, AVal.cells]
      simp (decide := true) only [aOps_nil, ev, putD, Slots.put, Slots.get, Slots.keep, if_true, if_false, setAt, List.set_cons_zero, List.set_cons_succ, Nat.zero_add]
      repeat (with_reducible refine And.intro ?_ ?_; · first | trivial | omega | (intro hg; simp only [Bool.and_eq_true, Bool.or_eq_true, Bool.not_eq_true', Bool.and_eq_false_iff, Bool.or_eq_false_iff, Bool.not_eq_false', decide_eq_true_eq, decide_eq_false_iff_not, eqNil] at hg; omega) | (simp only [List.length_append, List.length_map, List.length_range, List.length_replicate, List.length_take, List.length_drop, List.length_cons, List.length_nil, List.length_set, List.length_reverse]; omega))
      apply hK; clear hK K
      refine awp_seq ?_
      -- region 8  law.go:168
      refine awp_rseq [3, 5, 6, 7] (by rfl) fun K hK => ?_
      simp (decide := true) only [aOps_nil, ev, absV, absS, putD, Slots.put, Slots.keep, if_true, if_false, true_and, ↓ap_assign, pop_assign]
      repeat (with_reducible refine And.intro ?_ ?_; · first | trivial | omega | (intro hg; simp only [Bool.and_eq_true, Bool.or_eq_true, Bool.not_eq_true', Bool.and_eq_false_iff, Bool.or_eq_false_iff, Bool.not_eq_false', decide_eq_true_eq, decide_eq_false_iff_not, eqNil] at hg; omega) | (simp only [List.length_append, List.length_map, List.length_range, List.length_replicate, List.length_take, List.length_drop, List.length_cons, List.length_nil, List.length_set, List.length_reverse]; omega))
      apply hK; clear hK K
      refine awp_block ?_
      refine awp_loopG [3, 5, 6, 7] (fun i : Nat => [(3, v), (5, .slice (.own ks) 0 (splitNL text).length (.exact (splitNL text).length)), (6, .ptr (.own k7q1) 0), (7, .int .i64 i)]) (fun i : Nat => h6q1.set k7q1 ⟨[.int .i64 (befT l i).1, .int .i64 (befT l i).2], 0⟩) (fun i : Nat => i ≤ l.length) (fun i : Nat => l.length - i) 0 (by rfl) (Sub.refl _) (Nat.zero_le _) ?_
      intro i hi
      have ht6 := (htv.mono (Sub.set hn_3q5)).mono hs6
      have hlen := tok_len (ht6.mono (Sub.set (b := ⟨[.int .i64 (befT l i).1, .int .i64 (befT l i).2], 0⟩) hk7q1))
      refine awp_seq ?_
      -- region 9  law.go:168
      refine awp_rseq [3, 5, 6, 7, 29] (by rfl) fun K hK => ?_
      simp (decide := true) only [aOps_nil, ev, putD, Slots.put, Slots.get, Slots.keep, if_true, if_false, true_and, ↓ap_move, pop_move, ↓ap_len, pop_len, ↓ap_binOp, pop_binOp, isNilC_tmp, cond_false, pBinX_int, pI_lss, hlen]
      repeat (with_reducible refine And.intro ?_ ?_; · first | trivial | omega | (intro hg; simp only [Bool.and_eq_true, Bool.or_eq_true, Bool.not_eq_true', Bool.and_eq_false_iff, Bool.or_eq_false_iff, Bool.not_eq_false', decide_eq_true_eq, decide_eq_false_iff_not, eqNil] at hg; omega) | (simp only [List.length_append, List.length_map, List.length_range, List.length_replicate, List.length_take, List.length_drop, List.length_cons, List.length_nil, List.length_set, List.length_reverse]; omega))
      apply hK; clear hK K
      refine awp_cond (b := _) rfl (fun hb3 => ?_) (fun hb3 => ?_)
      · try simp only [decide_eq_true_eq] at hb3
        have hi' : i < l.length := by omega
        have hblt := befT_lt p1 p2 hi'
        obtain ⟨lc, o, c, rfl⟩ := tok_open ht6 (by omega)
        obtain ⟨e0, e1, e2, e3, e4⟩ := tok_at ht6 hi'
        have hnxt : befT l (i + 1) = posT (l.getD i badT) := by unfold befT; rw [if_neg (by omega), Nat.add_sub_cancel]
        have hpl := p1 (l.getD i badT) (by rw [List.getD, List.getElem?_eq_getElem hi']; exact List.getElem_mem hi')
        obtain ⟨t, ht⟩ : ∃ t, t = l.getD i badT := ⟨_, rfl⟩
        rw [← ht] at e0 e1 e2 e3 e4 hblt hpl hnxt
        obtain ⟨bf, hbf⟩ : ∃ bf, bf = befT l i := ⟨_, rfl⟩
        rw [← hbf] at hblt ⊢
        have re : ∀ h', Sub h6q1 h' → rd w₀ h' lc (o + i * 5) = .int .u8 t.kind.toNat ∧ rd w₀ h' lc (o + i * 5 + 1) = .str t.text ∧ rd w₀ h' lc (o + i * 5 + 2) = .int .i64 t.line ∧ rd w₀ h' lc (o + i * 5 + 3) = .int .i64 t.col ∧ rd w₀ h' lc (o + i * 5 + 4) = .bool t.left := fun h' hs => ⟨rd_subT e0 rfl hs, rd_subT e1 rfl hs, rd_subT e2 rfl hs, rd_subT e3 rfl hs, rd_subT e4 rfl hs⟩
        obtain ⟨a0, a1, a2, a3, a4⟩ := re (h6q1.set k7q1 ⟨[.int .i64 bf.1, .int .i64 bf.2], 0⟩) (Sub.set hn_7q1)
        refine awp_skip ?_
        change Awp _ _ _ _ _ _ _
        refine awp_seq ?_
        refine awp_block ?_
        -- region 11  law.go:169
        refine awp_rseq [3, 5, 6, 7, 8] (by rfl) fun K hK => ?_
        simp (decide := true) only [ev, putD, Slots.put, Slots.get, if_true, if_false, true_and, ↓ap_move, pop_move, ↓ap_indexAddrL, apL_mk, pIndexAddr_slice Tryd.underlying23 sz35, ↓ap_fieldAddr, pop_fieldAddr, fa35_2, ↓ap_loadL, pLoad_agg ag26 sz26, cellsAt, lv_int, allLive, Bool.and_true, a2, a3, Int.toNat_natCast]
        repeat (with_reducible refine And.intro ?_ ?_; · first | trivial | omega | (intro hg; simp only [Bool.and_eq_true, Bool.or_eq_true, Bool.not_eq_true', Bool.and_eq_false_iff, Bool.or_eq_false_iff, Bool.not_eq_false', decide_eq_true_eq, decide_eq_false_iff_not, eqNil] at hg; omega) | (simp only [List.length_append, List.length_map, List.length_range, List.length_replicate, List.length_take, List.length_drop, List.length_cons, List.length_nil, List.length_set, List.length_reverse]; omega))
        refine aOps_alloc ze26 (cs := [.int .i64 0, .int .i64 0]) (by rfl) fun k11q5 hk11q5 => ?_
        have ne_11q5_7q1 : k11q5 ≠ k7q1 := by simp only [AHeap.set_none] at hk11q5; simp only [hk11q5, ne_eq, not_false_eq_true]
        have hn_11q5 : h6q1 k11q5 = none := by first | assumption | (simp only [AHeap.set_none] at hk11q5; simp only [hk11q5])
        have hf_11q5 : h k11q5 = none := Sub.none hs_h6q1 hn_11q5
        have ne_11q5_3q5 : k11q5 ≠ k3q5 := AHeap.ne_some hn_11q5 eb_3q5
        refine aOps_store (by rfl) (by rfl) (by repeat (first | exact AHeap.set_same _ _ _ | assumption | refine (AHeap.set_ne _ _ (by first | assumption | exact Ne.symm (by assumption))).trans ?_)) sz26 (by rfl) (by rfl) (by first | exact Nat.le_refl _ | decide | (simp; done) | (simp; omega)) (Nat.zero_le _) (by rfl) ?_
        simp only [AHeap.set_set, AVal.cells]
        simp (decide := true) only [aOps_nil, ev, putD, Slots.put, Slots.get, Slots.keep, if_true, if_false, setAt, List.set_cons_zero, List.set_cons_succ, Nat.zero_add]
        repeat (with_reducible refine And.intro ?_ ?_; · first | trivial | omega | (intro hg; simp only [Bool.and_eq_true, Bool.or_eq_true, Bool.not_eq_true', Bool.and_eq_false_iff, Bool.or_eq_false_iff, Bool.not_eq_false', decide_eq_true_eq, decide_eq_false_iff_not, eqNil] at hg; omega) | (simp only [List.length_append, List.length_map, List.length_range, List.length_replicate, List.length_take, List.length_drop, List.length_cons, List.length_nil, List.length_set, List.length_reverse]; omega))
        apply hK; clear hK K
        refine awp_seq ?_
        have hsl := splitNL_len text
        have hll : (lineT (splitNL text) t).length ≤ text.length := by
          refine splitNL_mem text _ ?_
          unfold lineT
          have := hpl.l0
          have := hpl.l1
          rw [List.getD, List.getElem?_eq_getElem (by omega)]
          exact List.getElem_mem _
        obtain ⟨q1, q2, q3, q4, q5, q6, q7, q8⟩ := hpl
        obtain ⟨b0, b1, b2, b3, b4⟩ := re ((h6q1.set k7q1 ⟨[.int .i64 bf.1, .int .i64 bf.2], 0⟩).set k11q5 ⟨[.int .i64 t.line, .int .i64 t.col], 0⟩) (by repeat (first | exact Sub.refl _ | assumption | refine Sub.set_both ?_ _ _ | refine Sub.trans_set ?_ (by repeat (first | assumption | refine (AHeap.set_ne _ _ (by first | assumption | exact Ne.symm (by assumption))).trans ?_))))
        obtain ⟨ln, hln⟩ : ∃ ln, ln = lineT (splitNL text) t := ⟨_, rfl⟩
        rw [← hln] at hll q4 q7 q8
        have hw1 : IntKind.i64.wrap (t.line - 1) = t.line - 1 := by simp (disch := omega) only [wrap_i64]
        have hw2 : IntKind.i64.wrap (t.col - 1) = t.col - 1 := by simp (disch := omega) only [wrap_i64]
        have hst : ((splitNL text).map AVal.str).getD (t.line - 1).toNat .dead = .str ln := by rw [hln, strs_atT (by omega)]; unfold lineT; rw [show (t.line - 1).toNat = t.line.toNat - 1 by omega]
        have rls := fun o => rd_own w₀ (h := (h6q1.set k7q1 ⟨[.int .i64 bf.1, .int .i64 bf.2], 0⟩).set k11q5 ⟨[.int .i64 t.line, .int .i64 t.col], 0⟩) (k := ks) ((AHeap.set_ne _ _ (AHeap.ne_some hn_11q5 ebs).symm).trans ((AHeap.set_ne _ _ (AHeap.ne_some hn_7q1 ebs).symm).trans ebs)) o
        have n1 : ¬ t.line < 1 := by omega
        have n2 : ¬ ((splitNL text).length : Int) < t.line := by omega
        have n3 : ¬ t.col < 8 := by omega
        have n4 : ¬ (ln.length : Int) < t.col := by omega
        have n5 : ¬ t.line < bf.1 := by
          have h1 : bf.1 < t.line ∨ (bf.1 = t.line ∧ bf.2 < t.col) := hblt
          omega
        have n6 : t.line = bf.1 → ¬ t.col ≤ bf.2 := by
          have h1 : bf.1 < t.line ∨ (bf.1 = t.line ∧ bf.2 < t.col) := hblt
          omega
        -- region 12  law.go:170
        refine awp_dseq_all [3, 5, 6, 7, 8, 103] mixed (by kernel_rfl) (by kernel_rfl) (by kernel_rfl) fun K hK => ?_
        try simp only [List.append_eq, List.cons_append, List.nil_append]
        refine aOps_hide fun O hO => ?_
        have gd_3 : nthDst O 3 = some 40 := by rw [hO]; rfl
        have gd_10 : nthDst O 10 = some 47 := by rw [hO]; rfl
        have gd_15 : nthDst O 15 = some 52 := by rw [hO]; rfl
        have gd_27 : nthDst O 27 = some 64 := by rw [hO]; rfl
        have gd_34 : nthDst O 34 = some 71 := by rw [hO]; rfl
        have gd_40 : nthDst O 40 = some 77 := by rw [hO]; rfl
        have gd_48 : nthDst O 48 = some 85 := by rw [hO]; rfl
        have gd_59 : nthDst O 59 = some 96 := by rw [hO]; rfl
        clear hO
        refine aOps_chunk 12 fun K' hK' => ?_
        simp only [List.take_succ_cons, List.take_zero]
        simp (decide := true) only [aOps_nil, ev, absV, absS, putD, Slots.put, Slots.get, if_true, if_false, true_and, ↓ap_fieldAddr, pop_fieldAddr, fa26_0, ↓ap_loadL, apL_mk, pLoad_one ag3, ↓ap_binOp, pop_binOp, isNilC_int, cond_false, pBinX_int, pI_lss, ↓ap_move, pop_move, ↓ag_fieldAddr, agP, agQ_some, gKnown_bool, guardB_bool_false, implies_true, decide_false, Bool.not_false, condV_true, Bool.and_true, ↓ag_loadL, agQL_some, agL_mk, ↓ag_move, ↓ag_len, pop_len, pLen_slice Tryd.underlying31, ↓ag_binOp, isNilC_tmp, pI_gtr, ↓ap_pick, pop_pick, pPick_bool, pickV_and, fa26_1, rd_any, List.getD_cons_zero, Nat.zero_add, lv_int, Bool.and_true, Nat.zero_add, n1, n2, gd_3, gd_10]
        repeat (with_reducible refine And.intro ?_ ?_; · first | trivial | omega | (intro hg; simp only [Bool.and_eq_true, Bool.or_eq_true, Bool.not_eq_true', Bool.and_eq_false_iff, Bool.or_eq_false_iff, Bool.not_eq_false', decide_eq_true_eq, decide_eq_false_iff_not, eqNil] at hg; omega) | (simp only [List.length_append, List.length_map, List.length_range, List.length_replicate, List.length_take, List.length_drop, List.length_cons, List.length_nil, List.length_set, List.length_reverse]; omega))
        apply hK'; clear hK' K'
        simp only [List.drop_succ_cons, List.drop_zero]
        refine aOps_chunk 12 fun K' hK' => ?_
        simp only [List.take_succ_cons, List.take_zero]
        simp (decide := true) only [aOps_nil, ev, absV, absS, putD, Slots.put, Slots.get, if_true, if_false, true_and, ↓ag_loadL, agQL_some, agL_mk, agP, agQ_some, gKnown_bool, guardB_bool_false, implies_true, decide_false, Bool.not_false, condV_true, forall_const, Bool.and_true, pLoad_one ag3, ↓ag_binOp, pop_binOp, isNilC_int, cond_false, pBinX_int, pI_lss, ↓ap_pick, pop_pick, pPick_bool, pickV_and, ↓ap_move, pop_move, ↓ag_fieldAddr, pop_fieldAddr, fa26_1, ↓ag_move, fa26_0, pI_sub, ↓ag_indexAddrL, pIndexAddr_slice Tryd.underlying31 sz9, pLoad_one ag9, rd_any, List.getD_cons_zero, List.getD_cons_succ, Nat.zero_add, lv_int, lv_str, Bool.and_true, Nat.zero_add, Nat.mul_one, rls, hst, hw1, n3, gd_10, gd_15]
        try simp (disch := omega) only [wrap_i64, wrap_u8]
        repeat (with_reducible refine And.intro ?_ ?_; · first | trivial | omega | (intro hg; simp only [Bool.and_eq_true, Bool.or_eq_true, Bool.not_eq_true', Bool.and_eq_false_iff, Bool.or_eq_false_iff, Bool.not_eq_false', decide_eq_true_eq, decide_eq_false_iff_not, eqNil] at hg; omega) | (simp only [List.length_append, List.length_map, List.length_range, List.length_replicate, List.length_take, List.length_drop, List.length_cons, List.length_nil, List.length_set, List.length_reverse]; omega))
        apply hK'; clear hK' K'
        simp only [List.drop_succ_cons, List.drop_zero]
        refine aOps_chunk 12 fun K' hK' => ?_
        simp only [List.take_succ_cons, List.take_zero]
        simp (decide := true) only [aOps_nil, ev, absV, absS, putD, Slots.put, Slots.get, if_true, if_false, true_and, ↓ag_len, pop_len, agP, agQ_some, gKnown_bool, guardB_bool_false, implies_true, decide_false, Bool.not_false, condV_true, Bool.and_true, pLen_str Tryd.underlying9, ↓ag_binOp, pop_binOp, isNilC_tmp, cond_false, pBinX_int, pI_gtr, ↓ap_pick, pop_pick, pPick_bool, pickV_and, ↓ap_move, pop_move, ↓ag_fieldAddr, pop_fieldAddr, fa26_0, ↓ag_loadL, agQL_some, agL_mk, pLoad_one ag3, pI_lss, rd_ne', ne_eq, not_false_eq_true, ne_11q5_7q1.symm, rd_any, List.getD_cons_zero, Nat.zero_add, lv_int, Bool.and_true, Nat.zero_add, n4, n5, gd_15, gd_27, gd_34]
        repeat (with_reducible refine And.intro ?_ ?_; · first | trivial | omega | (intro hg; simp only [Bool.and_eq_true, Bool.or_eq_true, Bool.not_eq_true', Bool.and_eq_false_iff, Bool.or_eq_false_iff, Bool.not_eq_false', decide_eq_true_eq, decide_eq_false_iff_not, eqNil] at hg; omega) | (simp only [List.length_append, List.length_map, List.length_range, List.length_replicate, List.length_take, List.length_drop, List.length_cons, List.length_nil, List.length_set, List.length_reverse]; omega))
        apply hK'; clear hK' K'
        simp only [List.drop_succ_cons, List.drop_zero]
        refine aOps_chunk 12 fun K' hK' => ?_
        simp only [List.take_succ_cons, List.take_zero]
        simp (decide := true) only [aOps_nil, ev, absV, absS, putD, Slots.put, Slots.get, if_true, if_false, true_and, ↓ag_loadL, agQL_some, agL_mk, agL_ld1, agP, agQ_some, gKnown_bool, guardB_bool_true, guardB_bool_false, implies_true, Bool.not_false, condV_true, Bool.false_or, pLoad_one ag3, ↓ag_fieldAddr, pop_fieldAddr, fa26_0, ↓ag_binOp, pop_binOp, isNilC_tmp, cond_false, cv_binl, cv_binr, cp_binl, cp_binr, pBinX_int, pI_eql, ↓ag_move, pop_move, fa26_1, pI_leq, ↓ag_pick, pop_pick, pPick_bool, pickV_cond_l, pickV_and, pickV_or, ↓ap_pick, rd_ne', ne_eq, not_false_eq_true, ne_11q5_7q1.symm, rd_any, List.getD_cons_zero, List.getD_cons_succ, Nat.zero_add, lv_int, Nat.zero_add, gd_34, gd_40]
        repeat (with_reducible refine And.intro ?_ ?_; · first | trivial | omega | (intro hg; simp only [Bool.and_eq_true, Bool.or_eq_true, Bool.not_eq_true', Bool.and_eq_false_iff, Bool.or_eq_false_iff, Bool.not_eq_false', decide_eq_true_eq, decide_eq_false_iff_not, eqNil] at hg; omega) | (simp only [List.length_append, List.length_map, List.length_range, List.length_replicate, List.length_take, List.length_drop, List.length_cons, List.length_nil, List.length_set, List.length_reverse]; omega))
        apply hK'; clear hK' K'
        simp only [List.drop_succ_cons, List.drop_zero]
        refine aOps_chunk 12 fun K' hK' => ?_
        simp only [List.take_succ_cons, List.take_zero]
        simp (decide := true) only [aOps_nil, ev, absV, absS, putD, Slots.put, Slots.get, if_true, if_false, true_and, ↓ap_move, pop_move, ↓ag_move, agP, agQ_some, gKnown_bool, guardB_bool_false, implies_true, ↓ag_indexAddrL, agQL_some, agL_mk, agL_il2, agL_ir2, pIndexAddr_slice Tryd.underlying23 sz35, ↓ag_fieldAddr, pop_fieldAddr, fa35_3, cv_fieldAddr, cp_fieldAddr, ↓ag_loadL, agL_ld2, pLoad_one ag4, fa26_1, pLoad_one ag3, ↓ag_binOp, pop_binOp, isNilC_int, cond_false, cv_binl, cv_binr, cp_binl, cp_binr, pBinX_int, pI_leq, isNilC_tmp, pBinX_bne, Tryd.underlying4, ↓ap_pick, pop_pick, pPick_bool, pickV_cond_r, pickV_or, rd_any, List.getD_cons_zero, List.getD_cons_succ, Nat.zero_add, lv_bool, lv_int, Nat.zero_add, Int.toNat_natCast, b4, gd_48]
        repeat (with_reducible refine And.intro ?_ ?_; · first | trivial | omega | (intro hg; simp only [Bool.and_eq_true, Bool.or_eq_true, Bool.not_eq_true', Bool.and_eq_false_iff, Bool.or_eq_false_iff, Bool.not_eq_false', decide_eq_true_eq, decide_eq_false_iff_not, eqNil] at hg; omega) | (simp only [List.length_append, List.length_map, List.length_range, List.length_replicate, List.length_take, List.length_drop, List.length_cons, List.length_nil, List.length_set, List.length_reverse]; omega))
        apply hK'; clear hK' K'
        simp only [List.drop_succ_cons, List.drop_zero]
        simp (decide := true) only [aOps_nil, ev, absV, absS, putD, Slots.put, Slots.get, Slots.keep, if_true, if_false, true_and, ↓ag_move, pop_move, agP, agQ_some, gKnown_bool, guardB_bool_false, implies_true, ↓ag_indexAddrL, agQL_some, agL_mk, agL_il2, agL_ir2, pIndexAddr_slice Tryd.underlying23 sz35, ↓ag_fieldAddr, pop_fieldAddr, fa35_1, cv_fieldAddr, cp_fieldAddr, ↓ag_loadL, agL_ld2, pLoad_one ag9, ↓ag_binOp, pop_binOp, isNilC_str, cond_false, cv_binl, cp_binl, pBinX_str, pS_eql, ↓ap_pick, pop_pick, pPick_bool, pickV_cond_r, pickV_or, lv_str, Int.toNat_natCast, b1, gd_59]
        repeat (with_reducible refine And.intro ?_ ?_; · first | trivial | omega | (intro hg; simp only [Bool.and_eq_true, Bool.or_eq_true, Bool.not_eq_true', Bool.and_eq_false_iff, Bool.or_eq_false_iff, Bool.not_eq_false', decide_eq_true_eq, decide_eq_false_iff_not, eqNil] at hg; omega) | (simp only [List.length_append, List.length_map, List.length_range, List.length_replicate, List.length_take, List.length_drop, List.length_cons, List.length_nil, List.length_set, List.length_reverse]; omega))
        apply hK; clear hK K
        refine awp_cond (b := _) rfl (fun hb4 => ?_) (fun hb4 => ?_)
        · try simp only [decide_eq_true_eq, Bool.not_eq_true', Bool.and_eq_true, Bool.or_eq_true] at hb4
          exfalso
          have hq5 := q5
          rcases hb4 with (⟨z1, z2⟩ | z) | z
          · exact n6 z1 z2
          · rw [hq5] at z
            by_cases hc : t.col < 12
            · rw [decide_eq_true hc, decide_eq_true (by omega)] at z; cases z
            · rw [decide_eq_false hc, decide_eq_false (by omega)] at z; cases z
          · exact q6 z
        · try simp only [decide_eq_false_iff_not, Bool.not_eq_false', Bool.and_eq_false_iff, Bool.or_eq_false_iff] at hb4
          clear n6
          have rcs : ∀ o, rd w₀ (((h6q1.set k7q1 ⟨[.int .i64 bf.1, .int .i64 bf.2], 0⟩).set k11q5 ⟨[.int .i64 t.line, .int .i64 t.col], 0⟩).set k7q1 ⟨[.int .i64 t.line, .int .i64 t.col], 0⟩) (.own ks) o = ((splitNL text).map AVal.str).getD o .dead := fun o => rd_own w₀ ((AHeap.set_ne _ _ (AHeap.ne_some hn_7q1 ebs).symm).trans ((AHeap.set_ne _ _ (AHeap.ne_some hn_11q5 ebs).symm).trans ((AHeap.set_ne _ _ (AHeap.ne_some hn_7q1 ebs).symm).trans ebs))) o
          have hSH : Sub h6q1 ((h6q1.set k7q1 ⟨[.int .i64 bf.1, .int .i64 bf.2], 0⟩).set k11q5 ⟨[.int .i64 t.line, .int .i64 t.col], 0⟩) := (by repeat (first | exact Sub.refl _ | assumption | refine Sub.set_both ?_ _ _ | refine Sub.trans_set ?_ (by repeat (first | assumption | refine (AHeap.set_ne _ _ (by first | assumption | exact Ne.symm (by assumption))).trans ?_))))
          obtain ⟨c0, c1, c2, c3, c4⟩ := re (((h6q1.set k7q1 ⟨[.int .i64 bf.1, .int .i64 bf.2], 0⟩).set k11q5 ⟨[.int .i64 t.line, .int .i64 t.col], 0⟩).set k7q1 ⟨[.int .i64 t.line, .int .i64 t.col], 0⟩) (by repeat (first | exact Sub.refl _ | assumption | refine Sub.set_both ?_ _ _ | refine Sub.trans_set ?_ (by repeat (first | assumption | refine (AHeap.set_ne _ _ (by first | assumption | exact Ne.symm (by assumption))).trans ?_))))
          obtain ⟨b, hb⟩ : ∃ b, b = ln.getD (t.col.toNat - 1) 0 := ⟨_, rfl⟩
          have hbt : ln.getD (t.col - 1).toNat 0 = b := by rw [hb, show (t.col - 1).toNat = t.col.toNat - 1 by omega]
          rw [← hb] at q7 q8
          refine awp_skip ?_
          change Awp _ _ _ _ _ _ _
          -- region 14  law.go:173
          refine awp_rseq [3, 5, 6, 7, 8] (by rfl) fun K hK => ?_
          simp (decide := true) only [ev, putD, Slots.put, Slots.get, if_true, if_false, true_and, ↓ap_loadL, apL_mk, pLoad_agg ag26 sz26, rd_any, cellsAt, List.getD_cons_zero, List.getD_cons_succ, Nat.zero_add, lv_int, allLive, Bool.and_true]
          repeat (with_reducible refine And.intro ?_ ?_; · first | trivial | omega | (intro hg; simp only [Bool.and_eq_true, Bool.or_eq_true, Bool.not_eq_true', Bool.and_eq_false_iff, Bool.or_eq_false_iff, Bool.not_eq_false', decide_eq_true_eq, decide_eq_false_iff_not, eqNil] at hg; omega) | (simp only [List.length_append, List.length_map, List.length_range, List.length_replicate, List.length_take, List.length_drop, List.length_cons, List.length_nil, List.length_set, List.length_reverse]; omega))
          refine aOps_store (by rfl) (by rfl) (by repeat (first | exact AHeap.set_same _ _ _ | assumption | refine (AHeap.set_ne _ _ (by first | assumption | exact Ne.symm (by assumption))).trans ?_)) sz26 (by rfl) (by rfl) (by first | exact Nat.le_refl _ | decide | (simp; done) | (simp; omega)) (Nat.zero_le _) (by rfl) ?_
          simp only [AVal.cells]
          simp (decide := true) only [aOps_nil, ev, putD, Slots.get, Slots.keep, if_true, if_false, setAt, List.set_cons_zero, List.set_cons_succ, Nat.zero_add]
          repeat (with_reducible refine And.intro ?_ ?_; · first | trivial | omega | (intro hg; simp only [Bool.and_eq_true, Bool.or_eq_true, Bool.not_eq_true', Bool.and_eq_false_iff, Bool.or_eq_false_iff, Bool.not_eq_false', decide_eq_true_eq, decide_eq_false_iff_not, eqNil] at hg; omega) | (simp only [List.length_append, List.length_map, List.length_range, List.length_replicate, List.length_take, List.length_drop, List.length_cons, List.length_nil, List.length_set, List.length_reverse]; omega))
          apply hK; clear hK K
          -- region 15  law.go:174
          refine awp_dseq_all [3, 5, 6, 7, 9] mixed (by kernel_rfl) (by rfl) (by rfl) fun K hK => ?_
          simp (decide := true) only [ev, absV, absS, putD, Slots.put, Slots.get, if_true, if_false, true_and, ↓ap_move, pop_move, ↓ap_fieldAddr, pop_fieldAddr, fa26_0, ↓ap_loadL, apL_mk, pLoad_one ag3, ↓ap_binOp, pop_binOp, isNilC_int, cond_false, pBinX_int, pI_sub, rd_ne', ne_eq, not_false_eq_true, ne_11q5_7q1, rd_any, List.getD_cons_zero, Nat.zero_add, lv_int, Nat.zero_add, hw1]
          try simp (disch := omega) only [wrap_i64, wrap_u8]
          try simp (decide := true) only [ev, absV, absS, putD, Slots.put, Slots.get, if_true, if_false, true_and, ↓ap_indexAddrL, apL_mk, pIndexAddr_slice Tryd.underlying31 sz9, ↓ap_loadL, pLoad_one ag9, ↓ap_fieldAddr, pop_fieldAddr, fa26_1, pLoad_one ag3, ↓ap_binOp, pop_binOp, isNilC_int, cond_false, pBinX_int, pI_sub, rd_ne', ne_eq, not_false_eq_true, ne_11q5_7q1, rd_any, List.getD_cons_zero, List.getD_cons_succ, Nat.zero_add, lv_int, lv_str, Nat.zero_add, Nat.mul_one, rcs, hst, hw2]
          try simp (disch := omega) only [wrap_i64, wrap_u8]
          try simp (decide := true) only [aOps_nil, ev, putD, Slots.put, Slots.get, Slots.keep, if_true, if_false, true_and, ↓ap_index, pop_index, pIndex_str Tryd.underlying9, ↓ap_assign, pop_assign, hbt]
          repeat (with_reducible refine And.intro ?_ ?_; · first | trivial | omega | (intro hg; simp only [Bool.and_eq_true, Bool.or_eq_true, Bool.not_eq_true', Bool.and_eq_false_iff, Bool.or_eq_false_iff, Bool.not_eq_false', decide_eq_true_eq, decide_eq_false_iff_not, eqNil] at hg; omega) | (simp only [List.length_append, List.length_map, List.length_range, List.length_replicate, List.length_take, List.length_drop, List.length_cons, List.length_nil, List.length_set, List.length_reverse]; omega))
          apply hK; clear hK K
          refine awp_seq ?_
          -- region 16  law.go:175
          refine awp_rseq [3, 5, 6, 7, 9, 120] (by rfl) fun K hK => ?_
          simp (decide := true) only [aOps_nil, ev, absV, absS, putD, Slots.put, Slots.get, Slots.keep, if_true, if_false, true_and, ↓ap_move, pop_move, ↓ap_binOp, pop_binOp, isNilC_int, cond_false, pBinX_int, pI_geq, ↓ag_move, agP, agQ_some, nthDst, gKnown_bool, guardB_bool_true, implies_true, ↓ag_binOp, cv_binl, cp_binl, pI_leq, ↓ap_pick, pop_pick, pPick_bool, pickV_cond_l, pickV_and]
          repeat (with_reducible refine And.intro ?_ ?_; · first | trivial | omega | (intro hg; simp only [Bool.and_eq_true, Bool.or_eq_true, Bool.not_eq_true', Bool.and_eq_false_iff, Bool.or_eq_false_iff, Bool.not_eq_false', decide_eq_true_eq, decide_eq_false_iff_not, eqNil] at hg; omega) | (simp only [List.length_append, List.length_map, List.length_range, List.length_replicate, List.length_take, List.length_drop, List.length_cons, List.length_nil, List.length_set, List.length_reverse]; omega))
          apply hK; clear hK K
          refine awp_joinT [3, 5, 6, 7, 9] (fun z : Unit => [(3, .slice lc o l.length c), (5, .slice (.own ks) 0 (splitNL text).length (.exact (splitNL text).length)), (6, .ptr (.own k7q1) 0), (7, .int .i64 i), (9, .int .u8 (foldB b).toNat)]) (fun z : Unit => ((h6q1.set k7q1 ⟨[.int .i64 bf.1, .int .i64 bf.2], 0⟩).set k11q5 ⟨[.int .i64 t.line, .int .i64 t.col], 0⟩).set k7q1 ⟨[.int .i64 t.line, .int .i64 t.col], 0⟩) (fun z : Unit => True) ?_ ?_
          · refine awp_cond (b := _) rfl (fun hb5 => ?_) (fun hb5 => ?_)
            · try simp only [decide_eq_true_eq, Bool.and_eq_true] at hb5
              have hfb : ((foldB b).toNat : Int) = (b.toNat : Int) - 32 := by rw [← foldB_int, if_pos hb5]
              -- region 17  law.go:176
              refine awp_r [3, 5, 6, 7, 9] (by rfl) ?_
              simp (decide := true) only [aOps_nil, ev, absV, absS, putD, Slots.put, Slots.get, Slots.keep, if_true, if_false, true_and, and_true, ↓ap_move, pop_move, ↓ap_binOp, pop_binOp, isNilC_int, cond_false, pBinX_int, pI_sub, ↓ap_assign, pop_assign]
              try simp (disch := omega) only [wrap_u8]
              repeat (with_reducible refine And.intro ?_ ?_; · first | trivial | omega | (intro hg; simp only [Bool.and_eq_true, Bool.or_eq_true, Bool.not_eq_true', Bool.and_eq_false_iff, Bool.or_eq_false_iff, Bool.not_eq_false', decide_eq_true_eq, decide_eq_false_iff_not, eqNil] at hg; omega) | (simp only [List.length_append, List.length_map, List.length_range, List.length_replicate, List.length_take, List.length_drop, List.length_cons, List.length_nil, List.length_set, List.length_reverse]; omega))
              try simp only [thenA_normal]
              first
              | exact ⟨(), by rw [hfb]; rfl, Sub.refl _, trivial⟩
              | exact ⟨(), by rw [hfb]; rfl, Sub.refl _⟩
            · try simp only [decide_eq_false_iff_not, Bool.and_eq_false_iff] at hb5
              have hfb : ((foldB b).toNat : Int) = b.toNat := by rw [← foldB_int, if_neg (by omega)]
              refine awp_skip ?_
              try simp only [thenA_normal]
              first
              | exact ⟨(), by rw [hfb]; rfl, Sub.refl _, trivial⟩
              | exact ⟨(), by rw [hfb]; rfl, Sub.refl _⟩
          · intro _ _
            have hl0 : 0 < t.text.length := List.length_pos_iff.2 q6
            -- region 18  law.go:178
            refine awp_rseq [3, 5, 6, 7, 150] (by kernel_rfl) fun K hK => ?_
            try simp only [List.append_eq, List.cons_append, List.nil_append]
            refine aOps_hide fun O hO => ?_
            have gd_6 : nthDst O 6 = some 129 := by rw [hO]; rfl
            have gd_10 : nthDst O 10 = some 133 := by rw [hO]; rfl
            have gd_17 : nthDst O 17 = some 140 := by rw [hO]; rfl
            clear hO
            refine aOps_chunk 14 fun K' hK' => ?_
            simp only [List.take_succ_cons, List.take_zero]
            simp (decide := true) only [aOps_nil, ev, absV, absS, putD, Slots.put, Slots.get, if_true, if_false, true_and, ↓ap_move, pop_move, ↓ap_indexAddrL, apL_mk, pIndexAddr_slice Tryd.underlying23 sz35, ↓ap_fieldAddr, pop_fieldAddr, fa35_0, ↓ap_loadL, pLoad_one ag33, ↓ap_binOp, pop_binOp, isNilC_int, cond_false, pBinX_int, pI_eql, ↓ag_move, agP, agQ_some, gKnown_bool, guardB_bool_true, guardB_bool_false, implies_true, ↓ag_binOp, cv_binl, cp_binl, pI_neq, ↓ap_pick, pop_pick, pPick_bool, pickV_cond_l, pickV_and, ↓ag_indexAddrL, agQL_some, agL_mk, agL_il2, agL_ir2, lv_int, Nat.add_zero, Int.toNat_natCast, c0, gd_6, gd_10]
            repeat (with_reducible refine And.intro ?_ ?_; · first | trivial | omega | (intro hg; simp only [Bool.and_eq_true, Bool.or_eq_true, Bool.not_eq_true', Bool.and_eq_false_iff, Bool.or_eq_false_iff, Bool.not_eq_false', decide_eq_true_eq, decide_eq_false_iff_not, eqNil] at hg; omega) | (simp only [List.length_append, List.length_map, List.length_range, List.length_replicate, List.length_take, List.length_drop, List.length_cons, List.length_nil, List.length_set, List.length_reverse]; omega))
            apply hK'; clear hK' K'
            simp only [List.drop_succ_cons, List.drop_zero]
            simp (decide := true) only [aOps_nil, ev, absV, absS, putD, Slots.put, Slots.get, Slots.keep, if_true, if_false, true_and, ↓ag_fieldAddr, pop_fieldAddr, agP, agQ_some, gKnown_bool, gKnown_cond, guardB_cond, guardB_bool_true, guardB_bool_false, cv_cv, implies_true, fa35_0, cv_fieldAddr, cp_fieldAddr, ↓ag_loadL, agQL_some, agL_mk, agL_ld2, agL_ld3, pLoad_one ag33, ↓ag_binOp, pop_binOp, isNilC_int, cond_false, cv_binl, cv_binr, cp_binl, cp_binr, pBinX_int, pI_neq, ↓ag_move, pop_move, ↓ag_indexAddrL, agL_il3, agL_ir3, pIndexAddr_slice Tryd.underlying23 sz35, fa35_1, pLoad_one ag9, ↓ag_index, pop_index, pIndex_str Tryd.underlying9, cv_indexl, cp_indexl, isNilC_tmp, ↓ag_pick, pop_pick, pPick_bool, pickV_cond_r, cp_nest1, pickV_and, pickV_or, cv_pick, cp_pick, ↓ap_pick, lv_int, lv_str, Nat.add_zero, Int.toNat_natCast, c0, c1, Int.toNat_zero, gd_10, gd_17]
            repeat (with_reducible refine And.intro ?_ ?_; · first | trivial | omega | (intro hg; simp only [Bool.and_eq_true, Bool.or_eq_true, Bool.not_eq_true', Bool.and_eq_false_iff, Bool.or_eq_false_iff, Bool.not_eq_false', decide_eq_true_eq, decide_eq_false_iff_not, eqNil] at hg; omega) | (simp only [List.length_append, List.length_map, List.length_range, List.length_replicate, List.length_take, List.length_drop, List.length_cons, List.length_nil, List.length_set, List.length_reverse]; omega))
            apply hK; clear hK K
            refine awp_cond (b := _) rfl (fun hb6 => ?_) (fun hb6 => ?_)
            · try simp only [decide_eq_true_eq, decide_eq_false_iff_not, Bool.not_eq_true', Bool.and_eq_true, Bool.or_eq_true] at hb6
              exfalso
              rcases hb6 with ⟨z1, z2⟩ | ⟨z1, z2⟩
              · have hk : t.kind = 3 := (u8_eq _ 3).mp z1
                rw [q7 hk] at z2
                exact z2 rfl
              · have hk : t.kind ≠ 3 := fun q => z1 ((u8_eq _ 3).mpr q)
                rw [q8 hk] at z2
                exact z2 rfl
            · try simp only [decide_eq_true_eq, decide_eq_false_iff_not, Bool.not_eq_false', Bool.and_eq_false_iff, Bool.or_eq_false_iff] at hb6
              refine awp_skip ?_
              change Awp _ _ _ _ _ _ _
              -- region 10  law.go:168
              refine awp_r [3, 5, 6, 7] (by rfl) ?_
              simp (decide := true) only [aOps_nil, ev, absV, absS, putD, Slots.put, Slots.get, Slots.keep, if_true, if_false, true_and, ↓ap_move, pop_move, ↓ap_binOp, pop_binOp, isNilC_int, cond_false, pBinX_int, pI_add, ↓ap_assign, pop_assign]
              try simp (disch := omega) only [wrap_i64]
              repeat (with_reducible refine And.intro ?_ ?_; · first | trivial | omega | (intro hg; simp only [Bool.and_eq_true, Bool.or_eq_true, Bool.not_eq_true', Bool.and_eq_false_iff, Bool.or_eq_false_iff, Bool.not_eq_false', decide_eq_true_eq, decide_eq_false_iff_not, eqNil] at hg; omega) | (simp only [List.length_append, List.length_map, List.length_range, List.length_replicate, List.length_take, List.length_drop, List.length_cons, List.length_nil, List.length_set, List.length_reverse]; omega))
              try simp only [thenA_normal]
              refine ⟨i + 1, ?_, ?_, by omega, by omega⟩
              · rfl
              · rw [hnxt]
                exact Sub.set_both hSH _ _
      · try simp only [decide_eq_false_iff_not] at hb3
        refine awp_exit ?_
        change Awp _ _ _ _ _ _ _
        -- region 20  law.go:182
        refine awp_rseq [2] (by rfl) fun K hK => ?_
        refine aOps_callV (V := .bool true) (by rfl) (by rfl) (c_lives03 w₀ hm _) ?_
        simp (decide := true) only [aOps_nil, ev, putD, Slots.put, Slots.get, Slots.keep, if_true, if_false, true_and, ↓ap_assign, pop_assign]
        repeat (with_reducible refine And.intro ?_ ?_; · first | trivial | omega | (intro hg; simp only [Bool.and_eq_true, Bool.or_eq_true, Bool.not_eq_true', Bool.and_eq_false_iff, Bool.or_eq_false_iff, Bool.not_eq_false', decide_eq_true_eq, decide_eq_false_iff_not, eqNil] at hg; omega) | (simp only [List.length_append, List.length_map, List.length_range, List.length_replicate, List.length_take, List.length_drop, List.length_cons, List.length_nil, List.length_set, List.length_reverse]; omega))
        apply hK; clear hK K
        refine awp_ret ?_
        try simp only [thenA_ret, inBlockA_ret]
        refine retA_ret h (by repeat (first | exact Sub.refl _ | assumption | refine Sub.trans_set ?_ (by assumption))) (resPre_tmp (resPre_nil)) ?_
        simp (decide := true) only [Slots.get, if_true, and_true, resOf_one]
        all_goals first | rfl | exact ⟨rfl, rfl⟩ | (simp (decide := true) only [if_true, if_false, *]; done) | (trace_state; fail)
end Go.Proofs.YtmadddihphkmoaaDoor

/-
  The arguments of the statements, opened: booleans, texts, integers, pairs of bytes; the wrap that hands on the world's shape.
  Conditions: none.
-/
namespace Go.Proofs.YtmadddihphkmoaaDoor
open Go.AM
open Go.ChangeShapes Go.WideShapes Go.ChangeAt Go.RowKit
set_option maxRecDepth 100000

section
variable {H : Type} {enc : TypeId × Value → H} {W : World} {base : Nat} {v : Value} {x : DataW H × List MemPlace}
theorem arg_str {t : TypeId} (ht : Tryd.prog.underlying t = some .string) (h : ∃ fuel, DataW.trod enc Tryd.prog W 0 (fun _ => true) true fuel t v.cells.toList = some x) (hv : Value.okWide Tryd.prog W .any base t v) :
    ∃ s : List UInt8, VR (fun _ => none) (.str s) v ∧ s.length ≤ 9223372036854775807 := by
  obtain ⟨fuel, hf⟩ := h
  obtain ⟨s, rfl⟩ := okWide_string ht hv
  obtain ⟨s', h, hx, hs⟩ := DataW.trod_string ht hf
  simp [Value.cells] at h
  subst h
  exact ⟨s.data.toList, VR_strArg _ s, str_le hs⟩
end

/-- The plain wrap of a row with listed variables, the world's shape handed on. -/
theorem returns_and_shaped {H : Type} {enc : TypeId × Value → H} {a : Assume} {C : Checked} {os : Os} {f : FuncId} {fn : Func} {s : ChangeSpec} {conds : List PathCond} {apart fresh handsOn again : Bool} {X : World → Array Value → Prop}
    (hX : ∀ (w w' : World) (args : Array Value), w.heap = w'.heap → X w args → X w' args)
    (own : ownKnob C.prog.godebug = none) (started : os.Started) (noInit : C.prog.inits.idxOf? f = none) (hfn : C.prog.funcs[f]? = some fn)
    (witness : ∃ (w : World) (tape : Tape) (i : Input), w.os = os ∧ (w.forCall tape i).Shaped C.prog ∧ i.vars = [] ∧ Input.okWide C.prog (w.forCall tape i) .any w.heap.size f i ∧
      ((s.pre enc C.prog fn conds apart (w.forCall tape i).memory i.args ∧ X (w.forCall tape i).memory i.args) ∧ sizedMet enc C.prog fn (OpenSpec.ofChange s) apart (w.forCall tape i).memory i.args) ∧ a.holds C.prog (lone (Frame.enter C.prog f i.args .normal) [] (w.forCall tape i)))
    (contract : ∀ (W : World) (base : Nat) (args : Array Value) (ds gs : List (DataW H)) (before : List MemPlace), W.ShapedOpen C.prog →
      (∀ (j : Nat) t v, fn.params[j]? = some t → args[j]? = some v → Value.okWide C.prog W .any base t v) →
      DataW.Whole enc C.prog fn.params.toList s.vars apart W args.toList ds gs before →
      conds.all (PathCond.test C.prog ⟨fn.params.toList, ds, s.plain.varTypes C.prog, gs⟩) = true →
      (DataW.weightsEach C.prog (fn.params.toList ++ s.plain.varTypes C.prog) (ds ++ gs)).all (· ≤ reachBytes) = true → X W args →
      a.holds C.prog (lone (Frame.enter C.prog f args .normal) [] W) →
      Calls C.prog f args W fun e W' => ∃ v, e = .returned v ∧ s.post enc C.prog fn apart fresh handsOn again W args v W') :
    ReturnsInHanded a C os f .any (fun w args => (s.pre enc C.prog fn conds apart w args ∧ X w args) ∧ sizedMet enc C.prog fn (OpenSpec.ofChange s) apart w args) (s.post enc C.prog fn apart fresh handsOn again) := by
  refine returnsInHanded_of_calls own started noInit witness ?_
  intro w tape i _ hsh _ hok hpre hholds
  obtain ⟨_, _, _, fn', hfn', _, _, _, _, hval⟩ := hok
  have e : fn' = fn := Option.some.inj (hfn'.symm.trans hfn)
  subst e
  obtain ⟨⟨⟨ds, gs, before, hw, hc⟩, hx⟩, hz⟩ := hpre
  have hw' := DataW.Whole.of_heap (w' := w.forCall tape i) (by rfl) hw
  refine (contract (w.forCall tape i) w.heap.size i.args ds gs before hsh hval hw' hc (hz.weights hw) (hX _ _ _ (by rfl) hx) hholds).mono fun e W' ⟨v, he, hp⟩ => ?_
  subst he
  exact ChangeSpec.post_blind hp
end Go.Proofs.YtmadddihphkmoaaDoor

/-
  What the world of a statement about columns gives: the listed table, the cell of the longest text.
  Conditions: none.
-/
namespace Go.Proofs.YtmadddihphkmoaaDoor
open Go.AM
open Go.ChangeShapes Go.WideShapes Go.ChangeAt Go.RowKit
set_option maxRecDepth 100000
/-- The listed table of powers of ten. -/
theorem maxl_of {W : World} (h : W.ShapedOpen Tryd.prog) : MaxL W :=
  cell_of_shapedOpen_int (t := 3) (zero := #[.int .i64 0]) h (of_decide_eq_true (by kernel_rfl)) (by kernel_rfl) rfl (by kernel_rfl) (by kernel_rfl) Tryd.underlying3
end Go.Proofs.YtmadddihphkmoaaDoor

