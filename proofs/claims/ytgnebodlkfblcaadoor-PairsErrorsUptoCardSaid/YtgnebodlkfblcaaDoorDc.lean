/-
  Texts of this proof, joined: BmE, PrK, PrL, Shelf, LbA, LbB, PrM, PrH, PrN, PrO, PrP, PrQ, PrR, PrS, PrT, PrG, PrV, PrU, PrW.
  Conditions: none.
-/
import Derived.Test.YtgnebodlkfblcaaDoorDb
import Derived.Shelf.Strings.Builder1
import Derived.Shelf.Small.Bits
import Derived.Shelf.Small.Wraps
import Derived.Shelf.Strings.BuilderF
import Derived.Shelf.Strings.BuilderK
import Derived.Shelf.Strconv.Itoa0
import Derived.Shelf.Strconv.Itoa1
import Derived.Shelf.LaysM
import Derived.Shelf.Strconv.Itoa2
import Derived.Shelf.Strconv.Itoa3
import Derived.Shelf.Strings.BuilderCap
import Derived.Ground.SlsfProg
import Derived.Shelf.SlSortCmp.InsertionK
import Derived.Shelf.SlSortCmp.SiftDownK
import Derived.Shelf.SlSortCmp.HeapSortK
import Derived.Shelf.SlSortCmp.MedianK
import Derived.Shelf.SlSortCmp.PivotK
import Derived.Shelf.SlSortCmp.ReverseRangeK
import Derived.Shelf.SlSortCmp.PartialInsertionK
import Derived.Shelf.SlSortCmp.PartitionEqualK
import Derived.Shelf.SlSortCmp.PartitionK
import Derived.Shelf.SlSortCmp.PdqK
import Derived.Shelf.SlSortCmp.WholeK
import Derived.Test.YtgnebodlkfblcaaDoorProg
import Derived.Lib.SmallJoins
import Derived.Lib.AppendIntMem
import Derived.Shelf.GgSortFunc.InsertionK
import Derived.LoopN
import Derived.StillTactics
import Derived.StillTail
import Derived.Test.YtgnebodlkfblcaaDoorDa
set_option linter.unusedSimpArgs false
set_option linter.unnecessarySimpa false
set_option linter.unusedVariables false
/-
  An assertion layer over the model's wp: statements of open order, calls that leave the heap free among the reading operations (rule J: rule H with free calls).
  Conditions: none. Nothing here is about a particular program.
-/
namespace Go.AM
open Go.RowKit (Below)
section
variable {P : Program} {w₀ : World} {n : FrameK}

/-- Operations in an order of our own; the first m leave what is told of the heap; a free one (bs) gives the same in any heap that holds the told one, and leaves it. -/
def jOps (P : Program) (w₀ : World) (l : List Oper) : List Oper → Nat → List Bool → Slots → AHeap → (Slots → AHeap → Prop) → Prop
  | [], _, _, s, h, K => K s h
  | o :: r, 0, _, s, h, K => aOps P w₀ l (o :: r) s h K
  | o :: r, m + 1, true :: bs, s, h, K => ∃ V, (∀ g, Sub h g → aOps P w₀ l [o] s g fun s' h' => s' = putD s o.dst V ∧ h' = g) ∧ jOps P w₀ l r m bs (putD s o.dst V) h K
  | o :: r, m + 1, false :: bs, s, h, K => aOps P w₀ l [o] s h fun s' h' => Sub h h' ∧ jOps P w₀ l r m bs s' h' K
  | o :: r, m + 1, [], s, h, K => aOps P w₀ l [o] s h fun s' h' => Sub h h' ∧ jOps P w₀ l r m [] s' h' K
theorem jOps_nil {l : List Oper} {m : Nat} {bs : List Bool} {s : Slots} {h : AHeap} {K : Slots → AHeap → Prop} : jOps P w₀ l [] m bs s h K = K s h := rfl
theorem jOps_cons {l : List Oper} {m : Nat} {bs : List Bool} {o : Oper} {r : List Oper} {s : Slots} {h : AHeap} {K : Slots → AHeap → Prop} : jOps P w₀ l (o :: r) (m + 1) (false :: bs) s h K = aOps P w₀ l [o] s h fun s' h' => Sub h h' ∧ jOps P w₀ l r m bs s' h' K := rfl
theorem jOps_zero {l : List Oper} {o : Oper} {bs : List Bool} {r : List Oper} {s : Slots} {h : AHeap} {K : Slots → AHeap → Prop} : jOps P w₀ l (o :: r) 0 bs s h K = aOps P w₀ l (o :: r) s h K := rfl
theorem jOps_free {l : List Oper} {m : Nat} {bs : List Bool} {o : Oper} {r : List Oper} {s : Slots} {h : AHeap} {K : Slots → AHeap → Prop} {V : AVal} (hc : ∀ g, Sub h g → aOps P w₀ l [o] s g fun s' h' => s' = putD s o.dst V ∧ h' = g) (hk : jOps P w₀ l r m bs (putD s o.dst V) h K) : jOps P w₀ l (o :: r) (m + 1) (true :: bs) s h K := ⟨V, hc, hk⟩
/-- A step that is not free. -/
theorem jOps_step {l : List Oper} {m : Nat} {bs : List Bool} (hb : bs.getD 0 false = false) {o : Oper} {r : List Oper} {s : Slots} {h : AHeap} {K : Slots → AHeap → Prop} (hj : jOps P w₀ l (o :: r) (m + 1) bs s h K) : aOps P w₀ l [o] s h fun s' h' => Sub h h' ∧ jOps P w₀ l r m (bs.drop 1) s' h' K := by
  cases bs with
  | nil => exact hj
  | cons b bs =>
    simp only [List.getD_cons_zero] at hb
    subst hb
    exact hj
theorem jOps_take {l : List Oper} {m : Nat} {bs : List Bool} (hb : bs.getD 0 false = true) {o : Oper} {r : List Oper} {s : Slots} {h : AHeap} {K : Slots → AHeap → Prop} (hj : jOps P w₀ l (o :: r) (m + 1) bs s h K) : ∃ V, (∀ g, Sub h g → aOps P w₀ l [o] s g fun s' h' => s' = putD s o.dst V ∧ h' = g) ∧ jOps P w₀ l r m (bs.drop 1) (putD s o.dst V) h K := by
  cases bs with
  | nil => simp at hb
  | cons b bs =>
    simp only [List.getD_cons_zero] at hb
    subst hb
    exact hj
theorem jOps_mono {l : List Oper} {K K' : Slots → AHeap → Prop} (hk : ∀ s h, K s h → K' s h) : ∀ {r : List Oper} {m : Nat} {bs : List Bool} {s : Slots} {h : AHeap}, jOps P w₀ l r m bs s h K → jOps P w₀ l r m bs s h K'
  | [], m, bs, s, h, ha => hk _ _ ha
  | o :: r, 0, bs, s, h, ha => awp_rseq.aOps_mono hk ha
  | o :: r, m + 1, true :: bs, s, h, ha => by
    obtain ⟨V, h1, h2⟩ := ha
    exact ⟨V, h1, jOps_mono hk h2⟩
  | o :: r, m + 1, false :: bs, s, h, ha => aOps1_mono (fun s' h' hx => ⟨hx.1, jOps_mono hk hx.2⟩) ha
  | o :: r, m + 1, [], s, h, ha => aOps1_mono (fun s' h' hx => ⟨hx.1, jOps_mono hk hx.2⟩) ha

/-- A reading operation or a free call gives the same wherever the told heap lies, and whenever it is run. -/
def FactC (P : Program) (w₀ : World) (n : FrameK) (l : List Oper) (g : AHeap) (S : Slots) (o : Oper) (V : AVal) : Prop :=
  ∀ (ψ : PMap) (w : World) (a : Act) (g' : AHeap) (next : Act → World → Prop) (Q : Exit → Act → World → Prop), Sub g g' → HRel w₀ ψ g' w → LookOk ψ n l o S a → (∀ ψ' v w', ψ.le ψ' → HRel w₀ ψ' g' w' → (∀ t, o.dst = some t → VR ψ' V v) → next (a.put o.dst v) w') →
    if Region.wanted o (yielded l.toArray a.tmps) = true then o.wp P a w next Q else next (a.put o.dst undef) w
theorem FactR.toC {l : List Oper} {g : AHeap} {S : Slots} {o : Oper} {V : AVal} (h : FactR P w₀ n l g S o V) : FactC P w₀ n l g S o V :=
  fun ψ w a g' next Q h1 h2 h3 h4 => h ψ w a g' next Q h1 h2 h3 fun v hv => h4 ψ v w ψ.le_refl h2 fun _ _ => hv
theorem FactC.sub {l : List Oper} {g g' : AHeap} {S : Slots} {o : Oper} {V : AVal} (h : FactC P w₀ n l g S o V) (hs : Sub g g') : FactC P w₀ n l g' S o V :=
  fun ψ w a g₂ next Q h1 h2 h3 h4 => h ψ w a g₂ next Q (Sub.trans hs h1) h2 h3 h4
theorem FactC.slots {l : List Oper} {g : AHeap} {S S' : Slots} {o : Oper} {V : AVal} (h : FactC P w₀ n l g S o V) (hs : ∀ t ∈ looksL l o, S'.get t = S.get t) : FactC P w₀ n l g S' o V :=
  fun ψ w a g₂ next Q h1 h2 h3 h4 => h ψ w a g₂ next Q h1 h2 ⟨h3.1, h3.2.1, fun t ht => by rw [← hs t ht]; exact h3.2.2 t ht⟩ h4
theorem fact_free {l : List Oper} (hall : dstsOk n l = true) {o : Oper} {S : Slots} {g : AHeap} {V : AVal} (ha : ∀ g', Sub g g' → aOps P w₀ l [o] S g' fun s' h' => s' = putD S o.dst V ∧ h' = g') : FactC P w₀ n l g S o V :=
  fun ψ w a g' next Q h1 h2 h3 h4 => one_ok hall (ha g' h1) h2 h3 fun ψ' x h' v w' e1 e2 e3 ⟨e4, e5⟩ => h4 ψ' v w' e1 (e5 ▸ e2) fun t ht => by
    have := congrArg (fun s : Slots => s.get t) e4
    simp only [put_get, ht, if_true] at this
    rw [← this]
    exact e3

/-! ### The static conditions -/
def isJ (P : Program) (l : List Oper) (π : List Nat) (fl : List Bool) (q : Nat) : Bool := fl.getD q false || isF P l (π.getD q 0)
def floatJ (P : Program) (l : List Oper) (π : List Nat) (fl : List Bool) (ws : List (Option Nat)) (m : Nat) : Bool :=
  orderB l && (π.all fun i => decide (i < l.length)) && ((List.range l.length).all fun i => π.contains i) &&
  ((List.range π.length).all fun q => (List.range π.length).all fun r => decide (q = r) || !(π.getD q 0 == π.getD r 0)) &&
  ((List.range π.length).all fun q => match ws.getD q none with
    | none => (List.range q).all fun c => isJ P l π fl c
    | some r => decide (r < q) && Region.waitsFor .any l.toArray (π.getD q 0) (π.getD r 0) && (List.range q).all fun c => decide (c ≤ r) || isJ P l π fl c) &&
  ((List.range π.length).all fun q => match l[π.getD q 0]? with
    | none => true
    | some o => (List.range π.length).all fun r => match l[π.getD r 0]? with
      | none => true
      | some oj => (match oj.dst with
        | none => true
        | some t => !(looksL l o).contains t || (decide (r < q) && Region.waitsFor .any l.toArray (π.getD q 0) (π.getD r 0)))) &&
  decide (m ≤ π.length) && ((List.range π.length).all fun q => decide (q < m) || !isJ P l π fl q) &&
  (decide (m = π.length) || (List.range m).all fun q => (List.range (m + 1)).any fun r => decide (q < r) && Region.waitsFor .any l.toArray (π.getD r 0) (π.getD q 0))

structure FloatJ (P : Program) (l : List Oper) (π : List Nat) (fl : List Bool) (m : Nat) : Prop where
  order : orderB l = true
  inr : ∀ q, q < π.length → π.getD q 0 < l.length
  onto : ∀ i, i < l.length → ∃ q, q < π.length ∧ π.getD q 0 = i
  inj : ∀ q r, q < π.length → r < π.length → π.getD q 0 = π.getD r 0 → q = r
  wait : ∀ q c, q < π.length → c < q → isJ P l π fl c = false → ∃ r, c ≤ r ∧ r < q ∧ Region.waitsFor .any l.toArray (π.getD q 0) (π.getD r 0) = true
  data : ∀ q r o oj t, q < π.length → r < π.length → l[π.getD q 0]? = some o → l[π.getD r 0]? = some oj → oj.dst = some t → t ∈ looksL l o → r < q ∧ Region.waitsFor .any l.toArray (π.getD q 0) (π.getD r 0) = true
  mle : m ≤ π.length
  tail : ∀ q, m ≤ q → q < π.length → isJ P l π fl q = false
  sink : m < π.length → ∀ q, q < m → ∃ r, q < r ∧ r ≤ m ∧ Region.waitsFor .any l.toArray (π.getD r 0) (π.getD q 0) = true

theorem floatJ_spec {l : List Oper} {π : List Nat} {fl : List Bool} {ws : List (Option Nat)} {m : Nat} (h : floatJ P l π fl ws m = true) : FloatJ P l π fl m := by
  unfold floatJ at h
  simp only [Bool.and_eq_true] at h
  obtain ⟨⟨⟨⟨⟨⟨⟨⟨h1, h2⟩, h3⟩, h4⟩, h5⟩, h6⟩, h7⟩, h8⟩, h9⟩ := h
  simp only [List.all_eq_true, List.mem_range] at h2 h3 h4 h5 h6 h8
  refine ⟨h1, fun q hq => ?_, fun i hi => ?_, fun q r hq hr e => ?_, fun q c hq hc hf => ?_, fun q r o oj t hq hr ho hoj hd ht => ?_, by simpa using h7, fun q hm hq => ?_, fun hm q hq => ?_⟩
  · have := h2 (π.getD q 0) (by rw [List.getD, List.getElem?_eq_getElem hq]; exact List.getElem_mem hq)
    simpa using this
  · have := h3 i hi
    rw [List.contains_iff_mem] at this
    obtain ⟨q, hq, e⟩ := List.getElem_of_mem this
    exact ⟨q, hq, by rw [List.getD, List.getElem?_eq_getElem hq]; exact e⟩
  · have := h4 q hq r hr
    rw [Bool.or_eq_true, decide_eq_true_eq] at this
    rcases this with e' | e'
    · exact e'
    · rw [e] at e'; simp at e'
  · have := h5 q hq
    split at this
    · rw [List.all_eq_true] at this
      rw [this c (List.mem_range.2 hc)] at hf
      cases hf
    · rename_i r _
      simp only [Bool.and_eq_true, decide_eq_true_eq, List.all_eq_true, List.mem_range, Bool.or_eq_true] at this
      obtain ⟨⟨t1, t2⟩, t3⟩ := this
      rcases t3 c hc with e | e
      · exact ⟨r, e, t1, t2⟩
      · rw [e] at hf; cases hf
  · have := h6 q hq
    rw [ho] at this
    simp only [List.all_eq_true, List.mem_range] at this
    have := this r hr
    rw [hoj] at this
    simp only [hd, Bool.or_eq_true, Bool.and_eq_true, decide_eq_true_eq, Bool.not_eq_true'] at this
    rcases this with e | e
    · have hm : (looksL l o).contains t = true := by simpa using ht
      rw [hm] at e; cases e
    · exact e
  · have := h8 q hq
    simp only [Bool.or_eq_true, decide_eq_true_eq, Bool.not_eq_true'] at this
    rcases this with e | e
    · omega
    · exact e
  · rw [Bool.or_eq_true, decide_eq_true_eq] at h9
    rcases h9 with e | e
    · omega
    · rw [List.all_eq_true] at e
      have := e q (List.mem_range.2 hq)
      rw [List.any_eq_true] at this
      obtain ⟨r, hr, hw⟩ := this
      rw [List.mem_range] at hr
      simp only [Bool.and_eq_true, decide_eq_true_eq] at hw
      exact ⟨r, hw.1, by omega, hw.2⟩

/-- Over the reading operations, up to the next call. -/
theorem advanceJ {l : List Oper} (hall : dstsOk n l = true) {π : List Nat} {fl : List Bool} {m : Nat} (F : FloatJ P l π fl m) {K : Slots → AHeap → Prop} {g : AHeap} : ∀ (d p : Nat) (S : Slots), π.length - p = d → p ≤ π.length → jOps P w₀ l ((permL l π).drop p) (m - p) (fl.drop p) S g K →
    ∃ p' S', p ≤ p' ∧ p' ≤ π.length ∧ (p' < π.length → isJ P l π fl p' = false) ∧ (∀ q, p ≤ q → q < p' → isJ P l π fl q = true) ∧ jOps P w₀ l ((permL l π).drop p') (m - p') (fl.drop p') S' g K ∧
      (∀ q o, p ≤ q → q < p' → l[π.getD q 0]? = some o → ∃ V, (∀ t, o.dst = some t → S'.get t = V) ∧ FactC P w₀ n l g S' o V) ∧
      (∀ t, (∀ q o, p ≤ q → q < p' → l[π.getD q 0]? = some o → o.dst ≠ some t) → S'.get t = S.get t) := by
  intro d
  induction d with
  | zero =>
    intro p S hd hp ha
    exact ⟨p, S, Nat.le_refl _, hp, fun h => by omega, fun q h1 h2 => by omega, ha, fun q o h1 h2 => by omega, fun t _ => rfl⟩
  | succ d ih =>
    intro p S hd hp ha
    have hpl : p < π.length := by omega
    cases hf : isJ P l π fl p with
    | false => exact ⟨p, S, Nat.le_refl _, hp, fun _ => hf, fun q h1 h2 => by omega, ha, fun q o h1 h2 => by omega, fun t _ => rfl⟩
    | true =>
      have hpm : p < m := by
        refine Nat.lt_of_not_le fun h => ?_
        rw [F.tail p h hpl] at hf
        cases hf
      obtain ⟨o, ho⟩ : ∃ o, l[π.getD p 0]? = some o := ⟨_, List.getElem?_eq_getElem (F.inr p hpl)⟩
      rw [permL_drop F.inr hpl ho, show m - p = (m - (p + 1)) + 1 by omega] at ha
      have hfl : (fl.drop p).getD 0 false = fl.getD p false := by simp [List.getD, List.getElem?_drop]
      have hfd : (fl.drop p).drop 1 = fl.drop (p + 1) := by rw [List.drop_drop]
      obtain ⟨V, hv, hfact⟩ : ∃ V, jOps P w₀ l ((permL l π).drop (p + 1)) (m - (p + 1)) (fl.drop (p + 1)) (putD S o.dst V) g K ∧ FactC P w₀ n l g S o V := by
        cases hb : fl.getD p false with
        | true =>
          obtain ⟨V, h1, h2⟩ := jOps_take (by rw [hfl, hb]) ha
          rw [hfd] at h2
          exact ⟨V, h2, fact_free hall h1⟩
        | false =>
          have hk2 : kindF P o.op = 2 := by
            unfold isJ isF at hf
            rw [ho, hb] at hf
            simpa using hf
          have ha := jOps_step (by rw [hfl, hb]) ha
          rw [hfd] at ha
          obtain ⟨V, ⟨_, hv⟩, hfact⟩ := fact_of hall hk2 ha
          exact ⟨V, hv, hfact.toC⟩
      obtain ⟨p', S', a1, a2, a3, a4, a5, a6, a7⟩ := ih (p + 1) (putD S o.dst V) (by omega) (by omega) hv
      have notlook : ∀ q oq t, p ≤ q → q < π.length → l[π.getD q 0]? = some oq → oq.dst = some t → t ∉ looksL l o := fun q oq t h1 h2 h3 h4 ht => by
        have := (F.data p q o oq t hpl h2 ho h3 h4 ht).1
        omega
      have uniq : ∀ q oq t, p < q → q < π.length → l[π.getD q 0]? = some oq → oq.dst = some t → o.dst ≠ some t := fun q oq t h1 h2 h3 h4 e => by
        have := ((orderB_spec F.order ho).2 _ oq t h3 h4).1 e
        have := F.inj p q hpl h2 this
        omega
      refine ⟨p', S', by omega, a2, a3, fun q h1 h2 => ?_, a5, fun q oq h1 h2 hq => ?_, fun t ht => ?_⟩
      · rcases Nat.eq_or_lt_of_le h1 with e | e
        · rw [← e]; exact hf
        · exact a4 q e h2
      · rcases Nat.eq_or_lt_of_le h1 with e | e
        · subst e
          rw [ho] at hq
          obtain rfl := Option.some.inj hq
          refine ⟨V, fun t ht => ?_, hfact.slots fun t ht => ?_⟩
          · rw [a7 t fun q oq h3 h4 h5 h6 => uniq q oq t h3 (by omega) h5 h6 ht, put_get, if_pos ht]
          · rw [a7 t fun q oq h3 h4 h5 h6 => notlook q oq t (by omega) (by omega) h5 h6 ht, put_get, if_neg fun e => notlook p o t (Nat.le_refl _) hpl ho e ht]
        · exact a6 q oq e h2 hq
      · rw [a7 t fun q oq h3 h4 h5 => ht q oq (by omega) h4 h5, put_get, if_neg (ht p o (Nat.le_refl _) (by omega) ho)]

/-- Where a run of the statement stands. -/
def PhaseJ (P : Program) (w₀ : World) (n : FrameK) (l : List Oper) (π : List Nat) (fl : List Bool) (m : Nat) (K : Slots → AHeap → Prop) (listed : Array Bool) (ψ : PMap) (a : Act) (w : World) : Prop :=
  listed.size = l.length ∧ (∀ j oj, l[j]? = some oj → listed.getD j false = true → ∀ e ∈ oj.after, Region.binds .any e = true → listed.getD e.on false = true) ∧ a.tmps.size = n ∧ a.defers = n.dfr ∧
  ∃ p S g, p ≤ π.length ∧ (p < π.length → isJ P l π fl p = false) ∧ (∀ q, p ≤ q → q < π.length → listed.getD (π.getD q 0) false = false) ∧ (∀ q, q < p → isJ P l π fl q = false → listed.getD (π.getD q 0) false = true) ∧
    (m < p → ∀ q, q < p → listed.getD (π.getD q 0) false = true) ∧ HRel w₀ ψ g w ∧ jOps P w₀ l ((permL l π).drop p) (m - p) (fl.drop p) S g K ∧
    (∀ q o, q < p → l[π.getD q 0]? = some o → listed.getD (π.getD q 0) false = false → ∃ V, (∀ t, o.dst = some t → S.get t = V) ∧ FactC P w₀ n l g S o V) ∧
    ∀ t, (∃ q o, q < p ∧ l[π.getD q 0]? = some o ∧ o.dst = some t ∧ listed.getD (π.getD q 0) false = false) ∨ VR ψ (S.get t) (a.tmps.getD t undef)

theorem waits_listedJ {l : List Oper} {listed : Array Bool} {i j : Nat} {o : Oper} (ho : l[i]? = some o) (hedges : ∀ e ∈ o.after, Region.binds .any e = true → listed.getD e.on false = true) (hw : Region.waitsFor .any l.toArray i j = true) : listed.getD j false = true := by
  obtain ⟨oi, g1, e, g2, g3, g4⟩ := Region.waitsFor_spec hw
  have g1' : l[i]? = some oi := by simpa using g1
  rw [ho] at g1'
  obtain rfl := Option.some.inj g1'
  rw [← g4]
  exact hedges e g2 g3

theorem any_okJ {l : List Oper} (hall : dstsOk n l = true) {π : List Nat} {fl : List Bool} {m : Nat} (F : FloatJ P l π fl m) {K : Slots → AHeap → Prop} {φ : PMap} {Q : Exit → Act → World → Prop}
    (hq : ∀ ψ S g a w, φ.le ψ → HRel w₀ ψ g w → SRel ψ n S a → K S g → Q .normal a w) : ∀ (fuel : Nat) (listed : Array Bool) (a : Act) (w : World) (ψ : PMap), φ.le ψ → PhaseJ P w₀ n l π fl m K listed ψ a w →
    (listed.toList.filter (!·)).length ≤ fuel → wpAny P .any l.toArray Q fuel listed a w := by
  have hB := F.order
  have fin : ∀ (listed : Array Bool) (a : Act) (w : World) (ψ : PMap), φ.le ψ → PhaseJ P w₀ n l π fl m K listed ψ a w → Region.ready .any l.toArray listed = [] → Q .normal a w := by
    rintro listed a w ψ hle ⟨i1, i2, i3, i4, p, S, g, p1, p2, p3, p4, p5, p6, p7, p8, p9⟩ hrd
    have hal := all_listed hB i1 hrd
    have hp : p = π.length := by
      rcases Nat.eq_or_lt_of_le p1 with e | e
      · exact e
      · have := p3 p (Nat.le_refl _) e
        rw [hal _ (F.inr p e)] at this
        cases this
    subst hp
    rw [show (permL l π).drop π.length = [] by rw [← permL_length F.inr]; simp, jOps_nil] at p7
    refine hq ψ S g a w hle p6 ⟨i3, i4, fun t => ?_⟩ p7
    rcases p9 t with ⟨q, o, c1, c2, c3, c4⟩ | c
    · rw [hal _ (F.inr q c1)] at c4; cases c4
    · exact c
  intro fuel
  induction fuel with
  | zero =>
    intro listed a w ψ hle inv hc
    have hrd : Region.ready .any l.toArray listed = [] := by
      cases hrd : Region.ready .any l.toArray listed with
      | nil => rfl
      | cons i r =>
        exfalso
        have hm : i ∈ Region.ready .any l.toArray listed := by rw [hrd]; exact List.mem_cons_self
        obtain ⟨h1, o, ho, _⟩ := mem_ready.1 hm
        have hi : i < listed.size := by
          have : l[i]? = some o := by simpa using ho
          rw [inv.1]; exact (List.getElem?_eq_some_iff.1 this).1
        have h2 : listed.toList[i]? = some false := by
          simp [Array.getD, hi] at h1
          simp [hi, h1]
        have := List.mem_of_getElem? h2
        have hmem : false ∈ listed.toList.filter (!·) := by simp [List.mem_filter, this]
        have := List.length_pos_of_mem hmem
        omega
    exact ⟨hrd, fin listed a w ψ hle inv hrd⟩
  | succ fuel ih =>
    intro listed a w ψ hle inv hc
    refine ⟨fun hrd => fin listed a w ψ hle inv hrd, fun i hi => ?_⟩
    obtain ⟨i1, i2, i3, i4, p, S, g, p1, p2, p3, p4, p5, p6, p7, p8, p9⟩ := inv
    obtain ⟨h1, o, ho, hedges⟩ := mem_ready.1 hi
    have hol : l[i]? = some o := by simpa using ho
    have hilt : i < l.length := (List.getElem?_eq_some_iff.1 hol).1
    have hisz : i < listed.size := by rw [i1]; exact hilt
    have hif : listed.getD i false = false := by simp [Array.getD, hisz] at h1 ⊢; exact h1
    have hcount : ((listed.setIfInBounds i true).toList.filter (!·)).length ≤ fuel := by
      have h2 : listed.toList[i]? = some false := by
        simp [Array.getD, hisz] at h1
        simp [hisz, h1]
      have := count_set listed.toList i h2
      have e : (listed.setIfInBounds i true).toList = listed.toList.set i true := by simp
      rw [e]
      omega
    have hdn : ∀ d, o.dst = some d → d < n := fun d hd => nth_lt l i d hall (by rw [nthDst_eq, hol]; exact hd)
    obtain ⟨q, hql, hqi⟩ := F.onto i hilt
    have hoq : l[π.getD q 0]? = some o := by rw [hqi]; exact hol
    have looks : LookOk ψ n l o S a := ⟨i3, i4, fun t ht => by
      rcases p9 t with ⟨r, oj, c1, c2, c3, c4⟩ | c
      · exfalso
        have := (F.data q r o oj t hql (by omega) hoq c2 c3 ht).2
        rw [hqi] at this
        rw [waits_listedJ hol hedges this] at c4
        cases c4
      · exact c⟩
    have closed' : ∀ j oj, l[j]? = some oj → (listed.setIfInBounds i true).getD j false = true → ∀ e ∈ oj.after, Region.binds .any e = true → (listed.setIfInBounds i true).getD e.on false = true := fun j oj hj hl e he hb => by
      by_cases e1 : e.on = i
      · rw [e1]; exact set_self hisz
      · rw [set_other e1]
        by_cases e2 : j = i
        · subst e2
          rw [hol] at hj
          obtain rfl := Option.some.inj hj
          exact hedges e he hb
        · rw [set_other e2] at hl
          exact i2 j oj hj hl e he hb
    have other : ∀ r, r < π.length → r ≠ q → (listed.setIfInBounds i true).getD (π.getD r 0) false = listed.getD (π.getD r 0) false := fun r hr hne => set_other fun e => hne (F.inj r q hr hql (by rw [e, hqi]))
    have nobehind : p < q → False := fun hpq => by
      obtain ⟨r, r1, r2, r3⟩ := F.wait q p hql hpq (p2 (by omega))
      rw [hqi] at r3
      have := waits_listedJ hol hedges r3
      rw [p3 r r1 (by omega)] at this
      cases this
    have goal : (if Region.wanted o (yielded l.toArray a.tmps) = true then o.wp P a w (wpAny P .any l.toArray Q fuel (listed.setIfInBounds i true)) Q else wpAny P .any l.toArray Q fuel (listed.setIfInBounds i true) (a.put o.dst undef) w) := by
      rcases Nat.lt_or_ge q p with hqp | hqp
      · -- a reading operation
        obtain ⟨V, v1, v2⟩ := p8 q o hqp hoq (by rw [hqi]; exact hif)
        refine v2 ψ w a g _ Q (Sub.refl g) p6 looks fun ψ₂ v w₂ hle₂ hr₂ hv => ?_
        refine ih _ _ _ ψ₂ (PMap.le_trans hle hle₂) ⟨by simp [i1], closed', by rw [put_size]; exact i3, by rw [put_defers]; exact i4, p, S, g, p1, p2, fun r r1 r2 => ?_, fun r r1 r2 => ?_, fun hm r r1 => ?_, hr₂, p7, fun r oj r1 r2 r3 => ?_, fun t => ?_⟩ hcount
        · rw [other r r2 (by omega)]; exact p3 r r1 r2
        · by_cases e : r = q
          · rw [e, hqi]; exact set_self hisz
          · rw [other r (by omega) e]; exact p4 r r1 r2
        · by_cases e : r = q
          · rw [e, hqi]; exact set_self hisz
          · rw [other r (by omega) e]; exact p5 hm r r1
        · by_cases e : r = q
          · rw [e, hqi, set_self hisz] at r3; cases r3
          · rw [other r (by omega) e] at r3
            exact p8 r oj r1 r2 r3
        · by_cases hod : o.dst = some t
          · right
            rw [v1 t hod, put_get_eq a hod (by rw [i3]; exact hdn t hod)]
            exact hv t hod
          · rcases p9 t with ⟨r, oj, c1, c2, c3, c4⟩ | c
            · refine .inl ⟨r, oj, c1, c2, c3, ?_⟩
              rw [other r (by omega) fun e => by subst e; rw [hoq] at c2; obtain rfl := Option.some.inj c2; exact hod c3]
              exact c4
            · right
              rw [put_get_ne a hod]
              exact VR_mono hle₂ _ _ c
      · have hqe : q = p := by
          rcases Nat.eq_or_lt_of_le hqp with e | e
          · exact e.symm
          · exact (nobehind e).elim
        subst hqe
        -- a call
        have all_m : m ≤ q → ∀ r, r < q → listed.getD (π.getD r 0) false = true := fun hm r hr => by
          rcases Nat.eq_or_lt_of_le hm with e | e
          · subst e
            have key : ∀ d r, r + d = m → r < m → listed.getD (π.getD r 0) false = true := by
              intro d
              induction d using Nat.strongRecOn with
              | ind d ihd =>
                intro r hd hr
                obtain ⟨r', s1, s2, s3⟩ := F.sink hql r hr
                rcases Nat.eq_or_lt_of_le s2 with e | e
                · subst e
                  rw [hqi] at s3
                  exact waits_listedJ hol hedges s3
                · have hl := ihd (m - r') (by omega) r' (by omega) e
                  obtain ⟨oj, hoj⟩ : ∃ oj, l[π.getD r' 0]? = some oj := ⟨_, List.getElem?_eq_getElem (F.inr r' (by omega))⟩
                  exact waits_listedJ hoj (i2 _ oj hoj hl) s3
            exact key (m - r) r (by omega) hr
          · exact p5 e r hr
        obtain ⟨K', ha, hnext⟩ : ∃ K' : Slots → AHeap → Prop, aOps P w₀ l [o] S g K' ∧ ∀ s' h', K' s' h' → (q < m → Sub g h') ∧ jOps P w₀ l ((permL l π).drop (q + 1)) (m - (q + 1)) (fl.drop (q + 1)) s' h' K := by
          rw [permL_drop F.inr hql hoq] at p7
          have hfl : (fl.drop q).getD 0 false = fl.getD q false := by simp [List.getD, List.getElem?_drop]
          have hfd : (fl.drop q).drop 1 = fl.drop (q + 1) := by rw [List.drop_drop]
          have hfb : fl.getD q false = false := by
            have := p2 hql
            unfold isJ at this
            rw [Bool.or_eq_false_iff] at this
            exact this.1
          by_cases c : q < m
          · rw [show m - q = (m - (q + 1)) + 1 by omega] at p7
            have p7 := jOps_step (by rw [hfl, hfb]) p7
            rw [hfd] at p7
            exact ⟨_, p7, fun s' h' hx => ⟨fun _ => hx.1, hx.2⟩⟩
          · rw [show m - q = 0 by omega, jOps_zero] at p7
            refine ⟨_, aOps_one p7, fun s' h' hx => ⟨fun hc => absurd hc c, ?_⟩⟩
            rw [show m - (q + 1) = 0 by omega]
            cases hdr : (permL l π).drop (q + 1) with
            | nil => rw [hdr] at hx; rw [jOps_nil]; exact hx
            | cons o' r' => rw [hdr] at hx; exact hx
        refine one_ok hall ha p6 looks fun ψ' x h' v w' e1 e2 e3 hk => ?_
        obtain ⟨k1, k2⟩ := hnext _ _ hk
        obtain ⟨p', S', a1, a2, a3, a4, a5, a6, a7⟩ := advanceJ hall F (π.length - (q + 1)) (q + 1) (putD S o.dst x) rfl (by omega) k2
        have keep : ∀ r or t, r < q → l[π.getD r 0]? = some or → (or.dst = some t ∨ t ∈ looksL l or) → S'.get t = S.get t := fun r or t hr hor ht => by
          have nd : ∀ u ou, q ≤ u → u < π.length → l[π.getD u 0]? = some ou → ou.dst ≠ some t := fun u ou h1 h2 h3 h4 => by
            rcases ht with ht | ht
            · have := ((orderB_spec hB hor).2 _ ou t h3 h4).1 ht
              have := F.inj r u (by omega) h2 this
              omega
            · have := (F.data r u or ou t (by omega) h2 hor h3 h4 ht).1
              omega
          rw [a7 t fun u ou h1 h2 h3 => nd u ou (by omega) (by omega) h3, put_get, if_neg (nd q o (Nat.le_refl _) hql hoq)]
        refine ih _ _ _ ψ' (PMap.le_trans hle e1) ⟨by simp [i1], closed', by rw [put_size]; exact i3, by rw [put_defers]; exact i4, p', S', h', a2, a3, fun r r1 r2 => ?_, fun r r1 r2 => ?_, fun hm r r1 => ?_, e2, a5, fun r oj r1 r2 r3 => ?_, fun t => ?_⟩ hcount
        · rw [other r r2 (by omega)]; exact p3 r (by omega) r2
        · by_cases e : r = q
          · rw [e, hqi]; exact set_self hisz
          · rw [other r (by omega) e]
            rcases Nat.lt_or_ge r q with c | c
            · exact p4 r c r2
            · rw [a4 r (by omega) r1] at r2; cases r2
        · have hmq : m ≤ q := by
            refine Nat.le_of_not_lt fun hc => ?_
            have hmp : m < π.length := by omega
            have := a4 m (by omega) hm
            rw [F.tail m (Nat.le_refl _) hmp] at this
            cases this
          by_cases e : r = q
          · rw [e, hqi]; exact set_self hisz
          · rw [other r (by omega) e]
            rcases Nat.lt_or_ge r q with c | c
            · exact all_m hmq r c
            · have := a4 r (by omega) r1
              rw [F.tail r (by omega) (by omega)] at this
              cases this
        · by_cases e : r = q
          · rw [e, hqi, set_self hisz] at r3; cases r3
          · rw [other r (by omega) e] at r3
            rcases Nat.lt_or_ge r q with c | c
            · obtain ⟨V, v1, v2⟩ := p8 r oj c r2 r3
              have hqm : q < m := by
                refine Nat.lt_of_not_le fun hm => ?_
                rw [all_m hm r c] at r3
                cases r3
              exact ⟨V, fun t ht => (keep r oj t c r2 (.inl ht)).trans (v1 t ht), (v2.sub (k1 hqm)).slots fun t ht => keep r oj t c r2 (.inr ht)⟩
            · exact a6 r oj (by omega) r1 r2
        · by_cases hod : o.dst = some t
          · right
            rw [a7 t fun u ou h1 h2 h3 h4 => by
              have := ((orderB_spec hB hoq).2 _ ou t h3 h4).1 hod
              have := F.inj q u hql (by omega) this
              omega, put_get, if_pos hod, put_get_eq a hod (by rw [i3]; exact hdn t hod)]
            exact e3
          · by_cases hw : ∃ r or, q + 1 ≤ r ∧ r < p' ∧ l[π.getD r 0]? = some or ∧ or.dst = some t
            · obtain ⟨r, or, w1, w2, w3, w4⟩ := hw
              exact .inl ⟨r, or, w2, w3, w4, by rw [other r (by omega) (by omega)]; exact p3 r (by omega) (by omega)⟩
            · have hS : S'.get t = S.get t := by
                rw [a7 t fun u ou h1 h2 h3 h4 => hw ⟨u, ou, h1, h2, h3, h4⟩, put_get, if_neg hod]
              rcases p9 t with ⟨r, oj, c1, c2, c3, c4⟩ | c
              · exact .inl ⟨r, oj, by omega, c2, c3, by rw [other r (by omega) (by omega)]; exact c4⟩
              · right
                rw [hS, put_get_ne a hod]
                exact VR_mono e1 _ _ c
    simp only [wpOp, ho]
    split
    · rename_i hw
      rw [if_pos hw] at goal
      exact .inl goal
    · rename_i hw
      rw [if_neg hw] at goal
      exact goal

/-- A statement of open order: reading operations in any order, the others chained; of these the first leave what is told of the heap. -/
theorem awp_draw_J {Q : Exit → Slots → AHeap → Prop} {s : Slots} {h : AHeap} {id : Nat} {l : List Oper} (π : List Nat) (fl : List Bool) (ws : List (Option Nat)) (m : Nat) (hm : P.follows .mixedOrders = true) (hB : floatJ P l π fl ws m = true) (hd : dstsOk n l = true)
    (hc : jOps P w₀ l (permL l π) m fl s h fun s' h' => Q .normal s' h') : Awp P w₀ n (.region id l.toArray true) Q s h := by
  refine Awp.of0 ?_
  intro φ a w hr hs
  have F := floatJ_spec hB
  refine wp_region_any hm ?_
  have hf : ∀ j, (Array.replicate l.toArray.size false).getD j false = false := fun j => by simp [Array.getD]
  obtain ⟨p', S', a1, a2, a3, a4, a5, a6, a7⟩ := advanceJ hd F π.length 0 s rfl (Nat.zero_le _) (by rw [Nat.sub_zero, List.drop_zero]; exact hc)
  refine any_okJ (φ := φ) hd F (K := fun s' h' => Q .normal s' h') (fun ψ S g a' w' hle h1 h2 h3 => ⟨ψ, S, g, hle, h1, h2, h3⟩) _ _ _ _ φ φ.le_refl
    ⟨by simp, fun j oj _ hl => (by rw [hf] at hl; cases hl), hs.size, hs.defers, p', S', h, a2, a3, fun r _ _ => hf _, fun r r1 r2 => ?_, fun hm' r r1 => ?_, hr.drew, a5, fun r oj r1 r2 _ => a6 r oj (Nat.zero_le _) r1 r2, fun t => ?_⟩ ?_
  · rw [a4 r (Nat.zero_le _) r1] at r2; cases r2
  · have := a4 m (Nat.zero_le _) hm'
    rw [F.tail m (Nat.le_refl _) (by omega)] at this
    cases this
  · by_cases hw : ∃ r or, r < p' ∧ l[π.getD r 0]? = some or ∧ or.dst = some t
    · obtain ⟨r, or, w2, w3, w4⟩ := hw
      exact .inl ⟨r, or, w2, w3, w4, hf _⟩
    · right
      rw [a7 t fun u ou _ h2 h3 h4 => hw ⟨u, ou, h2, h3, h4⟩]
      exact hs.val t
  · have := List.length_filter_le (!·) (Array.replicate l.toArray.size false).toList
    simpa using this

theorem awp_dseq_J {Q : Exit → Slots → AHeap → Prop} {s : Slots} {h : AHeap} {id : Nat} {l : List Oper} {y : Code} (π : List Nat) (fl : List Bool) (ws : List (Option Nat)) (m : Nat) (L : List Nat) (hm : P.follows .mixedOrders = true) (hB : floatJ P l π fl ws m = true) (hd : dstsOk n l = true)
    (hc : ∀ K : Slots → AHeap → Prop, (∀ s h, Awp P w₀ n y Q s h → K s h) → jOps P w₀ l (permL l π) m fl s h fun s' h' => K (s'.keep L) h') : Awp P w₀ n (.seq (.region id l.toArray true) y) Q s h :=
  awp_seq (awp_draw_J π fl ws m hm hB hd (jOps_mono (fun _ _ hk => Awp.keep L hk) (hc (fun s h => Awp P w₀ n y Q s h) (fun _ _ hk => hk))))
end
end Go.AM

/-
  Contracts: the paths below a group.
  Conditions: none.
-/
namespace Go.AM
/-- Elements behind a slice that has no room. -/
theorem aOps_appendClip {P : Program} {w₀ : World} {ops rest : List Oper} {s : Slots} {h : AHeap} {K : Slots → AHeap → Prop} {dst : Option Tmp} {ty : TypeId} {pos : String} {af : Array Edge} {ts : Array TypeId} {t u e : TypeId} {d : TypeDesc} {x y : Operand} {v v' : AVal} {es by' : Nat} {z : Value} {xs ys : List (List AVal)}
    (h0 : ts[0]? = some t) (h1 : ts[1]? = some u) (ht : P.underlying t = some (.slice e)) (hu : P.underlying u = some d) (hd : ∀ k, d ≠ .int k)
    (hs : szOf P e = some es) (hb : byOf P e = some by') (hz : zeOf P e = some z) (hzs : z.cells.size = es) (hes : es ≠ 0)
    (hx : ev s x = capL v) (hv : IsL w₀ h es v xs) (hy : ev s y = v') (hv' : IsL w₀ h es v' ys) (hne : ys.length ≠ 0)
    (hl : (xs.length + ys.length) * by' ≤ 140737488355328) (hl' : xs.length + ys.length < 4611686018427387904)
    (hk : ∀ k, h k = none → IsL w₀ (h.set k ⟨(xs ++ ys).flatten, 0⟩) es (.slice (.own k) 0 (xs.length + ys.length) (.grow es)) (xs ++ ys) → aOps P w₀ ops rest (putD s dst (.slice (.own k) 0 (xs.length + ys.length) (.grow es))) (h.set k ⟨(xs ++ ys).flatten, 0⟩) K) :
    aOps P w₀ ops (⟨dst, .call ⟨.builtin .append, [x, y].toArray, ts⟩, ty, pos, af, none⟩ :: rest) s h K := by
  obtain ⟨s1, s2, s3⟩ := hv'.src
  have hw : ∀ x ∈ xs ++ ys, x.length = es := fun x hx => by
    rcases List.mem_append.1 hx with h | h
    · exact hv.wide x h
    · exact hv'.wide x h
  have hal : allLive (xs ++ ys).flatten = true := by rw [List.flatten_append, allLive_append, hv.allLive, hv'.allLive]; rfl
  have key : ∀ k, h k = none → aOps P w₀ ops rest (putD s dst (.slice (.own k) 0 (xs.length + ys.length) (.grow es))) (h.set k ⟨xs.flatten ++ ys.flatten, 0⟩) K := fun k hk0 => by
    have := hk k hk0 (by rw [← List.length_append]; exact IsL.own (AHeap.set_same _ _ _) hw rfl hal (.grow es) rfl)
    rwa [List.flatten_append] at this
  rw [aOps_e]
  simp only [eop, evs, List.map_cons, List.map_nil, hx, hy, eAppend, h0, h1, ht, hu, hs, hb, hz, s1]
  refine ⟨hd, ⟨hes, hzs⟩, s2, ?_⟩
  cases hv with
  | nil =>
    simp only [capL]
    simp only [List.length_nil, Nat.zero_add, List.flatten_nil, List.nil_append] at hl hl' key
    exact ⟨fun e0 => absurd e0 hne, fun _ => ⟨⟨hl, hl'⟩, fun k hk0 _ => by rw [s3]; exact key k hk0⟩⟩
  | mk lc o n c xs hn hw hc hl2 hcap =>
    subst hn
    simp only [capL]
    refine ⟨fun h1 => by omega, fun _ => ⟨⟨by rw [hc]; exact hl2, hl, hl'⟩, fun k hk0 _ => ?_⟩⟩
    rw [hc, s3]
    exact key k hk0
/-- A map's block may change: no slice stands in it. -/
theorem IsL.setMap {w₀ : World} {h : AHeap} {es : Nat} {v : AVal} {xs : List (List AVal)} (hv : IsL w₀ h es v xs) {k c : Nat} {ms : List AVal} (hk : h k = some (mapBlk c ms)) (hdead : ∀ o, ((mapBlk c ms).cells.getD o .dead).live = false) (X : Blk) : IsL w₀ (h.set k X) es v xs := by
  cases hv with
  | nil => exact .nil
  | mk lc o n cp xs hn hw hc hl hcap =>
    refine .mk lc o n cp xs hn hw ?_ hl hcap
    have hal : AM.allLive (cellsAt w₀ h lc o (n * es)) = true := by rw [hc]; exact hl
    rw [← hc]
    clear hc hl hcap hw hn
    have : ∀ (m o : Nat), AM.allLive (cellsAt w₀ h lc o m) = true → cellsAt w₀ (h.set k X) lc o m = cellsAt w₀ h lc o m := by
      intro m
      induction m with
      | zero => intro o _; rfl
      | succ m ih =>
        intro o ho
        simp only [cellsAt, AM.allLive, Bool.and_eq_true] at ho ⊢
        rw [ih _ ho.2]
        congr 1
        cases lc with
        | base b => rfl
        | own j =>
          by_cases e : j = k
          · subst e
            have h1 := ho.1
            rw [rd_own w₀ hk, hdead] at h1
            cases h1
          · exact rd_ne w₀ h X e o
    exact this _ _ hal
end Go.AM
namespace Go.Proofs.YtgnebodlkfblcaaDoor
open Go.AM
open Go.Proofs
open Go.Col
open Go.Prs
open Go.RowKit (Below)
set_option maxRecDepth 100000

/-! ### Maps from numbers to rows of names -/
def strC (s : Str) : List AVal := [.str s]
abbrev EntP := (Nat × AVal) × (Int × List Str)
def entK (q : EntP) : AVal := .mapE q.1.1 (.int .i64 q.2.1) q.1.2
def pathsOf (qs : List EntP) : List (Int × List Str) := qs.map (·.2)
theorem entK_dead (c : Nat) (qs : List EntP) (o : Nat) : ((mapBlk c (qs.map entK)).cells.getD o .dead).live = false := by
  unfold mapBlk
  cases o with
  | zero => rfl
  | succ o =>
    rw [List.getD_cons_succ, List.getD_eq_getElem?_getD, List.getElem?_map]
    cases qs[o]? <;> rfl
theorem find_paths (x : Int) : ∀ (qs : List EntP) (i : Nat), (lookA x (pathsOf qs) = none ∧ mFind (.int .i64 x) (qs.map entK) i = some none) ∨ (∃ (j : Nat) (q : EntP), qs[j]? = some q ∧ q.2.1 = x ∧ lookA x (pathsOf qs) = some q.2.2 ∧ mFind (.int .i64 x) (qs.map entK) i = some (some (i + j, q.1.2)))
  | [], i => .inl ⟨rfl, rfl⟩
  | q :: qs, i => by
    have e1 : pathsOf (q :: qs) = (q.2.1, q.2.2) :: pathsOf qs := rfl
    rw [e1, lookA, List.map_cons]
    by_cases hx : q.2.1 = x
    · right
      refine ⟨0, q, rfl, hx, by rw [if_pos hx], ?_⟩
      simp only [entK, mFind, kEq]
      simp [hx]
    · have e2 : mFind (.int .i64 x) (entK q :: qs.map entK) i = mFind (.int .i64 x) (qs.map entK) (i + 1) := by
        simp only [entK, mFind, kEq, if_true]
        rw [decide_eq_false (fun e => hx e.symm)]
      rw [if_neg hx, e2]
      rcases find_paths x qs (i + 1) with h | ⟨j, q', h1, h2, h3, h4⟩
      · exact .inl h
      · exact .inr ⟨j + 1, q', h1, h2, h3, by rw [h4, Nat.add_assoc, Nat.add_comm 1 j]⟩
/-- What a map from numbers to rows of names holds. -/
structure IsPaths (w₀ : World) (h : AHeap) (k c : Nat) (qs : List EntP) : Prop where
  at_ : h k = some (mapBlk c (qs.map entK))
  rows : ∀ q ∈ qs, IsL w₀ h 1 q.1.2 (q.2.2.map strC)
  few : ∀ q ∈ qs, q.1.1 < c
  asc : (qs.map (·.1.1)).Pairwise (· < ·)
theorem IsPaths.mono {w₀ : World} {h h' : AHeap} {k c : Nat} {qs : List EntP} (hp : IsPaths w₀ h k c qs) (hs : Sub h h') : IsPaths w₀ h' k c qs :=
  ⟨hs _ _ hp.at_, fun q hq => (hp.rows q hq).mono hs, hp.few, hp.asc⟩
/-- A new entry. -/
theorem IsPaths.put {w₀ : World} {h : AHeap} {k c : Nat} {qs : List EntP} (hp : IsPaths w₀ h k c qs) (x : Int) {v : AVal} {p : List Str} (hv : IsL w₀ h 1 v (p.map strC)) : IsPaths w₀ (h.set k (mapBlk (c + 1) ((qs ++ [((c, v), (x, p))]).map entK))) k (c + 1) (qs ++ [((c, v), (x, p))]) := by
  refine ⟨AHeap.set_same _ _ _, fun q hq => ?_, fun q hq => ?_, ?_⟩
  · rcases List.mem_append.1 hq with hq | hq
    · exact (hp.rows q hq).setMap hp.at_ (entK_dead c qs) _
    · rw [List.mem_singleton.1 hq]
      exact hv.setMap hp.at_ (entK_dead c qs) _
  · rcases List.mem_append.1 hq with hq | hq
    · have := hp.few q hq; omega
    · rw [List.mem_singleton.1 hq]; simp only; omega
  · rw [List.map_append, List.pairwise_append]
    refine ⟨hp.asc, by simp, fun a ha b hb => ?_⟩
    obtain ⟨q, hq, rfl⟩ := List.mem_map.1 ha
    simp only [List.map_cons, List.map_nil, List.mem_singleton] at hb
    rw [hb]
    exact hp.few q hq
theorem look_paths {w₀ : World} {h : AHeap} {k c : Nat} {qs : List EntP} (hp : IsPaths w₀ h k c qs) (x : Int) : ∃ v0, (∀ H, Sub h H → pLookup Tryd.prog H 64 (.map k) (.int .i64 x) true = ⟨True, .tuple [v0, .bool (lookA x (pathsOf qs)).isSome]⟩) ∧ IsL w₀ h 1 v0 (((lookA x (pathsOf qs)).getD []).map strC) := by
  rcases find_paths x qs 0 with ⟨h1, h2⟩ | ⟨j, q, h1, h2, h3, h4⟩
  · refine ⟨.nilSlice, fun H hs => ?_, by rw [h1]; exact .nil⟩
    rw [pLookup_out Tryd.underlying64 ze48 (hs _ _ hp.at_) rfl h2, h1]
    rfl
  · refine ⟨q.1.2, fun H hs => ?_, by rw [h3]; exact hp.rows q (List.mem_of_getElem? h1)⟩
    rw [pLookup_in Tryd.underlying64 ze48 (hs _ _ hp.at_) rfl h4, h3]
    rfl

theorem c_clipS (w₀ : World) (h : AHeap) (v : AVal) (xs : List (List AVal)) (hv : IsL w₀ h 1 v xs) : ACall Tryd.prog w₀ 23 [v] h (fun r h' => r = capL v ∧ h' = h) := by
  have hlen := hv.len Tryd.underlying48
  have h3 := hv.slice3 Tryd.underlying48 sz9 .i64 .i64 none rfl
  refine acall_intro (n := 9) (rs := [.tmp 2]) Tryd.func23 rfl rfl rfl rfl (Nat.le_of_ble_eq_true rfl) ?_
  simp only [initSlots]
  -- region 0  slices.go:435
  refine awp_rseq [0] (by rfl) fun K hK => ?_
  simp (decide := true) only [aOps_nil, ev, absV, absS, putD, Slots.put, Slots.keep, if_true, if_false, true_and, ↓ap_assign, pop_assign]
  apply hK; clear hK K
  -- region 1  slices.go:436
  refine awp_rseq [2] (by rfl) fun K hK => ?_
  simp (decide := true) only [aOps_nil, ev, putD, Slots.put, Slots.get, Slots.keep, if_true, if_false, true_and, ↓ap_move, pop_move, ↓ap_len, pop_len, ↓ap_slice, pop_slice, evO, ↓ap_assign, pop_assign, hlen, h3]
  apply hK; clear hK K
  refine awp_ret ?_
  refine retA_ret _ (Sub.refl _) (resPre_tmp (resPre_nil)) ?_
  simp (decide := true) only [Slots.get, if_true, and_true, resOf_one]
  all_goals first | rfl | exact ⟨rfl, rfl⟩ | (simp (decide := true) only [if_true, if_false, *]; done) | (trace_state; fail)

set_option maxHeartbeats 1000000 in
theorem c_below (w₀ : World) (h : AHeap) (km kb k c : Nat) (only : Bool) (qs : List EntP) (x : ItemP) (q : ItemO) (eb_m : h km = some ⟨[.map k], 0⟩) (eb_b : h kb = some ⟨[.bool only], 0⟩) (hp : IsPaths w₀ h k c qs) (hlen : ((lookA x.parent (pathsOf qs)).getD []).length ≤ 1000000) :
    ACall Tryd.prog w₀ 30 [.agg (itemC x q), .ptr (.own km) 0, .ptr (.own kb) 0] h
      (fun r h' => ∃ v, r = .tuple [v, .bool ((lookA x.parent (pathsOf qs)).isSome && (!only || eligE x))] ∧ IsL w₀ h' 1 v (((lookA x.parent (pathsOf qs)).getD [] ++ [x.name]).map strC) ∧ Sub h h') := by
  obtain ⟨v0, hlk, hv0⟩ := look_paths hp x.parent
  have hs_h : Sub h h := Sub.refl _
  have hlv0 := hv0.live
  have hvl : q.val.live = true := scal_live q.hval
  obtain ⟨P, hP⟩ : ∃ P, P = (lookA x.parent (pathsOf qs)).getD [] := ⟨_, rfl⟩
  obtain ⟨ok, hok⟩ : ∃ ok, ok = (lookA x.parent (pathsOf qs)).isSome := ⟨_, rfl⟩
  rw [← hP] at hv0 hlen ⊢
  rw [← hok] at hlk ⊢
  unfold itemC
  refine acall_intro (n := 30) (rs := [.tmp 4, .tmp 5]) Tryd.func30 rfl rfl rfl rfl (Nat.le_of_ble_eq_true rfl) ?_
  simp only [initSlots]
  -- region 0  pairs.go:49
  refine awp_rseq [1, 2, 3] (by rfl) fun K hK => ?_
  refine aOps_box (by rfl) (by rfl) (by rfl) fun k0q0 hk0q0 => ?_
  have hn_0q0 : h k0q0 = none := by first | assumption | (simp only [AHeap.set_none] at hk0q0; simp only [hk0q0])
  have hf_0q0 : h k0q0 = none := Sub.none hs_h hn_0q0
  have ne_0q0_m : k0q0 ≠ km := AHeap.ne_some hn_0q0 eb_m
  have ne_0q0_b : k0q0 ≠ kb := AHeap.ne_some hn_0q0 eb_b
  skip
  simp (decide := true) only [aOps_nil, ev, absV, absS, putD, Slots.put, Slots.get, Slots.keep, if_true, if_false, true_and, ↓ap_assign, pop_assign, AVal.cells, Nat.zero_add, Nat.reduceAdd]
  apply hK; clear hK K
  have hlk1 := hlk (h.set k0q0 ⟨itemC x q, 0⟩) (by repeat (first | exact Sub.refl _ | assumption | refine Sub.set_both ?_ _ _ | refine Sub.trans_set ?_ (by repeat (first | assumption | refine (AHeap.set_ne _ _ (by first | assumption | exact Ne.symm (by assumption))).trans ?_))))
  unfold itemC at hlk1
  -- region 1  pairs.go:50
  refine awp_rseq [2, 3, 6, 7] (by rfl) fun K hK => ?_
  simp (decide := true) only [aOps_nil, ev, putD, Slots.put, Slots.get, Slots.keep, if_true, if_false, true_and, ↓ap_loadL, apL_mk, pLoad_one ag64, ↓ap_fieldAddr, pop_fieldAddr, fa44_2, pLoad_one ag3, ↓ap_lookup, pop_lookup, ↓ap_move, pop_move, ↓ap_extract, pop_extract, pExt_tuple, List.length_cons, List.length_nil, List.getD_cons_zero, List.getD_cons_succ, ↓ap_assign, pop_assign, rd_ne', ne_eq, not_false_eq_true, ne_0q0_m.symm, rd_own w₀ eb_m, lv_map, rd_any, List.getD_cons_zero, List.getD_cons_succ, Nat.zero_add, Nat.reduceAdd, lv_int, hlk1]
  apply hK; clear hK K
  clear hlk1
  -- region 2  pairs.go:51
  refine awp_dseq_J [0, 1, 2, 3, 6, 4, 5, 7, 8, 9, 10, 11, 12, 13, 14, 15, 16] [false, true, false, false, false, false, false, false, false, false, false, false, false, false, false, false, false] [none, none, none, none, none, none, some 5, some 6, some 7, some 8, some 9, some 10, some 11, some 12, some 13, some 12, some 14] 17 [4, 5] mixed (by kernel_rfl) (by rfl) fun K hK => ?_
  simp only [permL, List.filterMap_cons, List.filterMap_nil, List.getElem?_cons_zero, List.getElem?_cons_succ]
  simp (decide := true) only [aOps_nil, ev, putD, Slots.put, Slots.get, if_true, if_false, true_and, jOps_cons, Sub_self, ↓ap_move, pop_move]
  refine jOps_free (V := capL v0) (fun g hg => ?_) ?_
  · exact aOps_callV (V := capL v0) (by rfl) (by rfl) (c_clipS w₀ g v0 _ (hv0.mono (Sub.trans (by repeat (first | exact Sub.refl _ | assumption | refine Sub.set_both ?_ _ _ | refine Sub.trans_set ?_ (by repeat (first | assumption | refine (AHeap.set_ne _ _ (by first | assumption | exact Ne.symm (by assumption))).trans ?_)))) hg))) ⟨rfl, rfl⟩
  simp (decide := true) only [aOps_nil, ev, putD, Slots.put, Slots.get, if_true, if_false, true_and, jOps_cons, jOps_nil, Sub_self, ↓ap_fieldAddr, pop_fieldAddr, fa44_0, ↓ap_loadL, apL_mk, pLoad_one ag9, ↓ap_move, pop_move, rd_any, List.getD_cons_zero, Nat.zero_add, lv_str]
  refine aOps_buildSlice (cs := [.str x.name]) (by kernel_rfl) fun k2q4 hk2q4 => ?_
  have ne_2q4_0q0 : k2q4 ≠ k0q0 := by simp only [AHeap.set_none] at hk2q4; simp only [hk2q4, ne_eq, not_false_eq_true]
  have hn_2q4 : h k2q4 = none := by first | assumption | (simp only [AHeap.set_none] at hk2q4; simp only [hk2q4])
  have hf_2q4 : h k2q4 = none := Sub.none hs_h hn_2q4
  have ne_2q4_m : k2q4 ≠ km := AHeap.ne_some hn_2q4 eb_m
  have ne_2q4_b : k2q4 ≠ kb := AHeap.ne_some hn_2q4 eb_b
  rw [aOps_nil]
  refine And.intro (by first | exact Sub.refl _ | assumption | exact Sub.set (by assumption)) ?_
  simp (decide := true) only [putD, Slots.put, if_true, if_false]
  refine aOps_appendClip (es := 1) (xs := P.map strC) (ys := [strC x.name]) (by rfl) (by rfl) Tryd.underlying48 Tryd.underlying48 (fun k e => by cases e) sz9 by9 ze9 (by rfl) (by decide) (by rfl) (hv0.mono (by repeat (first | exact Sub.refl _ | assumption | refine Sub.set_both ?_ _ _ | refine Sub.trans_set ?_ (by repeat (first | assumption | refine (AHeap.set_ne _ _ (by first | assumption | exact Ne.symm (by assumption))).trans ?_))))) (by rfl) (IsL.own (by repeat (first | exact AHeap.set_same _ _ _ | assumption | refine (AHeap.set_ne _ _ (by first | assumption | exact Ne.symm (by assumption))).trans ?_)) (by simp [strC]) (by rfl) (by rfl) (.exact 1) (Nat.le_refl _)) (by simp) (by simp; omega) (by simp; omega) fun k2q5 hk2q5 hr2 => ?_
  have ne_2q5_0q0 : k2q5 ≠ k0q0 := by simp only [AHeap.set_none] at hk2q5; simp only [hk2q5, ne_eq, not_false_eq_true]
  have ne_2q5_2q4 : k2q5 ≠ k2q4 := by simp only [AHeap.set_none] at hk2q5; simp only [hk2q5, ne_eq, not_false_eq_true]
  have hn_2q5 : h k2q5 = none := by first | assumption | (simp only [AHeap.set_none] at hk2q5; simp only [hk2q5])
  have hf_2q5 : h k2q5 = none := Sub.none hs_h hn_2q5
  have ne_2q5_m : k2q5 ≠ km := AHeap.ne_some hn_2q5 eb_m
  have ne_2q5_b : k2q5 ≠ kb := AHeap.ne_some hn_2q5 eb_b
  rw [aOps_nil]
  refine And.intro (by first | exact Sub.refl _ | assumption | exact Sub.set (by assumption)) ?_
  simp (decide := true) only [aOps_nil, ev, putD, Slots.put, Slots.get, if_true, if_false, true_and, Sub_self, pop_move, ↓ag_loadL, agQL_some, agL_mk, agP, agQ_some, nthDst, gKnown_bool, gKnown_cond, guardB_cond, guardB_bool_true, guardB_bool_false, cv_cv, implies_true, Bool.not_not, Bool.and_true, pLoad_one ag4, ↓ag_unOp, pop_unOp, pU_not, cv_un, cp_un, ↓ag_move, pLoad_agg ag44 sz44, rd_ne', ne_eq, not_false_eq_true, ne_0q0_b.symm, ne_2q4_0q0.symm, ne_2q4_b.symm, ne_2q5_0q0.symm, ne_2q5_b.symm, rd_own w₀ eb_b, rd_any, cellsAt, List.getD_cons_zero, List.getD_cons_succ, Nat.zero_add, Nat.reduceAdd, lv_bool, lv_int, lv_str, allLive, Bool.and_true, hvl]
  (refine aOps_gcall (V := .bool (eligE x)) (f := _) (cap := _) (xs := _) (by first | rfl | (simp (decide := true) only [gv, nthDst, Slots.get, if_true, if_false, gKnown_cond])) (fun hg => ⟨rfl, ?_⟩) (fun hg => c_eligible w₀ _ x q) ?_; · (simp (decide := true) only [gv, nthDst, Slots.get, if_true, if_false, guardB_bool_false, guardB_cond, Bool.not_not] at hg; simp (decide := true) only [evs, ev, Slots.get, if_true, if_false, hg, condV_true, List.append_nil, List.map_cons, List.map_nil] <;> try rfl))
  rw [aOps_nil]
  refine And.intro (by first | exact Sub.refl _ | assumption | exact Sub.set (by assumption)) ?_
  simp (decide := true) only [aOps_nil, ev, absV, absS, putD, Slots.put, Slots.get, Slots.keep, if_true, if_false, true_and, Sub_self, gv, nthDst, guardB_bool_true, guardB_bool_false, guardB_cond, ↓ag_pick, pop_pick, agP, agQ_some, gKnown_bool, implies_true, Bool.not_not, pPick_bool, pickV_cond_l, cp_nest3, pickV_and, pickV_or, cv_pick, cp_pick, ↓ap_pick, ↓ap_assign, pop_assign]
  apply hK; clear hK K
  refine awp_ret ?_
  refine retA_retE (resPre_tmp (resPre_tmp (resPre_nil))) ?_
  simp (decide := true) only [Slots.get, if_true, if_false, resOf_two]
  refine ⟨_, Sub.refl _, _, rfl, ?_, (by repeat (first | exact Sub.refl _ | assumption | refine Sub.set_both ?_ _ _ | refine Sub.trans_set ?_ (by repeat (first | assumption | refine (AHeap.set_ne _ _ (by first | assumption | exact Ne.symm (by assumption))).trans ?_))))⟩
  rw [List.map_append]
  exact hr2
end Go.Proofs.YtgnebodlkfblcaaDoor

/-
  Contracts: the paths below a group.
  Conditions: none.
-/
namespace Go.Proofs.YtgnebodlkfblcaaDoor
open Go.AM
open Go.Proofs
open Go.Col
open Go.Prs
open Go.RowKit (Below)
set_option maxRecDepth 100000

structure PaG where
  i : Nat
  H : AHeap
  c : Nat
  qs : List EntP
structure PaOk (w₀ : World) (h : AHeap) (l : List (ItemP × ItemO)) (g : Int) (only : Bool) (kg kb km ko : Nat) (G : List AVal) (s : PaG) : Prop where
  i : s.i ≤ l.length
  sub : Sub h s.H
  grp : s.H kg = some ⟨G, 0⟩
  bol : s.H kb = some ⟨[.bool only], 0⟩
  out : s.H ko = some ⟨[.map km], 0⟩
  map : IsPaths w₀ s.H km s.c s.qs
  go : pGo g only s.i ((items l).drop s.i) (pathsOf s.qs) = allE (items l) g only
  keys : ∀ q ∈ s.qs, (q.2.1 = g ∨ q.2.1 < s.i) ∧ q.2.2.length ≤ s.i
  many : s.c ≤ s.i + 1
theorem lookA_mem {α : Type} {k : Int} {p : α} : ∀ {a : List (Int × α)}, lookA k a = some p → (k, p) ∈ a
  | [], h => by cases h
  | (j, q) :: r, h => by
    rw [lookA] at h
    split at h
    · rename_i e
      rw [Option.some.injEq] at h
      rw [e, h]
      exact List.mem_cons_self
    · exact List.mem_cons_of_mem _ (lookA_mem h)
theorem pGo_step {g : Int} {only : Bool} {l : List ItemP} {i : Nat} (hi : i < l.length) (acc : List (Int × List Str)) : pGo g only i (l.drop i) acc = pGo g only (i + 1) (l.drop (i + 1)) (pStep g only acc i (l.getD i default)) := by
  rw [List.drop_eq_getElem_cons hi, pGo]
  simp [List.getD, hi]
theorem pStep_put {g : Int} {only : Bool} {acc : List (Int × List Str)} {i : Nat} {x : ItemP} (h1 : ((lookA x.parent acc).isSome && (!only || eligE x)) = true) (h2 : (i : Int) ≠ g) : pStep g only acc i x = acc ++ [((i : Int), (lookA x.parent acc).getD [] ++ [x.name])] := by
  unfold pStep
  cases hl : lookA x.parent acc with
  | none => rw [hl] at h1; simp at h1
  | some p =>
    rw [hl] at h1
    simp only [Option.isSome_some, Bool.true_and] at h1
    simp only [h1, Option.getD_some]
    rw [if_pos (by simpa using h2)]
theorem pStep_skip {g : Int} {only : Bool} {acc : List (Int × List Str)} {i : Nat} {x : ItemP} (h1 : ((lookA x.parent acc).isSome && (!only || eligE x)) = true → (i : Int) = g) : pStep g only acc i x = acc := by
  unfold pStep
  cases hl : lookA x.parent acc with
  | none => rfl
  | some p =>
    rw [hl] at h1
    simp only [Option.isSome_some, Bool.true_and] at h1
    simp only
    rw [if_neg]
    intro hc
    simp only [Bool.and_eq_true, decide_eq_true_eq] at hc
    exact hc.2 (h1 (by simpa using hc.1))
/-- What paths answers. -/
def PathsR (w₀ : World) (h : AHeap) (r : AVal) (ps : List (Int × List Str)) (h' : AHeap) : Prop := ∃ k c qs, r = .map k ∧ h k = none ∧ IsPaths w₀ h' k c qs ∧ pathsOf qs = ps ∧ Sub h h'

set_option maxHeartbeats 1000000 in
theorem c_paths (w₀ : World) (h : AHeap) (v : AVal) (sz g : Int) (only : Bool) (l : List (ItemP × ItemO)) (hv : IsL w₀ h 22 v (l.map itC)) (hl : l.length ≤ 100000) :
    ACall Tryd.prog w₀ 22 [.agg [v, .int .i64 sz, .int .i64 g], .bool only] h (fun r h' => PathsR w₀ h r (pathsE (items l) g only) h') := by
  have hlv := hv.live
  have nv := it_len hv
  have hin := items_len l
  refine acall_intro (n := 46) (rs := [.tmp 4]) Tryd.func22 rfl rfl rfl rfl (Nat.le_of_ble_eq_true rfl) ?_
  simp only [initSlots]
  -- region 0  pairs.go:47
  refine awp_rseq [2, 3] (by rfl) fun K hK => ?_
  refine aOps_box (by rfl) (by rfl) (by rfl) fun k0q0 hk0q0 => ?_
  try have hf_0q0 : h k0q0 = none := by first | assumption | (simp only [AHeap.set_none] at hk0q0; simp only [hk0q0])
  skip
  refine aOps_box (by rfl) (by rfl) (by rfl) fun k0q1 hk0q1 => ?_
  have ne_0q1_0q0 : k0q1 ≠ k0q0 := by simp only [AHeap.set_none] at hk0q1; simp only [hk0q1, ne_eq, not_false_eq_true]
  try have hf_0q1 : h k0q1 = none := by first | assumption | (simp only [AHeap.set_none] at hk0q1; simp only [hk0q1])
  skip
  simp (decide := true) only [aOps_nil, ev, absV, absS, putD, Slots.put, Slots.get, Slots.keep, if_true, if_false, true_and, ↓ap_assign, pop_assign, AVal.cells, Nat.zero_add]
  apply hK; clear hK K
  -- region 1  pairs.go:48
  refine awp_rseq [2, 3, 5] (by rfl) fun K hK => ?_
  refine aOps_makeMap fun k1q0 hk1q0 => ?_
  have ne_1q0_0q0 : k1q0 ≠ k0q0 := by simp only [AHeap.set_none] at hk1q0; simp only [hk1q0, ne_eq, not_false_eq_true]
  have ne_1q0_0q1 : k1q0 ≠ k0q1 := by simp only [AHeap.set_none] at hk1q0; simp only [hk1q0, ne_eq, not_false_eq_true]
  try have hf_1q0 : h k1q0 = none := by first | assumption | (simp only [AHeap.set_none] at hk1q0; simp only [hk1q0])
  simp (decide := true) only [ev, putD, Slots.put, Slots.get, if_true, if_false, true_and, ↓ap_fieldAddr, pop_fieldAddr, fa35_1, ↓ap_loadL, apL_mk, pLoad_one ag3, rd_ne', ne_eq, not_false_eq_true, ne_0q1_0q0.symm, ne_1q0_0q0.symm, rd_any, List.getD_cons_zero, List.getD_cons_succ, Nat.zero_add, lv_int]
  refine aOps_insertNew Tryd.underlying64 (by rfl) (by repeat (first | exact AHeap.set_same _ _ _ | assumption | refine (AHeap.set_ne _ _ (by first | assumption | exact Ne.symm (by assumption))).trans ?_)) (by rfl) (by rfl) ?_
  rw [AHeap.set_set]
  simp (decide := true) only [ev, absV, absS, putD, Slots.put, Slots.get, if_true, if_false, true_and, ↓ap_move, pop_move, Nat.zero_add]
  refine aOps_alloc ze64 (cs := [.nilMap]) (by rfl) fun k1q5 hk1q5 => ?_
  have ne_1q5_0q0 : k1q5 ≠ k0q0 := by simp only [AHeap.set_none] at hk1q5; simp only [hk1q5, ne_eq, not_false_eq_true]
  have ne_1q5_0q1 : k1q5 ≠ k0q1 := by simp only [AHeap.set_none] at hk1q5; simp only [hk1q5, ne_eq, not_false_eq_true]
  have ne_1q5_1q0 : k1q5 ≠ k1q0 := by simp only [AHeap.set_none] at hk1q5; simp only [hk1q5, ne_eq, not_false_eq_true]
  try have hf_1q5 : h k1q5 = none := by first | assumption | (simp only [AHeap.set_none] at hk1q5; simp only [hk1q5])
  refine aOps_store (by rfl) (by rfl) (by repeat (first | exact AHeap.set_same _ _ _ | assumption | refine (AHeap.set_ne _ _ (by first | assumption | exact Ne.symm (by assumption))).trans ?_)) sz64 (by rfl) (by rfl) (by first | exact Nat.le_refl _ | decide | (simp; done) | (simp; omega)) (Nat.zero_le _) (by first | rfl | (simp (decide := true) only [ev, putD, Slots.put, Slots.get, if_true, if_false, AVal.cells, allScal, Bool.and_true, Bool.true_and, sc_bool, sc_int, sc_str, q.hval])) ?_
  simp only [AHeap.set_set, AVal.cells]
  simp (decide := true) only [aOps_nil, ev, putD, Slots.put, Slots.get, Slots.keep, if_true, if_false, setAt, List.set_cons_zero]
  apply hK; clear hK K
  -- region 2  pairs.go:49
  refine awp_rseq [2, 5, 6] (by rfl) fun K hK => ?_
  simp (decide := true) only [aOps_nil, ev, putD, Slots.put, Slots.get, Slots.keep, if_true, if_false, true_and, ↓ap_makeFunc, pop_makeFunc, evs, List.map_cons, List.map_nil, ↓ap_assign, pop_assign]
  apply hK; clear hK K
  refine awp_seq ?_
  obtain ⟨H0, hH0⟩ : ∃ H0, H0 = (((h.set k0q0 ⟨[v, .int .i64 sz, .int .i64 g], 0⟩).set k0q1 ⟨[.bool only], 0⟩).set k1q0 (mapBlk 1 ([(((0, .nilSlice), (g, [])) : EntP)].map entK))).set k1q5 ⟨[.map k1q0], 0⟩ := ⟨_, rfl⟩
  refine Awp.forget (h' := H0) (by rw [hH0]; exact Sub.refl _) ?_
  have hs_H0 : Sub h H0 := by rw [hH0]; exact (by repeat (first | exact Sub.refl _ | assumption | refine Sub.set_both ?_ _ _ | refine Sub.trans_set ?_ (by repeat (first | assumption | refine (AHeap.set_ne _ _ (by first | assumption | exact Ne.symm (by assumption))).trans ?_))))
  have eb_0q0 : H0 k0q0 = some ⟨[v, .int .i64 sz, .int .i64 g], 0⟩ := by rw [hH0]; exact (by repeat (first | exact AHeap.set_same _ _ _ | assumption | refine (AHeap.set_ne _ _ (by first | assumption | exact Ne.symm (by assumption))).trans ?_))
  have eb_0q1 : H0 k0q1 = some ⟨[.bool only], 0⟩ := by rw [hH0]; exact (by repeat (first | exact AHeap.set_same _ _ _ | assumption | refine (AHeap.set_ne _ _ (by first | assumption | exact Ne.symm (by assumption))).trans ?_))
  have eb_1q5 : H0 k1q5 = some ⟨[.map k1q0], 0⟩ := by rw [hH0]; exact (by repeat (first | exact AHeap.set_same _ _ _ | assumption | refine (AHeap.set_ne _ _ (by first | assumption | exact Ne.symm (by assumption))).trans ?_))
  have eb_1q0 : H0 k1q0 = some (mapBlk 1 ([(((0, .nilSlice), (g, [])) : EntP)].map entK)) := by rw [hH0]; exact (by repeat (first | exact AHeap.set_same _ _ _ | assumption | refine (AHeap.set_ne _ _ (by first | assumption | exact Ne.symm (by assumption))).trans ?_))
  clear hH0
  -- region 3  pairs.go:53
  refine awp_rseq [2, 5, 6, 18, 19, 20] (by rfl) fun K hK => ?_
  simp (decide := true) only [aOps_nil, ev, absV, absS, putD, Slots.put, Slots.get, Slots.keep, if_true, if_false, true_and, ↓ap_fieldAddr, pop_fieldAddr, fa35_0, fa27_0, ↓ap_loadL, apL_mk, pLoad_one ag25, ↓ap_len, pop_len, ↓ap_move, pop_move, rd_own w₀ eb_0q0, List.getD_cons_zero, Nat.zero_add, hlv, nv]
  apply hK; clear hK K
  refine awp_block ?_
  refine awp_loopG [2, 5, 6, 18, 19, 20] (fun s : PaG => [(2, .ptr (.own k0q0) 0), (5, .ptr (.own k1q5) 0), (6, .func 30 [.ptr (.own k1q5) 0, .ptr (.own k0q1) 0]), (18, v), (19, .int .i64 l.length), (20, .int .i64 s.i)]) (fun s : PaG => s.H) (fun s : PaG => PaOk w₀ h l g only k0q0 k0q1 k1q0 k1q5 [v, .int .i64 sz, .int .i64 g] s) (fun s : PaG => l.length - s.i) ⟨0, H0, 1, [((0, .nilSlice), (g, []))]⟩ (by rfl) (Sub.refl _) ⟨Nat.zero_le _, hs_H0, eb_0q0, eb_0q1, eb_1q5, ⟨eb_1q0, by simp; exact .nil, by simp, by simp⟩, rfl, by simp, Nat.le_refl _⟩ ?_
  rintro ⟨i, H, c, qs⟩ ⟨hi, hs_H, eb_0q0, eb_0q1, eb_1q5, hmp, hgo, hks, hc⟩
  simp only at hi hs_H eb_0q0 eb_0q1 eb_1q5 hmp hgo hks hc ⊢
  -- region 4  pairs.go:53
  refine awp_rseq [2, 5, 6, 18, 19, 20, 21] (by rfl) fun K hK => ?_
  simp (decide := true) only [aOps_nil, ev, putD, Slots.put, Slots.get, Slots.keep, if_true, if_false, true_and, ↓ap_binOp, pop_binOp, isNilC_tmp, cond_false, pBinX_int, pI_lss]
  apply hK; clear hK K
  refine awp_seq (awp_cond (b := _) rfl (fun hb1 => ?_) (fun hb1 => ?_))
  · try simp only [decide_eq_true_eq] at hb1
    have hi' : i < l.length := by omega
    obtain ⟨lc, o, cp, rfl⟩ := it_open hv (by omega)
    obtain ⟨⟨x, q⟩, hx⟩ : ∃ a, l.getD i default = a := ⟨_, rfl⟩
    have hca := it_at (hv.mono hs_H) hi' hx
    have hall := it_live hv hi' hx
    have hvl : q.val.live = true := scal_live q.hval
    have hst := pGo_step (g := g) (only := only) (l := items l) (by rw [hin]; exact hi') (pathsOf qs)
    rw [hgo, items_getD, hx] at hst
    obtain ⟨P, hP⟩ : ∃ P, P = (lookA x.parent (pathsOf qs)).getD [] := ⟨_, rfl⟩
    have hPl : P.length ≤ i := by
      rw [hP]
      cases hq : lookA x.parent (pathsOf qs) with
      | none => exact Nat.zero_le _
      | some p =>
        obtain ⟨q', hq', e⟩ := List.mem_map.1 (lookA_mem hq)
        have := (hks q' hq').2
        rw [e] at this
        exact this
    unfold itemC at hca hall
    refine awp_skip ?_
    change Awp _ _ _ _ _ _ _
    refine awp_seq ?_
    refine awp_block ?_
    -- region 5  pairs.go:53
    refine awp_rseq [2, 5, 6, 7, 8, 18, 19, 20] (by rfl) fun K hK => ?_
    simp (decide := true) only [ev, putD, Slots.put, Slots.get, if_true, if_false, true_and, ↓ap_move, pop_move, ↓ap_indexAddrL, apL_mk, pIndexAddr_slice Tryd.underlying25 sz44, ↓ap_loadL, pLoad_agg ag44 sz44, ↓hca, hall, Int.toNat_natCast]
    repeat (with_reducible refine And.intro ?_ ?_; · first | trivial | omega | (intro hg; simp only [Bool.and_eq_true, Bool.or_eq_true, Bool.not_eq_true', Bool.and_eq_false_iff, Bool.or_eq_false_iff, Bool.not_eq_false', decide_eq_true_eq, decide_eq_false_iff_not, eqNil] at hg; omega) )
    refine aOps_alloc ze44 (cs := [.str [], .int .i64 0, .int .i64 0, .int .u8 0, .int .u8 0, .str [], .int .i64 0, .int .i64 0, .bool false, .bool false, .bool false, .bool false, .bool false, .int .i64 0, .int .i64 0, .int .i64 0, .int .i64 0, .int .i64 0, .int .i64 0, .int .i64 0, .int .i64 0, .nilSlice]) (by rfl) fun k5q3 hk5q3 => ?_
    have hn_5q3 : H k5q3 = none := by first | assumption | (simp only [AHeap.set_none] at hk5q3; simp only [hk5q3])
    have hf_5q3 : h k5q3 = none := Sub.none hs_H hn_5q3
    have ne_5q3_0q0 : k5q3 ≠ k0q0 := AHeap.ne_some hn_5q3 eb_0q0
    have ne_5q3_0q1 : k5q3 ≠ k0q1 := AHeap.ne_some hn_5q3 eb_0q1
    have ne_5q3_1q5 : k5q3 ≠ k1q5 := AHeap.ne_some hn_5q3 eb_1q5
    simp (decide := true) only [ev, putD, Slots.put, Slots.get, if_true, if_false, true_and, ↓ap_assign, pop_assign]
    refine aOps_store (by rfl) (by rfl) (by repeat (first | exact AHeap.set_same _ _ _ | assumption | refine (AHeap.set_ne _ _ (by first | assumption | exact Ne.symm (by assumption))).trans ?_)) sz44 (by rfl) (by rfl) (by first | exact Nat.le_refl _ | decide | (simp; done) | (simp; omega)) (Nat.zero_le _) (by first | rfl | (simp (decide := true) only [ev, Slots.get, if_true, if_false, AVal.cells, allScal, Bool.and_true, sc_bool, sc_int, sc_str, q.hval])) ?_
    simp only [AHeap.set_set, AVal.cells]
    simp (decide := true) only [aOps_nil, ev, putD, Slots.get, Slots.keep, if_true, if_false, setAt, List.set_cons_zero, List.set_cons_succ, Nat.zero_add, Nat.reduceAdd]
    apply hK; clear hK K
    -- region 6  pairs.go:54
    refine awp_rseq [2, 5, 6, 7, 9, 10, 18, 19, 20] (by rfl) fun K hK => ?_
    simp (decide := true) only [ev, putD, Slots.put, Slots.get, if_true, if_false, true_and, ↓ap_move, pop_move, ↓ap_loadL, apL_mk, pLoad_agg ag44 sz44, rd_any, cellsAt, List.getD_cons_zero, List.getD_cons_succ, Nat.zero_add, Nat.reduceAdd, lv_bool, lv_int, lv_str, allLive, Bool.and_true, hvl]
    refine aOps_call (by rfl) (by rfl) (c_below w₀ _ k1q5 k0q1 k1q0 c only qs x q (by repeat (first | exact AHeap.set_same _ _ _ | assumption | refine (AHeap.set_ne _ _ (by first | assumption | exact Ne.symm (by assumption))).trans ?_)) (by repeat (first | exact AHeap.set_same _ _ _ | assumption | refine (AHeap.set_ne _ _ (by first | assumption | exact Ne.symm (by assumption))).trans ?_)) (hmp.mono (by repeat (first | exact Sub.refl _ | assumption | refine Sub.set_both ?_ _ _ | refine Sub.trans_set ?_ (by repeat (first | assumption | refine (AHeap.set_ne _ _ (by first | assumption | exact Ne.symm (by assumption))).trans ?_))))) (by rw [← hP]; omega)) fun x6q2 h6q2 hx6q2 => ?_
    obtain ⟨v6, rfl, hr6, hs6⟩ := hx6q2
    rw [← hP] at hr6
    have hs_h6q2 : Sub h h6q2 := Sub.trans (by repeat (first | exact Sub.refl _ | assumption | refine Sub.trans_set ?_ (by assumption))) hs6
    have hr_h6q2 : Sub H h6q2 := Sub.trans (by repeat (first | exact Sub.refl _ | assumption | refine Sub.trans_set ?_ (by assumption))) hs6
    have eb_5q3 := hs6 k5q3 _ (by repeat (first | exact AHeap.set_same _ _ _ | assumption | refine (AHeap.set_ne _ _ (by first | assumption | exact Ne.symm (by assumption))).trans ?_))
    have eb_0q0 := hs6 k0q0 _ (by repeat (first | exact AHeap.set_same _ _ _ | assumption | refine (AHeap.set_ne _ _ (by first | assumption | exact Ne.symm (by assumption))).trans ?_))
    have eb_0q1 := hs6 k0q1 _ (by repeat (first | exact AHeap.set_same _ _ _ | assumption | refine (AHeap.set_ne _ _ (by first | assumption | exact Ne.symm (by assumption))).trans ?_))
    have eb_1q5 := hs6 k1q5 _ (by repeat (first | exact AHeap.set_same _ _ _ | assumption | refine (AHeap.set_ne _ _ (by first | assumption | exact Ne.symm (by assumption))).trans ?_))
    simp (decide := true) only [aOps_nil, ev, putD, Slots.put, Slots.get, Slots.keep, if_true, if_false, true_and, ↓ap_move, pop_move, ↓ap_extract, pop_extract, pExt_tuple, List.length_cons, List.length_nil, List.getD_cons_zero, List.getD_cons_succ, ↓ap_assign, pop_assign, List.getD_cons_zero, List.getD_cons_succ, Nat.zero_add, Nat.reduceAdd]
    apply hK; clear hK K
    -- region 7  pairs.go:54
    refine awp_rseq [2, 5, 6, 7, 9, 18, 19, 20, 37] (by rfl) fun K hK => ?_
    simp (decide := true) only [aOps_nil, ev, absV, absS, putD, Slots.put, Slots.get, Slots.keep, if_true, if_false, true_and, ↓ap_move, pop_move, ↓ag_move, agP, agQ_some, nthDst, gKnown_bool, guardB_bool_true, implies_true, ↓ag_fieldAddr, pop_fieldAddr, fa35_1, ↓ag_loadL, agQL_some, agL_mk, agL_ld1, pLoad_one ag3, ↓ag_binOp, pop_binOp, isNilC_tmp, cond_false, cv_binl, cv_binr, cp_binl, cp_binr, pBinX_int, pI_neq, ↓ap_pick, pop_pick, pPick_bool, pickV_cond_l, pickV_and, rd_own w₀ eb_0q0, List.getD_cons_zero, List.getD_cons_succ, Nat.zero_add, lv_int]
    apply hK; clear hK K
    refine awp_cond (b := _) rfl (fun hb2 => ?_) (fun hb2 => ?_)
    · try simp only [decide_eq_false_iff_not, Bool.not_eq_true', Bool.and_eq_true, Bool.or_eq_true] at hb2
      have hmp6 := hmp.mono hr_h6q2
      have hnf : mFind (.int .i64 (i : Int)) (qs.map entK) 0 = some none := by
        rcases find_paths (i : Int) qs 0 with h | ⟨j, q', h1, h2, _, _⟩
        · exact h.2
        · exfalso
          have := (hks q' (List.mem_of_getElem? h1)).1
          omega
      -- region 8  pairs.go:55
      refine awp_r [2, 5, 6, 18, 19, 20] (by rfl) ?_
      simp (decide := true) only [ev, putD, Slots.put, Slots.get, if_true, if_false, true_and, ↓ap_loadL, apL_mk, pLoad_one ag64, ↓ap_move, pop_move, rd_own w₀ eb_1q5, lv_map, List.getD_cons_zero]
      refine aOps_putNew Tryd.underlying64 (by rfl) hmp6.at_ (by rfl) hnf ?_
      simp (decide := true) only [aOps_nil, ev, putD, Slots.get, Slots.keep, if_true, if_false]
      change Awp _ _ _ _ _ _ _
      -- region 9  pairs.go:53
      refine awp_r [2, 5, 6, 18, 19, 20] (by rfl) ?_
      simp (decide := true) only [aOps_nil, ev, absV, absS, putD, Slots.put, Slots.get, Slots.keep, if_true, if_false, true_and, ↓ap_binOp, pop_binOp, isNilC_int, cond_false, pBinX_int, pI_add, ↓ap_move, pop_move]
      try simp (disch := omega) only [wrap_i64]
      try simp only [thenA_normal]
      first
      | exact ⟨⟨i + 1, h6q2.set k1q0 (mapBlk (c + 1) ((qs ++ [((c, v6), ((i : Int), P ++ [x.name]))]).map entK)), c + 1, qs ++ [((c, v6), ((i : Int), P ++ [x.name]))]⟩, rfl, by rw [List.map_append]; exact Sub.refl _, ⟨hi', Sub.trans_set hs_h6q2 hf_1q0, (AHeap.set_ne _ _ ne_1q0_0q0.symm).trans eb_0q0, (AHeap.set_ne _ _ ne_1q0_0q1.symm).trans eb_0q1, (AHeap.set_ne _ _ ne_1q5_1q0).trans eb_1q5, hmp6.put i hr6, by
         have hpp := pStep_put (g := g) (only := only) (acc := pathsOf qs) (i := i) (x := x) (by rw [hb2.1.1]; simpa using hb2.1.2) hb2.2
         rw [hpp, ← hP] at hst
         rw [hst]
         simp only [pathsOf, List.map_append, List.map_cons, List.map_nil], fun q' hq' => by
         rcases List.mem_append.1 hq' with h | h
         · have := hks q' h
           simp only
           omega
         · rw [List.mem_singleton.1 h]
           simp only [List.length_append, List.length_cons, List.length_nil]
           omega, by simp only; omega⟩, by simp only; omega⟩
      | exact ⟨⟨i + 1, h6q2, c, qs⟩, rfl, Sub.refl _, ⟨hi', hs_h6q2, eb_0q0, eb_0q1, eb_1q5, hmp.mono hr_h6q2, by
         rw [hst, pStep_skip]
         intro h1
         simp only [Bool.and_eq_true, Bool.or_eq_true, Bool.not_eq_true'] at h1
         obtain ⟨ha, hb⟩ := h1
         rcases hb2 with (hb2 | ⟨hb2, hb3⟩) | hb2
         · rw [hb2] at ha; cases ha
         · rcases hb with hb | hb
           · rw [hb2] at hb; cases hb
           · rw [hb3] at hb; cases hb
         · omega, fun q' hq' => by
         have := hks q' hq'
         simp only
         omega, by simp only; omega⟩, by simp only; omega⟩
    · try simp only [decide_eq_true_eq, Bool.not_eq_false', Bool.and_eq_false_iff, Bool.or_eq_false_iff] at hb2
      refine awp_skip ?_
      change Awp _ _ _ _ _ _ _
      -- region 9  pairs.go:53
      refine awp_r [2, 5, 6, 18, 19, 20] (by rfl) ?_
      simp (decide := true) only [aOps_nil, ev, absV, absS, putD, Slots.put, Slots.get, Slots.keep, if_true, if_false, true_and, ↓ap_binOp, pop_binOp, isNilC_int, cond_false, pBinX_int, pI_add, ↓ap_move, pop_move]
      try simp (disch := omega) only [wrap_i64]
      try simp only [thenA_normal]
      first
      | exact ⟨⟨i + 1, h6q2.set k1q0 (mapBlk (c + 1) ((qs ++ [((c, v6), ((i : Int), P ++ [x.name]))]).map entK)), c + 1, qs ++ [((c, v6), ((i : Int), P ++ [x.name]))]⟩, rfl, by rw [List.map_append]; exact Sub.refl _, ⟨hi', Sub.trans_set hs_h6q2 hf_1q0, (AHeap.set_ne _ _ ne_1q0_0q0.symm).trans eb_0q0, (AHeap.set_ne _ _ ne_1q0_0q1.symm).trans eb_0q1, (AHeap.set_ne _ _ ne_1q5_1q0).trans eb_1q5, hmp6.put i hr6, by
         have hpp := pStep_put (g := g) (only := only) (acc := pathsOf qs) (i := i) (x := x) (by rw [hb2.1.1]; simpa using hb2.1.2) hb2.2
         rw [hpp, ← hP] at hst
         rw [hst]
         simp only [pathsOf, List.map_append, List.map_cons, List.map_nil], fun q' hq' => by
         rcases List.mem_append.1 hq' with h | h
         · have := hks q' h
           simp only
           omega
         · rw [List.mem_singleton.1 h]
           simp only [List.length_append, List.length_cons, List.length_nil]
           omega, by simp only; omega⟩, by simp only; omega⟩
      | exact ⟨⟨i + 1, h6q2, c, qs⟩, rfl, Sub.refl _, ⟨hi', hs_h6q2, eb_0q0, eb_0q1, eb_1q5, hmp.mono hr_h6q2, by
         rw [hst, pStep_skip]
         intro h1
         simp only [Bool.and_eq_true, Bool.or_eq_true, Bool.not_eq_true'] at h1
         obtain ⟨ha, hb⟩ := h1
         rcases hb2 with (hb2 | ⟨hb2, hb3⟩) | hb2
         · rw [hb2] at ha; cases ha
         · rcases hb with hb | hb
           · rw [hb2] at hb; cases hb
           · rw [hb3] at hb; cases hb
         · omega, fun q' hq' => by
         have := hks q' hq'
         simp only
         omega, by simp only; omega⟩, by simp only; omega⟩
  · try simp only [decide_eq_false_iff_not] at hb1
    have hie : i = l.length := by omega
    rw [hie, ← hin, List.drop_length, pGo] at hgo
    obtain ⟨r, hr1, hr2, _, _⟩ := all_cons (items l) g only
    obtain ⟨q0, qs', rfl, hq0, hq'⟩ : ∃ q0 qs', qs = q0 :: qs' ∧ q0.2 = (g, []) ∧ pathsOf qs' = r := by
      cases qs with
      | nil => rw [hr1] at hgo; cases hgo
      | cons q0 qs' =>
        rw [hr1] at hgo
        obtain ⟨e1, e2⟩ := List.cons.inj hgo
        exact ⟨q0, qs', rfl, e1, e2⟩
    have hf0 : mFind (.int .i64 g) ((q0 :: qs').map entK) 0 = some (some (0, q0.1.2)) := by
      rw [List.map_cons]
      simp only [entK, mFind, kEq, hq0, if_true, decide_true]
    refine awp_exit ?_
    change Awp _ _ _ _ _ _ _
    -- region 10  pairs.go:58
    refine awp_rseq [5] (by rfl) fun K hK => ?_
    simp (decide := true) only [ev, putD, Slots.put, Slots.get, if_true, if_false, true_and, ↓ap_loadL, apL_mk, pLoad_one ag64, ↓ap_fieldAddr, pop_fieldAddr, fa35_1, pLoad_one ag3, rd_own w₀ eb_0q0, rd_own w₀ eb_1q5, lv_map, List.getD_cons_zero, List.getD_cons_succ, Nat.zero_add, lv_int]
    refine aOps_delete (by rfl) Tryd.underlying64 (by rfl) hmp.at_ (by rfl) hf0 ?_
    simp (decide := true) only [aOps_nil, putD, Slots.keep, if_true, if_false]
    apply hK; clear hK K
    -- region 11  pairs.go:59
    refine awp_rseq [4] (by rfl) fun K hK => ?_
    simp (decide := true) only [aOps_nil, ev, putD, Slots.put, Slots.get, Slots.keep, if_true, if_false, true_and, ↓ap_loadL, apL_mk, pLoad_one ag64, ↓ap_assign, pop_assign, rd_ne', ne_eq, not_false_eq_true, rd_own w₀ eb_1q5, lv_map, List.getD_cons_zero, ne_1q5_1q0]
    apply hK; clear hK K
    refine awp_ret ?_
    refine retA_retE (resPre_tmp (resPre_nil)) ?_
    simp (decide := true) only [Slots.get, if_true, resOf_one]
    refine ⟨_, Sub.refl _, k1q0, c, qs', rfl, hf_1q0, ⟨AHeap.set_same _ _ _, fun q hq => ?_, fun q hq => hmp.few q (List.mem_cons_of_mem _ hq), ?_⟩, by rw [hq', hr2], Sub.trans_set hs_H hf_1q0⟩
    · exact (hmp.rows q (List.mem_cons_of_mem _ hq)).setMap hmp.at_ (entK_dead c _) _
    · have := hmp.asc
      rw [List.map_cons, List.pairwise_cons] at this
      exact this.2
end Go.Proofs.YtgnebodlkfblcaaDoor

/-
  DERIVED: THE SHELF's CONTRACTS AT THIS DUMP, IN PLAIN WORDS (tools/lay-plain.mjs out of 'TrydShelf.lean', which tools/lay-shelf.mjs wrote): THE SAME DECLARATIONS UNDER THE SAME NAMES: 'import', 'namespace', 'open', 'def', 'theorem' AND NOTHING ELSE: no command of the shelf's: FOR A HAND-IN. Each laying: the table of numbers ('.._ren') and one theorem, a field a fact of the dump's own or the kernel's comparison; each contract: ONE APPLICATION.
-/
namespace Go.Proofs
open Go.Shelf
def Tryd.lays125_ren : Go.Shelf.Ren := ⟨fun | 125 => 36 | 128 => 48 | 129 => 49 | n => n, fun | 46 => 89 | 3 => 3 | 51 => 101 | 53 => 103 | 4 => 4 | 5 => 5 | 9 => 9 | n => n, fun | n => n⟩
theorem Tryd.lays125 : Go.Proofs.Lays.n125 Tryd.prog Tryd.lays125_ren := {
  mixed := by kernel_rfl
  f125 := Tryd.func36.trans (congrArg some (by kernel_rfl))
  f128 := Tryd.func48.trans (congrArg some (by kernel_rfl))
  f129 := Tryd.func49.trans (congrArg some (by kernel_rfl))
  t3 := Tryd.underlying3
  a3 := Tryd.isAgg3
  z3 := Tryd.sizeOf3
  v3 := Tryd.zeroValue3
  t4 := Tryd.underlying4
  a4 := Tryd.isAgg4
  z4 := Tryd.sizeOf4
  v4 := Tryd.zeroValue4
  t5 := Tryd.underlying5
  a5 := Tryd.isAgg5
  z5 := Tryd.sizeOf5
  v5 := Tryd.zeroValue5
  t9 := Tryd.underlying9
  a9 := Tryd.isAgg9
  z9 := Tryd.sizeOf9
  v9 := Tryd.zeroValue9
  t46 := Tryd.underlying89
  a46 := Tryd.isAgg89
  z46 := Tryd.sizeOf89
  v46 := Tryd.zeroValue89
  t51 := Tryd.underlying101
  a51 := Tryd.isAgg101
  z51 := Tryd.sizeOf101
  v51 := Tryd.zeroValue101
  t53 := Tryd.underlying103
  a53 := Tryd.isAgg103
  z53 := Tryd.sizeOf103
  v53 := Tryd.zeroValue103 }
/-- bits.Len: "Len returns the minimum number of bits required to represent x; the result is 0 for x == 0.": IT RETURNS 'Lib.bitLen x'; the world is as it was. (A uint has 64 bits in the model.) ITS CALLEE bits.Len64 IS MET BY ITS OWN CONTRACT OFF THE SHELF (lay that first). (LAID: no walk: one application.) -/
theorem Tryd.bits_Len (x : Int) (w : World) (h0 : 0 ≤ x) (h1 : x ≤ 18446744073709551615) :
    Calls Tryd.prog 36 #[.int .u64 x] w fun e w' => e = .returned (.int .i64 (Lib.bitLen x.toNat)) ∧ w' = w := Any.bits_Len Tryd.lays125 x w h0 h1
def Tryd.lays122_ren : Go.Shelf.Ren := ⟨fun | 122 => 28 | 215 => 37 | n => n, fun | 3 => 3 | 4 => 4 | n => n, fun | n => n⟩
theorem Tryd.lays122 : Go.Proofs.Lays.n122 Tryd.prog Tryd.lays122_ren := {
  mixed := by kernel_rfl
  f122 := Tryd.func28.trans (congrArg some (by kernel_rfl))
  f215 := Tryd.func37.trans (congrArg some (by kernel_rfl))
  t3 := Tryd.underlying3
  a3 := Tryd.isAgg3
  z3 := Tryd.sizeOf3
  v3 := Tryd.zeroValue3
  t4 := Tryd.underlying4
  a4 := Tryd.isAgg4
  z4 := Tryd.sizeOf4
  v4 := Tryd.zeroValue4 }
open Go.RowKit in
/-- cmp.Compare at int: "Compare returns -1 if x is less than y, 0 if x equals y, +1 if x is greater than y.": IT RETURNS 'Lib.compareInt x y'; the world is as it was. (LAID: no walk: one application.) -/
theorem Tryd.cmp_Compare_int (x y : Int) (w : World) :
    Calls Tryd.prog 28 #[.int .i64 x, .int .i64 y] w fun e w' => e = .returned (.int .i64 (Lib.compareInt x y)) ∧ w' = w := Any.cmp_Compare_int Tryd.lays122 x y w
def Tryd.laysM171_ren : Go.Shelf.Ren := ⟨fun | 171 => 33 | 243 => 39 | 246 => 51 | 283 => 57 | 284 => 58 | 285 => 59 | 286 => 60 | 129 => 49 | 317 => 62 | 318 => 63 | 319 => 64 | 320 => 65 | 337 => 66 | 338 => 67 | n => n, fun | 3 => 3 | 9 => 9 | 2 => 2 | 4 => 4 | 171 => 113 | 0 => 0 | 53 => 103 | 37 => 47 | 5 => 5 | 173 => 115 | 212 => 122 | 51 => 101 | 20 => 20 | 213 => 123 | 46 => 89 | 232 => 124 | 233 => 125 | n => n, fun | 17 => 0 | 18 => 1 | 19 => 2 | n => n⟩
theorem Tryd.laysM171 : Go.Proofs.LaysM.n171 Tryd.prog Tryd.laysM171_ren := {
  mixed := by kernel_rfl
  f129 := Tryd.func49.trans (congrArg some (by kernel_rfl))
  f171 := Tryd.func33.trans (congrArg some (by kernel_rfl))
  f243 := Tryd.func39.trans (congrArg some (by kernel_rfl))
  f246 := Tryd.func51.trans (congrArg some (by kernel_rfl))
  f283 := Tryd.func57.trans (congrArg some (by kernel_rfl))
  f284 := Tryd.func58.trans (congrArg some (by kernel_rfl))
  f285 := Tryd.func59.trans (congrArg some (by kernel_rfl))
  f286 := Tryd.func60.trans (congrArg some (by kernel_rfl))
  f317 := Tryd.func62.trans (congrArg some (by kernel_rfl))
  f318 := Tryd.func63.trans (congrArg some (by kernel_rfl))
  f319 := Tryd.func64.trans (congrArg some (by kernel_rfl))
  f320 := Tryd.func65.trans (congrArg some (by kernel_rfl))
  f337 := Tryd.func66.trans (congrArg some (by kernel_rfl))
  f338 := Tryd.func67.trans (congrArg some (by kernel_rfl))
  t0 := Tryd.underlying0
  a0 := Tryd.isAgg0
  z0 := Tryd.sizeOf0
  v0 := Tryd.zeroValue0
  t2 := Tryd.underlying2
  a2 := Tryd.isAgg2
  z2 := Tryd.sizeOf2
  v2 := Tryd.zeroValue2
  t3 := Tryd.underlying3
  a3 := Tryd.isAgg3
  z3 := Tryd.sizeOf3
  v3 := Tryd.zeroValue3
  t4 := Tryd.underlying4
  a4 := Tryd.isAgg4
  z4 := Tryd.sizeOf4
  v4 := Tryd.zeroValue4
  t5 := Tryd.underlying5
  a5 := Tryd.isAgg5
  z5 := Tryd.sizeOf5
  v5 := Tryd.zeroValue5
  t9 := Tryd.underlying9
  a9 := Tryd.isAgg9
  z9 := Tryd.sizeOf9
  v9 := Tryd.zeroValue9
  t20 := Tryd.underlying20
  a20 := Tryd.isAgg20
  z20 := Tryd.sizeOf20
  v20 := Tryd.zeroValue20
  t37 := Tryd.underlying47
  a37 := Tryd.isAgg47
  z37 := Tryd.sizeOf47
  v37 := Tryd.zeroValue47
  t46 := Tryd.underlying89
  a46 := Tryd.isAgg89
  z46 := Tryd.sizeOf89
  v46 := Tryd.zeroValue89
  t51 := Tryd.underlying101
  a51 := Tryd.isAgg101
  z51 := Tryd.sizeOf101
  v51 := Tryd.zeroValue101
  t53 := Tryd.underlying103
  a53 := Tryd.isAgg103
  z53 := Tryd.sizeOf103
  v53 := Tryd.zeroValue103
  t171 := Tryd.underlying113
  a171 := Tryd.isAgg113
  z171 := Tryd.sizeOf113
  v171 := Tryd.zeroValue113
  t173 := Tryd.underlying115
  a173 := Tryd.isAgg115
  z173 := Tryd.sizeOf115
  v173 := Tryd.zeroValue115
  t212 := Tryd.underlying122
  a212 := Tryd.isAgg122
  z212 := Tryd.sizeOf122
  v212 := Tryd.zeroValue122
  t213 := Tryd.underlying123
  a213 := Tryd.isAgg123
  z213 := Tryd.sizeOf123
  t232 := Tryd.underlying124
  a232 := Tryd.isAgg124
  z232 := Tryd.sizeOf124
  v232 := Tryd.zeroValue124
  t233 := Tryd.underlying125
  a233 := Tryd.isAgg125
  z233 := Tryd.sizeOf125
  v233 := Tryd.zeroValue125
  g17 := by kernel_rfl
  g18 := by kernel_rfl
  g19 := by kernel_rfl
  i0 := by kernel_rfl
  i2 := by kernel_rfl
  i3 := by kernel_rfl
  i4 := by kernel_rfl
  i5 := by kernel_rfl
  i9 := by kernel_rfl
  i20 := by kernel_rfl
  i37 := by kernel_rfl
  i46 := by kernel_rfl
  i51 := by kernel_rfl
  i53 := by kernel_rfl
  i171 := by kernel_rfl
  i173 := by kernel_rfl
  i212 := by kernel_rfl
  i232 := by kernel_rfl
  i233 := by kernel_rfl
  m17 := by kernel_rfl
  m18 := by kernel_rfl
  m19 := by kernel_rfl }
open Go.RowKit Go.Sort Go.Lib in
/-- strconv.Itoa: "Itoa is equivalent to FormatInt(int64(i), 10).": i's DECIMAL NUMERAL ('Lib.itoa': a '-' where i is negative, then the digits), FOR EVERY int. The world behind the call: the world before it, new blocks behind the heap (the library's 'var a [24]byte'), draws. (LAID: no walk: one application.) -/
theorem Tryd.strconv_Itoa (n : Int) (h0 : -9223372036854775808 ≤ n) (h1 : n ≤ 9223372036854775807) (w : World) (htab : Lib.TabIs Tryd.prog w "internal/strconv.uint64pow10" .u64 Lib.pow10Tab) :
    Calls Tryd.prog 33 #[.int .i64 n] w fun e w' => e = .returned (.string ⟨(Lib.itoa n).toArray⟩) ∧ ∃ k os, w' = grow (w.drewN k) os := Any.strconv_Itoa Tryd.laysM171 n h0 h1 w htab
def Tryd.laysSlF06_f25_ren : Go.Shelf.Ren := ⟨fun | 6 => 25 | 15 => 36 | 14 => 35 | 28 => 48 | 29 => 49 | 20 => 40 | 21 => 41 | 22 => 42 | 23 => 43 | 24 => 44 | 25 => 45 | 26 => 46 | 27 => 47 | 46 => 52 | 47 => 53 | 48 => 54 | 49 => 55 | 50 => 56 | 57 => 61 | n => n, fun | 22 => 30 | 24 => 37 | 25 => 74 | 3 => 3 | 39 => 89 | 0 => 0 | 53 => 101 | 55 => 103 | 4 => 4 | 46 => 94 | 45 => 93 | 50 => 98 | 5 => 5 | 9 => 9 | 66 => 107 | 70 => 111 | 76 => 117 | 77 => 118 | n => n, fun | n => n⟩
theorem Tryd.laysSlF06_f25 : Go.Proofs.SlLaysF0.n6 Tryd.prog Tryd.laysSlF06_f25_ren := {
  mixed := by kernel_rfl
  f6 := ⟨Tryd.f25.name, by decide, Tryd.func25.trans (congrArg some (by kernel_rfl))⟩
  f14 := ⟨Tryd.f35.name, by decide, Tryd.func35.trans (congrArg some (by kernel_rfl))⟩
  f15 := Tryd.func36.trans (congrArg some (by kernel_rfl))
  f20 := ⟨Tryd.f40.name, by decide, Tryd.func40.trans (congrArg some (by kernel_rfl))⟩
  f21 := ⟨Tryd.f41.name, by decide, Tryd.func41.trans (congrArg some (by kernel_rfl))⟩
  f22 := ⟨Tryd.f42.name, by decide, Tryd.func42.trans (congrArg some (by kernel_rfl))⟩
  f23 := ⟨Tryd.f43.name, by decide, Tryd.func43.trans (congrArg some (by kernel_rfl))⟩
  f24 := ⟨Tryd.f44.name, by decide, Tryd.func44.trans (congrArg some (by kernel_rfl))⟩
  f25 := ⟨Tryd.f45.name, by decide, Tryd.func45.trans (congrArg some (by kernel_rfl))⟩
  f26 := ⟨Tryd.f46.name, by decide, Tryd.func46.trans (congrArg some (by kernel_rfl))⟩
  f27 := ⟨Tryd.f47.name, by decide, Tryd.func47.trans (congrArg some (by kernel_rfl))⟩
  f28 := Tryd.func48.trans (congrArg some (by kernel_rfl))
  f29 := Tryd.func49.trans (congrArg some (by kernel_rfl))
  f46 := ⟨Tryd.f52.name, by decide, Tryd.func52.trans (congrArg some (by kernel_rfl))⟩
  f47 := Tryd.func53.trans (congrArg some (by kernel_rfl))
  f48 := Tryd.func54.trans (congrArg some (by kernel_rfl))
  f49 := ⟨Tryd.f55.name, by decide, Tryd.func55.trans (congrArg some (by kernel_rfl))⟩
  f50 := ⟨Tryd.f56.name, by decide, Tryd.func56.trans (congrArg some (by kernel_rfl))⟩
  f57 := ⟨Tryd.f61.name, by decide, Tryd.func61.trans (congrArg some (by kernel_rfl))⟩
  t0 := Tryd.underlying0
  a0 := Tryd.isAgg0
  z0 := Tryd.sizeOf0
  v0 := Tryd.zeroValue0
  t3 := Tryd.underlying3
  a3 := Tryd.isAgg3
  z3 := Tryd.sizeOf3
  v3 := Tryd.zeroValue3
  t4 := Tryd.underlying4
  a4 := Tryd.isAgg4
  z4 := Tryd.sizeOf4
  v4 := Tryd.zeroValue4
  t5 := Tryd.underlying5
  a5 := Tryd.isAgg5
  z5 := Tryd.sizeOf5
  v5 := Tryd.zeroValue5
  t9 := Tryd.underlying9
  a9 := Tryd.isAgg9
  z9 := Tryd.sizeOf9
  v9 := Tryd.zeroValue9
  t22 := Tryd.underlying30
  a22 := Tryd.isAgg30
  z22 := Tryd.sizeOf30
  v22 := Tryd.zeroValue30
  t25 := Tryd.underlying74
  a25 := Tryd.isAgg74
  z25 := Tryd.sizeOf74
  v25 := Tryd.zeroValue74
  t39 := Tryd.underlying89
  a39 := Tryd.isAgg89
  z39 := Tryd.sizeOf89
  v39 := Tryd.zeroValue89
  t45 := Tryd.underlying93
  a45 := Tryd.isAgg93
  z45 := Tryd.sizeOf93
  v45 := Tryd.zeroValue93
  t46 := Tryd.underlying94
  a46 := Tryd.isAgg94
  z46 := Tryd.sizeOf94
  v46 := Tryd.zeroValue94
  t50 := Tryd.underlying98
  a50 := Tryd.isAgg98
  z50 := Tryd.sizeOf98
  v50 := Tryd.zeroValue98
  t53 := Tryd.underlying101
  a53 := Tryd.isAgg101
  z53 := Tryd.sizeOf101
  v53 := Tryd.zeroValue101
  t55 := Tryd.underlying103
  a55 := Tryd.isAgg103
  z55 := Tryd.sizeOf103
  v55 := Tryd.zeroValue103
  t66 := Tryd.underlying107
  a66 := Tryd.isAgg107
  z66 := Tryd.sizeOf107
  v66 := Tryd.zeroValue107
  t70 := Tryd.underlying111
  a70 := Tryd.isAgg111
  z70 := Tryd.sizeOf111
  v70 := Tryd.zeroValue111
  t76 := Tryd.underlying117
  a76 := Tryd.isAgg117
  z76 := Tryd.sizeOf117
  v76 := Tryd.zeroValue117
  t77 := Tryd.underlying118
  a77 := Tryd.isAgg118
  z77 := Tryd.sizeOf118
  v77 := Tryd.zeroValue118 }
open Go.RowKit Go.Lib Go.Sort in
/-- **slices.SortFunc, IN THE DOCUMENTATION's OWN TERMS: A PERMUTATION OF WHAT THE ROW HELD, SORTED BY 'cmp(a, b) < 0'.** Which of two equals comes first is left open ("The sort is not guaranteed to be stable"). (LAID AT THE INSTANCE 'slices.SortFunc[[][2]int,[2]int]': no walk: one application.) -/
theorem Tryd.slices_SortFunc {α : Type} [Inhabited α] (k : Nat) (aE : ∀ w, (isAgg 37).run Tryd.prog w = .ok true w) (zE : ∀ w, (Go.sizeOf 37).run Tryd.prog w = .ok k w) (enc : α → List Value) (hk : ∀ x, (enc x).length = k) (h1 : ∀ x, ∀ v ∈ enc x, v.oneCell' = true) (cf : α → α → Int) (hO : SWO (ltOf cf)) (g : Nat) (cb : Array Value) (blk off cap : Nat) (d : Array α) (w : World) (eg : ∀ args w, (callFunc g args).run Tryd.prog w = .ok (.enter g args) w) (hcmp : CmpLays Tryd.prog g cb enc k cf blk off d.size w) (hH : HoldsK enc k w blk off d) (hblk : blk < w.heap.size) (hsz : d.size < 4611686018427387904) :
    Calls Tryd.prog 25 #[.slice (some ⟨blk, off, none⟩) d.size cap, .func (.func g) #[] cb] w fun e w' =>
      e = .returned (.tuple #[]) ∧ ∃ d' n os, PermIn 0 d.size d d' ∧ SortedIn (ltOf cf) 0 d.size d' ∧ w' = sortWorldK enc k w blk off n d' os := AnyQ.slices_SortFunc Tryd.laysSlF06_f25 k aE zE enc hk h1 cf hO g cb blk off cap d w eg hcmp hH hblk hsz
end Go.Proofs

/-
  Contracts of strings.Builder's methods.
  Conditions: none.
-/
namespace Go.Proofs.YtgnebodlkfblcaaDoor
open Go.AM
open Go.Proofs
set_option maxRecDepth 100000

theorem cc_fresh (b : Nat) (w : World) (T : TypeId) (cells : Nat) (h0 : w.cell? ⟨b, 0, none⟩ = some (.pointer none)) (hsh : w.shape? b = some (T, cells)) (hc : 0 < cells)
    (hlies : liesAt Tryd.prog Tryd.prog.depth T (cells / Tryd.prog.cellsOf T) 0 80 1 = true) (hfz : w.frozen? ⟨b, 0, none⟩ = false) :
    Calls Tryd.prog 38 #[.pointer (some ⟨b, 0, none⟩)] w fun e w' => e = .returned (.tuple #[]) ∧ w' = w.setCell ⟨b, 0, none⟩ (.pointer (some ⟨b, 0, none⟩)) := by
  have hsz : (Tryd.prog.info? 80).map (·.size) = some 2 := by kernel_rfl
  obtain ⟨j, hj, hjs⟩ := Option.map_eq_some_iff.1 hsz
  go_enter Tryd.func38, Tryd.ntmps38
  go_wp2
  rw [Lib.run_to_unsafe w ⟨b, 0, none⟩ Tryd.underlying78 Tryd.underlying104 hj (by rw [hjs]; decide) hsh hc]
  simp only [Result.andThen]
  rw [Oper.upon_value]
  go_wp2
  rw [run_callFunc_extern Tryd.func50 (by kernel_rfl) (by kernel_rfl) (by kernel_rfl) (e := Extern.AbiNoEscape.same) (by kernel_rfl)]
  rw [Lib.run_noEscape]
  simp only [Result.andThen]
  rw [Oper.upon_value]
  go_wp2
  rw [Lib.run_from_unsafe w ⟨b, 0, none⟩ Tryd.underlying104 Tryd.underlying78 hj hsh hlies]
  simp only [Result.andThen]
  rw [Oper.upon_value]
  go_wp2
  go_end0
  exact ⟨rfl, rfl⟩

theorem cc_used (b : Nat) (w : World) (h0 : w.cell? ⟨b, 0, none⟩ = some (.pointer (some ⟨b, 0, none⟩))) :
    Calls Tryd.prog 38 #[.pointer (some ⟨b, 0, none⟩)] w fun e w' => e = .returned (.tuple #[]) ∧ w' = w := by
  have hsz : (Tryd.prog.info? 80).map (·.size) = some 2 := by kernel_rfl
  obtain ⟨j, hj, hjs⟩ := Option.map_eq_some_iff.1 hsz
  go_enter Tryd.func38, Tryd.ntmps38
  go_wp2
  rw [Lib.run_neq_ptr_same w _ Tryd.underlying78 hj]
  go_wp2
  go_end0
  exact ⟨rfl, rfl⟩

/-- A variable in which a builder stands first. -/
structure BldT (T : TypeId) (m : Nat) : Prop where
  lies : liesAt Tryd.prog Tryd.prog.depth T 1 0 80 1 = true
  cells : Tryd.prog.cellsOf T = m
  two : 2 ≤ m
theorem c_copyCheck (w₀ : World) (h : AHeap) (k : Nat) (rest : List AVal) (st : Bld) (T : TypeId) (hT : BldT T (rest.length + 2)) (ht : tyOf k = some T) (hst : st.ok 5 h k) :
    ACall Tryd.prog w₀ 38 [.ptr (.own k) 0] (bldH h k rest st) (fun v h' => v = .tuple [] ∧ h' = bldH h k rest ⟨true, st.buf⟩) := by
  intro φ vals w hr hvs
  simp only [VRs, VR] at hvs
  obtain ⟨v, vs', rfl, ⟨a, ha, rfl⟩, rfl⟩ := hvs
  obtain ⟨p, hp, hp0, ok⟩ := hr.own k _ (bldH_head hst)
  obtain ⟨t0, cs0, fr0, hcs0⟩ := hr.typ k p hp T ht
  simp only [locAddr, hp, Option.map_some, Option.some.injEq] at ha
  have okr : RowOk φ ⟨st.head k :: st.slice :: rest, 0⟩ p w := by
    rcases ok with q | q
    · exact q
    · have := q.frz
      simp at this
  obtain ⟨cs, e, lo, hi, h1, h2, h3, h4, h5, h6⟩ := okr.row
  rw [hcs0] at h1
  cases h1
  obtain ⟨c0, hc0, hv0⟩ := ok.cell 0 (by simp) (Bld.head_live _ _)
  have hfz := okr.frozen 0 (Nat.zero_le _) (by simp at h3; omega)
  rw [t0] at hc0 hfz ha
  simp only [Nat.zero_add] at hc0 hfz ha
  subst ha
  have hsh : w.shape? p.blk = some (T, cs0.size) := by simp [World.shape?, hcs0]
  have hr' := hr.setCell (bldH_head hst) hp (o := 0) (x := .ptr (.own k) 0) (v := .pointer (some ⟨p.blk, 0, none⟩)) (by simp only [VR]; exact ⟨_, by simp [locAddr, hp, t0], rfl⟩) rfl (by simp) (Nat.zero_le _)
  simp only [List.set_cons_zero] at hr'
  rw [bldH_used hst, t0] at hr'
  have hun : VR φ (.tuple []) (.tuple #[]) := by simp only [VR]; exact ⟨[], rfl, by simp [VRs]⟩
  refine .inl ⟨_, Tryd.func38, rfl, rfl, ?_⟩
  simp only [List.getD_cons_zero] at hv0
  by_cases hu : st.used = true
  · have e0 : st.head k = .ptr (.own k) 0 := by rw [Bld.head, if_pos hu]
    rw [e0] at hv0
    simp only [VR, locAddr, hp, Option.map_some, Option.some.injEq] at hv0
    obtain ⟨a, ha, rfl⟩ := hv0
    subst ha
    rw [t0] at hc0
    refine (cc_used p.blk w (by simpa using hc0)).mono fun e w' ⟨e1, e2⟩ => ⟨.tuple #[], e1, φ, .tuple [], _, φ.le_refl, ?_, hun, rfl, rfl⟩
    rw [e2]
    have : st = ⟨true, st.buf⟩ := by cases st; simp at hu; simp [hu]
    rw [← this]
    exact hr
  · have e0 : st.head k = .nilPtr := by rw [Bld.head, if_neg hu]
    rw [e0] at hv0
    simp only [VR] at hv0
    subst hv0
    have hle : rest.length + 2 ≤ cs0.size := by simp at h3; omega
    refine (cc_fresh p.blk w T cs0.size hc0 hsh (by omega) (liesAt_first hT.lies (fun m u => by rw [Tryd.underlying80]; simp) (by
      rw [hT.cells]
      exact Nat.div_pos hle (by omega))) hfz).mono fun e w' ⟨e1, e2⟩ => ⟨.tuple #[], e1, φ, .tuple [], _, φ.le_refl, ?_, hun, rfl, rfl⟩
    rw [e2]
    exact hr'

set_option maxHeartbeats 1000000 in
theorem bs_some (b g cap cells : Nat) (l : List UInt8) (h0 : l ≠ []) (w : World) (hc1 : w.cell? ⟨b, 1, none⟩ = some (.slice (some ⟨g, 0, none⟩) l.length cap)) (hcap : cap ≠ 0) (hsh : w.shape? g = some (5, cells)) (hn : l.length ≤ cells)
    (h63 : l.length ≤ 9223372036854775807) (hcell : ∀ j x, l[j]? = some x → w.cell? ((⟨g, 0, none⟩ : Addr).add j) = some (.int .u8 x.toNat)) :
    Calls Tryd.prog 34 #[.pointer (some ⟨b, 0, none⟩)] w fun e w' => e = .returned (.string ⟨l.toArray⟩) ∧ w' = w.drew.freeze ⟨g, 0, none⟩ l.length := by
  have c1 : w.drew.cell? ⟨b, 1, none⟩ = some (.slice (some ⟨g, 0, none⟩) l.length cap) := hc1
  have hSD : (Builtin.unsafeSliceData_ #[47] 91 #[.slice (some ⟨g, 0, none⟩) l.length cap]).run Tryd.prog w.drew = .ok (.pointer (some ⟨g, 0, none⟩)) w.drew := Lib.run_unsafeSliceData_row _ _ _ _ _ _ hcap
  have hUS : (Builtin.unsafeString_ #[91, 3] 9 #[.pointer (some ⟨g, 0, none⟩), .int .i64 l.length]).run Tryd.prog w.drew = .ok (.string ⟨l.toArray⟩) (w.drew.freeze ⟨g, 0, none⟩ l.length) :=
    Lib.run_unsafeString_row w.drew 91 3 9 5 Tryd.underlying91 (by kernel_rfl) g cells hsh l h0 hn h63 hcell
  go_enter Tryd.func34, Tryd.ntmps34
  go_wp2
  have hmx : Tryd.prog.follows Departure.mixedOrders = true := mixed
  go_region_o
  all_goals (go_wp2; go_ret; exact ⟨rfl, rfl⟩)

set_option maxHeartbeats 1000000 in
theorem bs_nil (b : Nat) (w : World) (hc1 : w.cell? ⟨b, 1, none⟩ = some (.slice none 0 0)) :
    Calls Tryd.prog 34 #[.pointer (some ⟨b, 0, none⟩)] w fun e w' => e = .returned (.string ⟨#[]⟩) ∧ w' = w.drew := by
  have c1 : w.drew.cell? ⟨b, 1, none⟩ = some (.slice none 0 0) := hc1
  have hSD : (Builtin.unsafeSliceData_ #[47] 91 #[.slice none 0 0]).run Tryd.prog w.drew = .ok (.pointer none) w.drew := rfl
  have hUS : (Builtin.unsafeString_ #[91, 3] 9 #[.pointer none, .int .i64 0]).run Tryd.prog w.drew = .ok (.string .empty) w.drew := rfl
  go_enter Tryd.func34, Tryd.ntmps34
  go_wp2
  have hmx : Tryd.prog.follows Departure.mixedOrders = true := mixed
  go_region_o
  all_goals (go_wp2; go_ret; exact ⟨rfl, rfl⟩)

/-- What a builder holds; the builder is forgotten. -/
theorem c_bString (w₀ : World) (h : AHeap) (k : Nat) (rest : List AVal) (st : Bld) (T : TypeId) (hk : h k = none) (ht : tyOf k = some T) (hst : st.ok 5 h k) (hl : st.bytes.length ≤ 140737488355328) :
    ACall Tryd.prog w₀ 34 [.ptr (.own k) 0] (bldH h k rest st) (fun v h' => v = .str st.bytes ∧ h' = h) := by
  intro φ vals w hr hvs
  simp only [VRs, VR] at hvs
  obtain ⟨v, vs', rfl, ⟨a, ha, rfl⟩, rfl⟩ := hvs
  obtain ⟨p, hp, hp0, ok⟩ := hr.own k _ (bldH_head hst)
  obtain ⟨t0, cs0, fr0, hcs0⟩ := hr.typ k p hp T ht
  simp only [locAddr, hp, Option.map_some, Option.some.injEq] at ha
  obtain ⟨c1, hc1, hv1⟩ := ok.cell 1 (by simp) (Bld.slice_live _)
  rw [t0] at hc1 ha
  simp only [Nat.zero_add] at hc1 ha
  subst ha
  simp only [List.getD_cons_succ, List.getD_cons_zero] at hv1
  refine .inl ⟨_, Tryd.func34, rfl, rfl, ?_⟩
  cases hb : st.buf with
  | none =>
    have e1 := Bld.slice_nil hb
    have e2 := Bld.bytes_nil hb
    rw [e1] at hv1
    simp only [VR] at hv1
    subst hv1
    rw [e2]
    refine (bs_nil p.blk w hc1).mono fun e w' ⟨e1, e2⟩ => ⟨_, e1, φ, .str [], h, φ.le_refl, ?_, rfl, rfl, rfl⟩
    rw [e2]
    exact hr.drew.forget (Sub.bldH hk hst)
  | some q =>
    obtain ⟨kb, l⟩ := q
    have e1 := Bld.slice_some hb
    have e2 := Bld.bytes_some hb
    obtain ⟨s1, s2, s3, s4⟩ := (Bld.ok_some hb).1 hst
    have hkb := bldH_buf (h := h) (k := k) (rest := rest) hb
    obtain ⟨pb, hpb, hpb0, okb⟩ := hr.own kb _ hkb
    obtain ⟨tb0, csb, frb, hcsb⟩ := hr.typ kb pb hpb _ s3
    obtain ⟨cs, e, lo, hi, h1, h2, h3, h4, h5, h6⟩ := okb.row (Nat.zero_le _)
    rw [hcsb] at h1
    cases h1
    rw [byteCells_length] at h3
    rw [e1] at hv1
    simp only [VR] at hv1
    obtain ⟨k', p', c, a, hk', hp', rfl, hle, hca⟩ := hv1
    cases hk'
    rw [hpb] at hp'
    cases hp'
    have hln : l.length ≠ 0 := by simpa using s4
    obtain ⟨ha, hroom⟩ := hca (by omega)
    subst ha
    rw [tb0] at hc1
    rw [e2]
    rw [e2] at hl
    refine (bs_some p.blk pb.blk c csb.size l s4 w hc1 (by omega) (by simp [World.shape?, hcsb]) (by omega) (by omega) fun j x hj => ?_).mono fun e w' ⟨f1, f2⟩ => ⟨_, f1, φ, .str l, h, φ.le_refl, ?_, rfl, rfl, rfl⟩
    · have hjl : j < l.length := by
        rcases Nat.lt_or_ge j l.length with hx | hx
        · exact hx
        · rw [List.getElem?_eq_none hx] at hj; cases hj
      obtain ⟨cj, hcj, hvj⟩ := okb.cell j (by rw [byteCells_length]; exact hjl) (by rw [byteCells_getD hjl]; rfl)
      rw [tb0, Nat.zero_add] at hcj
      simp only [byteCells_getD hjl] at hvj
      simp only [VR] at hvj
      subst hvj
      have ex : l.getD j 0 = x := by rw [List.getD, hj]; rfl
      rw [ex] at hcj
      have e8 : (⟨pb.blk, 0, none⟩ : Addr).add j = ⟨pb.blk, j, none⟩ := by
        unfold Addr.add
        by_cases hi : j = 0 <;> simp [hi]
      rw [e8]
      exact hcj
    · subst f2
      obtain ⟨z1, z2, z3, z4, z5, z6⟩ := freeze_facts w.drew ⟨pb.blk, 0, none⟩ l.length
      exact hr.drew.dropRow hkb hpb z1 z2 z3 z4 z5 z6 fun j c hj => ⟨Sub.bldH hk hst j c hj, fun e => by subst e; rw [s2] at hj; cases hj⟩
end Go.Proofs.YtgnebodlkfblcaaDoor

/-
  Contracts of strings.Builder's writing methods.
  Conditions: none.
-/
namespace Go.Proofs.YtgnebodlkfblcaaDoor
open Go.AM
open Go.Proofs
set_option maxRecDepth 100000

theorem u8_typ : (5 : Nat) < 4096 := by decide
theorem c_WriteString (w₀ : World) (h : AHeap) (k : Nat) (rest : List AVal) (st : Bld) (T : TypeId) (hT : BldT T (rest.length + 2)) (ht : tyOf k = some T) (hk : h k = none) (hst : st.ok 5 h k) (c : List UInt8) (hl : st.bytes.length + c.length ≤ 140737488355328) :
    ACall Tryd.prog w₀ 32 [.ptr (.own k) 0, .str c] (bldH h k rest st) (fun v h' => v = .tuple [.int .i64 c.length, .nilIface] ∧ ∃ st' : Bld, st'.ok 5 h k ∧ st'.bytes = st.bytes ++ c ∧ h' = bldH h k rest st') := by
  have hst2 : (⟨true, st.buf⟩ : Bld).ok 5 h k := hst
  have hhead := bldH_head (rest := rest) hst2
  refine acall_intro (n := 19) (rs := [.tmp 4, .tmp 5]) Tryd.func32 rfl rfl rfl rfl (Nat.le_of_ble_eq_true rfl) ?_
  simp only [initSlots]
  -- region 0  builder.go:112
  refine awp_rseq [0, 1] (by rfl) fun K hK => ?_
  simp (decide := true) only [aOps_nil, ev, absV, absS, putD, Slots.put, Slots.keep, if_true, if_false, true_and, ↓ap_assign, pop_assign]
  apply hK; clear hK K
  -- region 1  builder.go:113
  refine awp_rseq [0, 1] (by rfl) fun K hK => ?_
  simp (decide := true) only [ev, putD, Slots.put, Slots.get, if_true, if_false, true_and, ↓ap_move, pop_move]
  refine aOps_call (by rfl) (by rfl) (c_copyCheck w₀ h k rest st T hT ht hst) fun x1q1 h1q1 hx1q1 => ?_
  obtain ⟨rfl, rfl⟩ := hx1q1
  simp (decide := true) only [aOps_nil, putD, Slots.put, Slots.keep, if_true, if_false]
  apply hK; clear hK K
  -- region 2  builder.go:114
  refine awp_rseq [1] (by rfl) fun K hK => ?_
  simp (decide := true) only [ev, putD, Slots.put, Slots.get, if_true, if_false, true_and, ↓ap_move, pop_move, ↓ap_nilCheck, pop_nilCheck, pNil_ptr, ↓ap_fieldAddr, pop_fieldAddr, fa80_1, ↓ap_loadL, apL_mk, pLoad_one ag47, Bld.slice_live, List.getD_cons_zero, List.getD_cons_succ, rd_own w₀ hhead]
  refine aOps_appendBld (src := c) (h₀ := h) (k := k) (cs := rest) (st := ⟨true, st.buf⟩) (by rfl) (by rfl) Tryd.underlying47 Tryd.underlying9 (by intro k e; cases e) sz5 by5 ze5 u8_typ (by rfl) hk hst2 (Sub.refl _) (by rfl) (SrcB.str _ _ _) (by simpa [Bld.bytes] using hl) fun st' hu' hst' hb' h' hk' hsub => ?_
  simp (decide := true) only [ev, putD, Slots.put, Slots.get, if_true, if_false, true_and, ↓ap_nilCheck, pop_nilCheck, pNil_ptr, ↓ap_fieldAddr, pop_fieldAddr, fa80_1]
  refine aOps_store (by rfl) (by rfl) hk' sz47 (Bld.slice_live _) (by rw [Bld.slice_cells]; rfl) (by simp) (Nat.zero_le _) (by rw [Bld.slice_cells]; simp [allScal, Bld.slice_scal]) ?_
  rw [Bld.slice_cells]
  simp only [setAt, List.set_cons_succ, List.set_cons_zero]
  have hhd : st'.head k = (⟨true, st.buf⟩ : Bld).head k := by unfold Bld.head; rw [hu']
  rw [hhd] at hsub
  simp (decide := true) only [aOps_nil, putD, Slots.keep, if_true, if_false]
  apply hK; clear hK K
  -- region 3  builder.go:115
  refine awp_rseq [4, 5] (by rfl) fun K hK => ?_
  simp (decide := true) only [aOps_nil, ev, absV, absS, putD, Slots.put, Slots.get, Slots.keep, if_true, if_false, true_and, ↓ap_move, pop_move, ↓ap_len, pop_len, pLen_str Tryd.underlying9, ↓ap_assign, pop_assign]
  apply hK; clear hK K
  refine awp_ret ?_
  refine retA_ret (bldH h k rest st') hsub (resPre_tmp (resPre_tmp (resPre_nil))) ?_
  simp (decide := true) only [Slots.get, if_true, if_false, true_and, resOf_two]
  exact ⟨st', hst', hb', rfl⟩
end Go.Proofs.YtgnebodlkfblcaaDoor

/-
  Contracts: the key of a path.
  Conditions: none.
-/
namespace Go.Proofs.YtgnebodlkfblcaaDoor
open Go.AM
open Go.Proofs
open Go.Col
open Go.Prs
open Go.RowKit (Below)
set_option maxRecDepth 100000

/-- Go's table of the powers of ten lies as its initialiser lays it. -/
abbrev Tab10 (w : World) : Prop := Lib.TabIs Tryd.prog w "internal/strconv.uint64pow10" .u64 Lib.pow10Tab
theorem Tab10.later {w w' : World} (h : Tab10 w) (hb : Go.RowKit.Below w.heap.size w w') : Tab10 w' := Go.Joins.tab_stays (g := 0) (by kernel_rfl) h hb (Nat.le_refl _)
theorem c_itoa (w₀ : World) (ht : Tab10 w₀) (h : AHeap) (n : Nat) (h1 : n ≤ 9223372036854775807) :
    ACall Tryd.prog w₀ 33 [.int .i64 n] h (fun v h' => v = .str (Lib.itoa n) ∧ h' = h) := by
  refine acall_of_callsB (vals := [.int .i64 n]) (val := .string ⟨(Lib.itoa n).toArray⟩) Tryd.func33 rfl rfl (fun φ vs hv => VRs_i hv) (fun φ => rfl) fun w hb => ?_
  refine (Tryd.strconv_Itoa n (by omega) (by omega) w (ht.later hb)).mono fun e w' ⟨e1, k, os, e2⟩ => ⟨e1, ?_⟩
  subst e2
  exact Go.Lib.below_grow _ w (Nat.le_refl _) k os
theorem c_itoaN (w₀ : World) (ht : Tab10 w₀) (h : AHeap) (n : Nat) (h1 : n ≤ 9223372036854775807) :
    ACall Tryd.prog w₀ 33 [.int .i64 n] h (fun v h' => v = .str (digs n) ∧ h' = h) := (c_itoa w₀ ht h n h1).val (by rw [Lib.itoa_nonneg]; rfl)
theorem bldT_selfK : BldT 80 ([] : List AVal).length.succ.succ := ⟨by kernel_rfl, by kernel_rfl, by decide⟩
theorem key_drop {p : List Str} {i : Nat} (hi : i < p.length) : keyE (p.drop i) = (digs (p.getD i []).length ++ [58] ++ p.getD i []) ++ keyE (p.drop (i + 1)) := by
  rw [List.drop_eq_getElem_cons hi, keyE, partE]
  simp [List.getD, hi]
theorem path_len {w₀ : World} {h : AHeap} {v : AVal} {p : List Str} (hv : IsL w₀ h 1 v (p.map strC)) : ∀ H : AHeap, pLenH Tryd.prog H 48 v = ⟨True, .int .i64 p.length⟩ := by
  have := hv.len Tryd.underlying48
  rwa [List.length_map] at this
theorem path_open {w₀ : World} {h : AHeap} {v : AVal} {p : List Str} (hv : IsL w₀ h 1 v (p.map strC)) (hn : 0 < p.length) : ∃ lc o c, v = .slice lc o p.length c := by
  obtain ⟨lc, o, c, e⟩ := hv.open (fun e => by rw [List.map_eq_nil_iff] at e; subst e; simp at hn)
  rw [List.length_map] at e
  exact ⟨lc, o, c, e⟩
theorem path_at {w₀ : World} {h : AHeap} {p : List Str} {lc : AM.Loc} {o : Nat} {c : Cap} (hv : IsL w₀ h 1 (.slice lc o p.length c) (p.map strC)) {i : Nat} (hi : i < p.length) : rd w₀ h lc (o + i * 1) = .str (p.getD i []) := by
  have := hv.at0 (i := i) (by rw [List.length_map]; exact hi) (by decide)
  rwa [getD_map (ys := p) [] hi] at this
set_option maxHeartbeats 1000000 in
theorem c_key (w₀ : World) (ht10 : Tab10 w₀) (h : AHeap) (v : AVal) (p : List Str) (hv : IsL w₀ h 1 v (p.map strC)) (hp : p.length ≤ 1099511627776) (hk : (keyE p).length ≤ 140737488355328) :
    ACall Tryd.prog w₀ 24 [v] h (fun r h' => r = .str (keyE p) ∧ h' = h) := by
  have hlv := hv.live
  have nv := path_len hv
  refine acall_intro (n := 21) (rs := [.tmp 2]) Tryd.func24 rfl rfl rfl rfl (Nat.le_of_ble_eq_true rfl) ?_
  simp only [initSlots]
  -- region 0  pairs.go:77
  refine awp_rseq [0] (by rfl) fun K hK => ?_
  simp (decide := true) only [aOps_nil, ev, absV, absS, putD, Slots.put, Slots.keep, if_true, if_false, true_and, ↓ap_assign, pop_assign]
  apply hK; clear hK K
  -- region 1  pairs.go:78
  refine awp_aseqT [0, 3] (by decide) (by decide) ze80 (cs := [.nilPtr, .nilSlice]) (by rfl) fun k1q0 hk1q0 ht1q0 => ?_
  simp (decide := true) only [Slots.put, Slots.keep, if_true, if_false]
  try have hf_1q0 : h k1q0 = none := by first | assumption | (simp only [AHeap.set_none] at hk1q0; simp only [hk1q0])
  refine awp_seq ?_
  -- region 2  pairs.go:79
  refine awp_rseq [3, 6, 7, 8] (by rfl) fun K hK => ?_
  simp (decide := true) only [aOps_nil, ev, absV, absS, putD, Slots.put, Slots.get, Slots.keep, if_true, if_false, true_and, ↓ap_move, pop_move, ↓ap_len, pop_len, nv]
  apply hK; clear hK K
  refine awp_block ?_
  refine awp_loopG [3, 6, 7, 8] (fun g : Nat × Bld => [(3, .ptr (.own k1q0) 0), (6, v), (7, .int .i64 p.length), (8, .int .i64 g.1)]) (fun g : Nat × Bld => bldH h k1q0 [] g.2) (fun g : Nat × Bld => g.1 ≤ p.length ∧ g.2.ok 5 h k1q0 ∧ g.2.bytes ++ keyE (p.drop g.1) = keyE p) (fun g : Nat × Bld => p.length - g.1) (0, Bld.none) (by rfl) (Sub.refl _) ⟨Nat.zero_le _, Bld.none_ok, rfl⟩ ?_
  rintro ⟨i, st⟩ ⟨hi, hst, hgo⟩
  simp only at hi hst hgo ⊢
  have hsb := Sub.bldH (rest := []) hk1q0 hst
  -- region 3  pairs.go:79
  refine awp_rseq [3, 6, 7, 8, 9] (by rfl) fun K hK => ?_
  simp (decide := true) only [aOps_nil, ev, putD, Slots.put, Slots.get, Slots.keep, if_true, if_false, true_and, ↓ap_binOp, pop_binOp, isNilC_tmp, cond_false, pBinX_int, pI_lss]
  apply hK; clear hK K
  refine awp_seq (awp_cond (b := _) rfl (fun hb1 => ?_) (fun hb1 => ?_))
  · try simp only [decide_eq_true_eq] at hb1
    have hi' : i < p.length := by omega
    obtain ⟨lc, o, cp, rfl⟩ := path_open hv (by omega)
    have hrd := path_at (hv.mono hsb) hi'
    obtain ⟨s, hs⟩ : ∃ s, s = p.getD i [] := ⟨_, rfl⟩
    rw [key_drop hi'] at hgo
    rw [← hs] at hgo hrd
    have hlen : st.bytes.length + (digs s.length ++ [58] ++ s).length ≤ 140737488355328 := by
      rw [← hgo] at hk
      simp only [List.length_append] at hk ⊢
      omega
    have hsl : s.length ≤ 140737488355328 := by
      simp only [List.length_append] at hlen
      omega
    have hl2 := hlen
    simp only [List.length_append, List.length_cons, List.length_nil] at hl2
    refine awp_skip ?_
    change Awp _ _ _ _ _ _ _
    refine awp_seq ?_
    refine awp_block ?_
    -- region 4  pairs.go:79
    refine awp_rseq [3, 5, 6, 7, 8] (by rfl) fun K hK => ?_
    simp (decide := true) only [aOps_nil, ev, putD, Slots.put, Slots.get, Slots.keep, if_true, if_false, true_and, ↓ap_indexAddrL, apL_mk, pIndexAddr_slice Tryd.underlying48 sz9, ↓ap_loadL, pLoad_one ag9, ↓ap_assign, pop_assign, lv_str, hrd, Int.toNat_natCast]
    repeat (with_reducible refine And.intro ?_ ?_; · first | trivial | omega | (intro hg; simp only [Bool.and_eq_true, Bool.or_eq_true, Bool.not_eq_true', Bool.and_eq_false_iff, Bool.or_eq_false_iff, Bool.not_eq_false', decide_eq_true_eq, decide_eq_false_iff_not, eqNil] at hg; omega) | (simp only [List.length_append, List.length_map, List.length_range, List.length_replicate, List.length_take, List.length_drop, List.length_cons, List.length_nil, List.length_set, List.length_reverse]; omega))
    apply hK; clear hK K
    -- region 5  pairs.go:80
    refine awp_r [3, 6, 7, 8] (by rfl) ?_
    simp (decide := true) only [ev, putD, Slots.put, Slots.get, if_true, if_false, true_and, ↓ap_move, pop_move, ↓ap_len, pop_len, pLen_str Tryd.underlying9]
    refine aOps_callV (V := .str (digs s.length)) (by rfl) (by rfl) (c_itoaN w₀ ht10 _ s.length (by omega)) ?_
    simp (decide := true) only [ev, absV, absS, putD, Slots.put, Slots.get, if_true, if_false, true_and, ↓ap_binOp, pop_binOp, isNilC_str, cond_false, pBinX_str, pS_add, ↓ap_move, pop_move, isNilC_tmp]
    repeat (with_reducible refine And.intro ?_ ?_; · first | trivial | omega | (intro hg; simp only [Bool.and_eq_true, Bool.or_eq_true, Bool.not_eq_true', Bool.and_eq_false_iff, Bool.or_eq_false_iff, Bool.not_eq_false', decide_eq_true_eq, decide_eq_false_iff_not, eqNil] at hg; omega) | (simp only [List.length_append, List.length_cons, List.length_nil]; omega))
    refine aOps_call (by rfl) (by rfl) (c_WriteString w₀ h k1q0 [] st _ bldT_selfK ht1q0 hk1q0 hst (digs s.length ++ [58] ++ s) hlen) fun x5q6 h5q6 hx5q6 => ?_
    obtain ⟨hv5, st', hst', hbt', hh5⟩ := hx5q6
    rw [hh5]
    simp (decide := true) only [aOps_nil, putD, Slots.put, Slots.keep, if_true, if_false]
    change Awp _ _ _ _ _ _ _
    -- region 6  pairs.go:79
    refine awp_r [3, 6, 7, 8] (by rfl) ?_
    simp (decide := true) only [aOps_nil, ev, absV, absS, putD, Slots.put, Slots.get, Slots.keep, if_true, if_false, true_and, ↓ap_binOp, pop_binOp, isNilC_int, cond_false, pBinX_int, pI_add, ↓ap_move, pop_move]
    try simp (disch := omega) only [wrap_i64]
    try simp only [thenA_normal]
    refine ⟨(i + 1, st'), rfl, Sub.refl _, ⟨by simp only; omega, hst', ?_⟩, by simp only; omega⟩
    simp only
    rw [hbt', List.append_assoc]
    exact hgo
  · try simp only [decide_eq_false_iff_not] at hb1
    have hie : i = p.length := by omega
    rw [hie, List.drop_length, keyE, List.append_nil] at hgo
    refine awp_exit ?_
    change Awp _ _ _ _ _ _ _
    -- region 7  pairs.go:82
    refine awp_rseq [2] (by rfl) fun K hK => ?_
    refine aOps_call (by rfl) (by rfl) (c_bString w₀ h k1q0 [] st _ hk1q0 ht1q0 hst (by rw [hgo]; exact hk)) fun x7q0 h7q0 hx7q0 => ?_
    obtain ⟨hv7, hh7⟩ := hx7q0
    rw [hv7, hh7]
    simp (decide := true) only [aOps_nil, ev, putD, Slots.put, Slots.get, Slots.keep, if_true, if_false, true_and, ↓ap_assign, pop_assign]
    apply hK; clear hK K
    refine awp_ret ?_
    refine retA_ret h (by repeat (first | exact Sub.refl _ | assumption | refine Sub.trans_set ?_ (by assumption))) (resPre_tmp (resPre_nil)) ?_
    simp (decide := true) only [Slots.get, if_true, and_true, resOf_one]
    rw [hgo]
end Go.Proofs.YtgnebodlkfblcaaDoor

/-
  A row of pairs of numbers in the layer's heap and in the kit's words for the sort; the world behind a sort.
  Conditions: none. Nothing here is about a particular program.
-/
namespace Go.AM
open Go.Sort Go.Proofs
open Go.RowKit (Below)

def encP (x : Int × Int) : List Value := [.int .i64 x.1, .int .i64 x.2]
def cellsP (ps : List (Int × Int)) : List AVal := (ps.map fun x => [AVal.int .i64 x.1, AVal.int .i64 x.2]).flatten
theorem cellsP_len (ps : List (Int × Int)) : (cellsP ps).length = ps.length * 2 := by
  rw [cellsP, flatten_len (es := 2) (by intro x hx; obtain ⟨_, _, rfl⟩ := List.mem_map.1 hx; rfl), List.length_map]
theorem valsP {φ : PMap} : ∀ {ps : List (Int × Int)} {vs : List Value}, VRs φ (cellsP ps) vs ↔ vs = (ps.map encP).flatten
  | [], vs => by simp [cellsP, VRs]
  | x :: ps, vs => by
    have e : cellsP (x :: ps) = .int .i64 x.1 :: .int .i64 x.2 :: cellsP ps := rfl
    rw [e]
    simp only [VRs, VR, List.map_cons, List.flatten_cons, encP, List.cons_append, List.nil_append]
    constructor
    · rintro ⟨v, vs1, rfl, rfl, v2, vs2, rfl, rfl, h⟩
      rw [valsP.1 h]
    · rintro rfl
      exact ⟨_, _, rfl, rfl, _, _, rfl, rfl, valsP.2 rfl⟩
theorem flatP (ps : List (Int × Int)) : (flatK encP 2 ps.toArray).toList = (ps.map encP).flatten := by
  have hw : ∀ x ∈ ps.map encP, x.length = 2 := by
    intro x hx
    obtain ⟨_, _, rfl⟩ := List.mem_map.1 hx
    rfl
  have hl : (ps.map encP).flatten.length = ps.length * 2 := by rw [flatten_len hw, List.length_map]
  refine List.ext_getElem? fun t => ?_
  by_cases ht : t < ps.length * 2
  · have h1 := get_flatK encP 2 ps.toArray t (by simpa using ht)
    rw [Array.getElem?_toList, Array.getElem?_eq_getElem (by simpa using ht), ← getElem!_pos (flatK encP 2 ps.toArray) t (by simpa using ht), h1]
    have hd : t / 2 < ps.length := by omega
    have hm := Nat.mod_lt t (by decide : 2 > 0)
    have h2 := flatten_get hw (i := t / 2) (j := t % 2) (by rw [List.length_map]; exact hd) hm
    rw [show t / 2 * 2 + t % 2 = t by omega] at h2
    rw [h2]
    have e : (ps.toArray)[t / 2]! = ps[t / 2] := by simp [hd]
    rw [e, List.getD_eq_getElem?_getD, List.getElem?_map, List.getElem?_eq_getElem hd]
    simp only [Option.map_some, Option.getD_some]
    have hlen : (encP ps[t / 2]).length = 2 := rfl
    rw [List.getElem?_eq_getElem (by omega), getElem!_pos (encP ps[t / 2]) (t % 2) (by omega)]
  · rw [List.getElem?_eq_none (l := (flatK encP 2 ps.toArray).toList) (by rw [Array.length_toList, size_flatK]; simp; omega), List.getElem?_eq_none (by omega)]

/-- The row of a block of pairs, in the kit's words. -/
theorem holdsP {w₀ w : World} {φ : PMap} {h : AHeap} (hr : HRel w₀ φ h w) {k : Nat} {ps : List (Int × Int)} {p : Place} (hk : h k = some ⟨cellsP ps, 0⟩) (hp : φ k = some p) : HoldsK encP 2 w p.blk p.off ps.toArray ∧ p.blk < w.heap.size := by
  obtain ⟨q, hq, hq1, ok⟩ := hr.own k _ hk
  have hpq : q = p := by rw [hp] at hq; exact (Option.some.inj hq).symm
  subst hpq
  obtain ⟨cs, e, lo, hi, h1, h2, h3, h4, h5, h6⟩ := ok.row (Nat.zero_le _)
  refine ⟨fun j hj => ?_, hr.lt k q hp⟩
  have hv := valsP.1 h5
  rw [← flatP] at hv
  rw [cellsP_len] at h3
  have hj2 : j < ps.length * 2 := by simpa using hj
  have hg : cs[q.off + j]? = some ((flatK encP 2 ps.toArray)[j]!) := by
    have := congrArg (fun l : List Value => l[j]?) hv
    simp only at this
    rw [cellsP_len, List.getElem?_take, if_pos hj2, List.getElem?_drop, Array.getElem?_toList, Array.getElem?_toList, Array.getElem?_eq_getElem (xs := flatK encP 2 ps.toArray) hj] at this
    rw [this, getElem!_pos (flatK encP 2 ps.toArray) j hj]
  constructor
  · unfold World.cell?
    simp only [h1]
    exact hg
  · unfold World.frozen?
    simp only [h1]
    have hc := h6.2 (q.off + j)
    cases hd : (decide (lo ≤ q.off + j) && decide (q.off + j < hi)) with
    | false => rfl
    | true =>
      simp only [Bool.and_eq_true, decide_eq_true_eq] at hd
      rcases hc hd.1 hd.2 with ⟨h, _⟩ | h
      · simp at h
      · omega

/-- Behind the sort: the block holds the other pairs. -/
theorem sortedP {w₀ w : World} {φ : PMap} {h : AHeap} (hr : HRel w₀ φ h w) {k : Nat} {ps qs : List (Int × Int)} {p : Place} (hk : h k = some ⟨cellsP ps, 0⟩) (hp : φ k = some p) (hl : qs.length = ps.length) (n : Nat) (os : Array Obj) :
    HRel w₀ φ (h.set k ⟨cellsP qs, 0⟩) (sortWorldK encP 2 w p.blk p.off n qs.toArray os) := by
  have hr1 : HRel w₀ φ h (Sort.ahead w n) := hr.later ⟨rfl, rfl, rfl, Nat.le_refl _, fun _ _ => rfl⟩
  obtain ⟨q, hq, hq1, ok⟩ := hr1.own k _ hk
  have hpq : q = p := by rw [hp] at hq; exact (Option.some.inj hq).symm
  subst hpq
  obtain ⟨cs, e, lo, hi, h1, h2, h3, h4, h5, h6⟩ := ok.row (Nat.zero_le _)
  rw [cellsP_len] at h3
  have hput : (putRowK encP 2 (Sort.ahead w n) q.blk q.off qs.toArray).heap[q.blk]? = some (.cells (putCells id q.off (flatK encP 2 qs.toArray) cs) e (lo, hi)) := by
    unfold putRowK putRow mapBlock
    rw [Array.getElem?_modify, if_pos rfl, h1]
    rfl
  have hw : HRel w₀ φ (h.set k ⟨cellsP qs, 0⟩) (putRowK encP 2 (Sort.ahead w n) q.blk q.off qs.toArray) := by
    refine hr1.write k _ _ q hk hp ?_ rfl rfl rfl ?_ ?_ ?_
    · simp [putRowK, putRow, mapBlock]
    · intro i hi
      unfold putRowK putRow mapBlock
      rw [Array.getElem?_modify, if_neg (fun e => hi e.symm)]
    · intro cs' e' fr' hcs
      rw [h1] at hcs
      simp only [Option.some.injEq, Obj.cells.injEq] at hcs
      obtain ⟨rfl, rfl, rfl⟩ := hcs
      exact ⟨_, _, hput⟩
    · refine .inl ⟨⟨_, e, lo, hi, hput, ?_, ?_, Nat.zero_le _, ?_, h6.1, fun i g1 g2 => ?_⟩⟩
      · rw [h2]; simp [putCells]
      · simp only; rw [cellsP_len]; omega
      · simp only
        refine valsP.2 ?_
        rw [← flatP]
        refine List.ext_getElem? fun j => ?_
        rw [cellsP_len, List.getElem?_take]
        by_cases hj : j < qs.length * 2
        · rw [if_pos hj, List.getElem?_drop, Array.getElem?_toList, Array.getElem?_toList, putCells, Array.getElem?_mapIdx, Array.getElem?_eq_getElem (by omega), Option.map_some, if_pos (by simp; omega)]
          rw [Array.getElem?_eq_getElem (by simpa using hj), show q.off + j - q.off = j by omega, getElem!_pos (flatK encP 2 qs.toArray) j (by simpa using hj)]
          rfl
        · rw [if_neg hj, Array.getElem?_toList, Array.getElem?_eq_none (by simp; omega)]
      · rcases h6.2 i g1 g2 with ⟨g, _⟩ | g
        · simp at g
        · exact .inr (by simpa [putCells] using g)
  unfold sortWorldK
  refine hw.later ⟨rfl, rfl, rfl, by simp [grow], fun i hi => ?_⟩
  unfold grow
  rw [Array.getElem?_append_left hi]
end Go.AM

/-
  Contracts: the sort of pairs.
  Conditions: none.
-/
namespace Go.Proofs
open Go.Shelf Go.RowKit Go.Lib Go.Sort
namespace YtgnebodlkfblcaaDoor
set_option maxRecDepth 100000

theorem cc_or (b : Nat) (x y : Int) (w : World) (h0 : w.cell? ⟨b, 0, none⟩ = some (.int .i64 x)) (h1 : w.cell? ⟨b, 1, none⟩ = some (.int .i64 y)) :
    Calls Tryd.prog 27 #[.slice (some ⟨b, 0, none⟩) 2 2] w fun e w' => e = .returned (.int .i64 (if x ≠ 0 then x else y)) ∧ w' = w := by
  by_cases hx : x = 0
  · subst hx
    rw [if_neg (by simp)]
    by_cases hy : y = 0
    · subst hy
      go_enter Tryd.func27, Tryd.ntmps27
      go_wp2
      refine wp_loop_rounds 3 ?_
      rw [rounds_succ]
      go_wp2
      rw [rounds_succ]
      go_wp2
      rw [rounds_succ]
      go_wp2
      go_ret
      exact ⟨rfl, rfl⟩
    · have hy' : (y != 0) = true := by simpa using hy
      go_enter Tryd.func27, Tryd.ntmps27
      go_wp2
      refine wp_loop_rounds 3 ?_
      rw [rounds_succ]
      go_wp2
      rw [rounds_succ]
      go_wp2
      go_ret
      exact ⟨rfl, rfl⟩
  · rw [if_pos hx]
    have hx' : (x != 0) = true := by simpa using hx
    go_enter Tryd.func27, Tryd.ntmps27
    go_wp2
    refine wp_loop_rounds 3 ?_
    rw [rounds_succ]
    go_wp2
    go_ret
    exact ⟨rfl, rfl⟩

set_option maxHeartbeats 1000000 in
theorem cc_cmp (x y : Int × Int) (W : World) : Calls Tryd.prog 26 #[.agg #[.int .i64 x.1, .int .i64 x.2], .agg #[.int .i64 y.1, .int .i64 y.2]] W fun e w' => e = .returned (.int .i64 (if Lib.compareInt x.1 y.1 ≠ 0 then Lib.compareInt x.1 y.1 else Lib.compareInt x.2 y.2)) ∧ ∃ q os', w' = grow (W.drewN q) os' := by
  have hc1 := fun W' => Tryd.cmp_Compare_int x.1 y.1 W'
  have hc2 := fun W' => Tryd.cmp_Compare_int x.2 y.2 W'
  have hor := fun b w h0 h1 => cc_or b (Lib.compareInt x.1 y.1) (Lib.compareInt x.2 y.2) w h0 h1
  generalize Lib.compareInt x.1 y.1 = r at hc1 hor ⊢
  generalize Lib.compareInt x.2 y.2 = s at hc2 hor ⊢
  generalize (if r ≠ 0 then r else s) = t at hor ⊢
  go_enter Tryd.func26, Tryd.ntmps26
  go_wp2
  obtain ⟨W1, hW1⟩ : ∃ W1, W1 = (W.alloc (Obj.cells #[Value.int IntKind.i64 x.1, Value.int IntKind.i64 x.2] 37)).alloc (Obj.cells #[Value.int IntKind.i64 y.1, Value.int IntKind.i64 y.2] 37) := ⟨_, rfl⟩
  rw [← hW1]
  have c0 : (World.drew W1).cell? ⟨W.heap.size, 0, none⟩ = some (.int .i64 x.1) := by rw [hW1]; exact World.cell?_alloc2_first _ _ _ 0
  have c1 : (World.drew W1).cell? ⟨W.heap.size, 1, none⟩ = some (.int .i64 x.2) := by rw [hW1]; exact World.cell?_alloc2_first _ _ _ 1
  have c2 : (World.drew W1).cell? ⟨W.heap.size + 1, 0, none⟩ = some (.int .i64 y.1) := by rw [hW1]; exact World.cell?_alloc2_new _ _ _ 0
  have c3 : (World.drew W1).cell? ⟨W.heap.size + 1, 1, none⟩ = some (.int .i64 y.2) := by rw [hW1]; exact World.cell?_alloc2_new _ _ _ 1
  have hfin : ∀ o, ∃ q os', (World.drew W1).alloc o = grow (W.drewN q) os' := fun o => ⟨1, #[_, _] ++ #[o], by rw [hW1]; rfl⟩
  refine wp_region_still_tail 10 mixed (by kernel_rfl) ?_
  change wpStill _ _ (World.drew W1) (fun a' => wpList _ _ _ _ a' (World.drew W1)) _ _
  generalize World.drew W1 = w2 at *
  clear hW1
  simp only [List.take_succ_cons, List.take_zero, List.drop_succ_cons, List.drop_zero]
  still_step
  still_step
  still_step
  still_step
  still_call (hc1 _)
  still_step
  still_step
  still_step
  still_step
  still_call (hc2 _)
  refine wpStill_nil ?_
  go_wp2_with (go_at_call 27; refine (hor w2.heap.size _ ?_ ?_).mono ?_; exact World.cell?_alloc_at _ _ _ 0 rfl; exact World.cell?_alloc_at _ _ _ 1 rfl; rintro e w' ⟨rfl, rfl⟩)
  go_ret
  exact ⟨rfl, hfin _⟩
/-! ### The order of pairs -/
def cmpP (x y : Int × Int) : Int := if Lib.compareInt x.1 y.1 ≠ 0 then Lib.compareInt x.1 y.1 else Lib.compareInt x.2 y.2
theorem ltOf_cmpP (x y : Int × Int) : ltOf cmpP x y = true ↔ Go.Prs.ltP x y := by
  unfold ltOf cmpP Lib.compareInt Go.Prs.ltP
  by_cases h1 : x.1 < y.1
  · simp [h1]
  · by_cases h2 : y.1 < x.1
    · simp [h1, h2]
      omega
    · have e : x.1 = y.1 := by omega
      by_cases h3 : x.2 < y.2
      · simp [e, h3]
      · by_cases h4 : y.2 < x.2 <;> simp [e, h3, h4]
theorem ltOf_false (x y : Int × Int) : ltOf cmpP x y = false ↔ ¬ Go.Prs.ltP x y := by
  rw [← ltOf_cmpP]
  cases ltOf cmpP x y <;> simp
theorem swoP : SWO (ltOf cmpP) where
  irrefl x := by rw [ltOf_false]; exact Go.Prs.ltP_irr x
  trans x y z h1 h2 := by rw [ltOf_cmpP] at *; unfold Go.Prs.ltP at *; omega
  ntrans x y z h1 h2 := by rw [ltOf_false] at *; unfold Go.Prs.ltP at *; omega
end YtgnebodlkfblcaaDoor
end Go.Proofs
namespace Go.Proofs.YtgnebodlkfblcaaDoor
open Go.AM
open Go.Proofs
open Go.Col
open Go.Prs
open Go.RowKit (Below)

theorem perm_of {d d' : Array (Int × Int)} (h : Sort.PermIn 0 d.size d d') : d'.toList.Perm d.toList := by
  obtain ⟨h1, _, h3⟩ := h
  have e1 : d.extract 0 d.size = d := by simp
  have e2 : d'.extract 0 d.size = d' := by rw [← h1]; simp
  rwa [e1, e2] at h3
theorem pairwise_of {d' : Array (Int × Int)} {n : Nat} (hn : n = d'.size) (h : Sort.SortedIn (ltOf cmpP) 0 n d') : d'.toList.Pairwise fun x y => ltP x y ∨ x = y := by
  rw [List.pairwise_iff_getElem]
  intro i j hi hj hij
  have := h i j (Nat.zero_le _) hij (by simp at hj; omega)
  rw [ltOf_false] at this
  have e1 : d'[i]! = d'.toList[i] := by simp at hi; simp [hi]
  have e2 : d'[j]! = d'.toList[j] := by simp at hj; simp [hj]
  rw [e1, e2] at this
  generalize d'.toList[i] = x at *
  generalize d'.toList[j] = y at *
  obtain ⟨x1, x2⟩ := x
  obtain ⟨y1, y2⟩ := y
  unfold ltP at *
  simp only [Prod.mk.injEq] at *
  omega
theorem c_sort (w₀ : World) (h : AHeap) (k : Nat) (ps : List (Int × Int)) (hk : h k = some ⟨cellsP ps, 0⟩) (hne : ps ≠ []) (hl : ps.length < 4611686018427387904) :
    ACall Tryd.prog w₀ 25 [.slice (.own k) 0 ps.length (.grow 2), .func 26 []] h
      (fun r h' => r = .tuple [] ∧ ∃ qs, qs.Perm ps ∧ (qs.Pairwise fun x y => ltP x y ∨ x = y) ∧ h' = h.set k ⟨cellsP qs, 0⟩) := by
  intro φ vals w hr hvs
  simp only [VRs, VR] at hvs
  obtain ⟨v, vs', rfl, ⟨k', p, c, a, hk', hp, rfl, hle, hca⟩, v2, vs2, rfl, ⟨cs, rfl, rfl⟩, rfl⟩ := hvs
  cases hk'
  have h0 : 0 < ps.length := List.length_pos_iff.2 hne
  obtain ⟨ha, _⟩ := hca (by omega)
  subst ha
  obtain ⟨hH, hblk⟩ := holdsP hr hk hp
  have eg : ∀ args w, (callFunc 26 args).run Tryd.prog w = .ok (.enter 26 args) w := enters_of Tryd.func26 (by kernel_rfl) rfl
  have hcon := Tryd.slices_SortFunc 2 (fun _ => by kernel_rfl) (fun _ => by kernel_rfl) encP (fun _ => rfl) (fun x v hv => by simp [encP] at hv; rcases hv with rfl | rfl <;> rfl) cmpP swoP 26 #[] p.blk p.off c ps.toArray w eg (fun _ _ _ _ x y => cc_cmp x y _) hH hblk (by simpa using hl)
  refine .inl ⟨_, Tryd.func25, rfl, rfl, ?_⟩
  have es : ps.toArray.size = ps.length := by simp
  rw [es] at hcon
  refine hcon.mono fun e w' ⟨e1, d', n, os, hpm, hst, e2⟩ => ⟨_, e1, φ, .tuple [], h.set k ⟨cellsP d'.toList, 0⟩, φ.le_refl, ?_, ?_, rfl, d'.toList, ?_, ?_, rfl⟩
  · rw [e2]
    have := sortedP (qs := d'.toList) hr hk hp (by rw [← es] at hpm; have := (perm_of hpm).length_eq; simpa using this) n os
    simpa using this
  · simp only [VR]; exact ⟨[], rfl, by simp [VRs]⟩
  · rw [← es] at hpm
    exact perm_of hpm
  · exact pairwise_of (by have := hpm.1; simp at this; exact this.symm) hst

theorem c_len0 (w₀ : World) (h : AHeap) : ACall Tryd.prog w₀ 36 [.int .u64 0] h (fun v h' => v = .int .i64 0 ∧ h' = h) := by
  refine acall_of_calls (vals := [.int .u64 0]) (val := .int .i64 0) Tryd.func36 rfl rfl (fun φ vs hv => VRs_i hv) (fun φ => rfl) fun w => ?_
  refine (Tryd.bits_Len 0 w (by omega) (by omega)).mono fun e w' ⟨e1, e2⟩ => ⟨e1, ?_⟩
  subst e2; exact Go.RowKit.Below.refl _ _
theorem c_ins0 (w₀ : World) (h : AHeap) (f : AVal) : ACall Tryd.prog w₀ 40 [.nilSlice, .int .i64 0, .int .i64 0, f] h (fun v h' => v = .tuple [] ∧ h' = h) := by
  refine acall_intro (n := 53) (rs := []) Tryd.func40 rfl rfl rfl rfl (Nat.le_of_ble_eq_true rfl) ?_
  simp only [initSlots]
  -- region 0  zsortanyfunc.go:11
  refine awp_rseq [0, 1, 2, 3, 8] (by rfl) fun K hK => ?_
  simp (decide := true) only [aOps_nil, ev, absV, absS, putD, Slots.put, Slots.get, Slots.keep, if_true, if_false, true_and, ↓ap_move, pop_move, ↓ap_binOp, pop_binOp, isNilC_int, cond_false, pBinX_int, pI_add, ↓ap_assign, pop_assign, Nat.zero_add, Nat.reduceAdd]
  try simp (disch := omega) only [wrap_i64]
  apply hK; clear hK K
  refine awp_block ?_
  refine awp_loopG [0, 1, 2, 3, 8] (fun u : Unit => [(0, .nilSlice), (1, .int .i64 0), (2, .int .i64 0), (3, f), (8, .int .i64 1)]) (fun u : Unit => h) (fun u : Unit => True) (fun u : Unit => 0) () (by rfl) (Sub.refl _) trivial ?_
  rintro u hI
  refine awp_seq ?_
  -- region 1  zsortanyfunc.go:11
  refine awp_rseq [0, 1, 2, 3, 8, 14] (by rfl) fun K hK => ?_
  simp (decide := true) only [aOps_nil, ev, putD, Slots.put, Slots.get, Slots.keep, if_true, if_false, true_and, ↓ap_move, pop_move, ↓ap_binOp, pop_binOp, isNilC_tmp, cond_false, pBinX_int, pI_lss]
  apply hK; clear hK K
  refine awp_cond (b := _) rfl (fun hb1 => ?_) (fun hb1 => ?_)
  · exact absurd hb1 (by decide)
  · try simp only [decide_eq_false_iff_not] at hb1
    refine awp_exit ?_
    try simp only [thenA_exit, inBlockA_exit]
    refine retA_end h (by repeat (first | exact Sub.refl _ | assumption | refine Sub.trans_set ?_ (by assumption))) (resPre_nil) ?_
    simp (decide := true) only [and_true, resOf_nil]
    all_goals first | rfl | exact ⟨rfl, rfl⟩ | (simp (decide := true) only [if_true, if_false, *]; done) | (trace_state; fail)
theorem c_pdq0 (w₀ : World) (h : AHeap) (f : AVal) (n : Int) : ACall Tryd.prog w₀ 35 [.nilSlice, .int .i64 0, .int .i64 0, .int .i64 n, f] h (fun v h' => v = .tuple [] ∧ h' = h) := by
  refine acall_intro (n := 148) (rs := []) Tryd.func35 rfl rfl rfl rfl (Nat.le_of_ble_eq_true rfl) ?_
  simp only [initSlots]
  -- region 0  zsortanyfunc.go:65
  refine awp_rseq [0, 1, 2, 3, 4, 10] (by rfl) fun K hK => ?_
  simp (decide := true) only [aOps_nil, ev, absV, absS, putD, Slots.put, Slots.keep, if_true, if_false, true_and, ↓ap_assign, pop_assign, Nat.zero_add, Nat.reduceAdd]
  apply hK; clear hK K
  -- region 1  zsortanyfunc.go:66
  refine awp_rseq [0, 1, 2, 3, 4, 10, 11] (by rfl) fun K hK => ?_
  simp (decide := true) only [aOps_nil, ev, absV, absS, putD, Slots.put, Slots.keep, if_true, if_false, true_and, ↓ap_assign, pop_assign]
  apply hK; clear hK K
  refine awp_block ?_
  refine awp_loopG [0, 1, 2, 3, 4, 10, 11] (fun u : Unit => [(0, .nilSlice), (1, .int .i64 0), (2, .int .i64 0), (3, .int .i64 n), (4, f), (10, .bool true), (11, .bool true)]) (fun u : Unit => h) (fun u : Unit => True) (fun u : Unit => 0) () (by rfl) (Sub.refl _) trivial ?_
  rintro u hI
  refine awp_block ?_
  -- region 2  zsortanyfunc.go:70
  refine awp_rseq [0, 1, 2, 3, 4, 10, 11, 12] (by rfl) fun K hK => ?_
  simp (decide := true) only [aOps_nil, ev, putD, Slots.put, Slots.get, Slots.keep, if_true, if_false, true_and, ↓ap_move, pop_move, ↓ap_binOp, pop_binOp, isNilC_tmp, cond_false, pBinX_int, pI_sub, ↓ap_assign, pop_assign]
  try simp (disch := omega) only [wrap_i64]
  apply hK; clear hK K
  refine awp_seq ?_
  -- region 3  zsortanyfunc.go:72
  refine awp_rseq [0, 1, 2, 3, 4, 10, 11, 12, 25] (by rfl) fun K hK => ?_
  simp (decide := true) only [aOps_nil, ev, absV, absS, putD, Slots.put, Slots.get, Slots.keep, if_true, if_false, true_and, ↓ap_move, pop_move, ↓ap_binOp, pop_binOp, isNilC_int, cond_false, pBinX_int, pI_leq]
  apply hK; clear hK K
  refine awp_cond (b := _) rfl (fun hb1 => ?_) (fun hb1 => ?_)
  · try simp only [decide_eq_true_eq] at hb1
    -- region 4  zsortanyfunc.go:73
    refine awp_rseq [] (by rfl) fun K hK => ?_
    simp (decide := true) only [ev, putD, Slots.put, Slots.get, if_true, if_false, true_and, ↓ap_move, pop_move]
    refine aOps_callV (V := .tuple []) (by rfl) (by rfl) (c_ins0 w₀ _ f) ?_
    simp (decide := true) only [aOps_nil, putD, Slots.put, Slots.keep, if_false]
    apply hK; clear hK K
    refine awp_ret ?_
    try simp only [thenA_ret, inBlockA_ret]
    refine retA_ret h (by repeat (first | exact Sub.refl _ | assumption | refine Sub.trans_set ?_ (by assumption))) (resPre_nil) ?_
    simp (decide := true) only [and_true, resOf_nil]
    all_goals first | rfl | exact ⟨rfl, rfl⟩ | (simp (decide := true) only [if_true, if_false, *]; done) | (trace_state; fail)
  · exact absurd hb1 (by decide)
theorem c_sort0 (w₀ : World) (h : AHeap) (f : AVal) : ACall Tryd.prog w₀ 25 [.nilSlice, f] h (fun v h' => v = .tuple [] ∧ h' = h) := by
  refine acall_intro (n := 14) (rs := []) Tryd.func25 rfl rfl rfl rfl (Nat.le_of_ble_eq_true rfl) ?_
  simp only [initSlots]
  -- region 0  sort.go:31
  refine awp_rseq [0, 1, 4] (by rfl) fun K hK => ?_
  simp (decide := true) only [aOps_nil, ev, putD, Slots.put, Slots.get, Slots.keep, if_true, if_false, true_and, ↓ap_move, pop_move, ↓ap_len, pop_len, pLen_nil Tryd.underlying30, ↓ap_assign, pop_assign, Nat.zero_add]
  apply hK; clear hK K
  -- region 1  sort.go:32
  refine awp_r [] (by rfl) ?_
  simp (decide := true) only [ev, putD, Slots.put, Slots.get, if_true, if_false, true_and, ↓ap_move, pop_move, ↓ap_convert _ _ _ (es_int Tryd.underlying3 Tryd.underlying89), pop_convert, pConv_int Tryd.underlying3 Tryd.underlying89]
  refine aOps_callV (V := .int .i64 0) (by rfl) (by rfl) (c_len0 w₀ _) ?_
  simp (decide := true) only [ev, putD, Slots.put, Slots.get, if_true, if_false, true_and, ↓ap_move, pop_move]
  refine aOps_callV (V := .tuple []) (by rfl) (by rfl) (c_pdq0 w₀ _ f 0) ?_
  simp (decide := true) only [aOps_nil, putD, Slots.put, Slots.keep, if_false]
  refine retA_end h (by repeat (first | exact Sub.refl _ | assumption | refine Sub.trans_set ?_ (by assumption))) (resPre_nil) ?_
  simp (decide := true) only [and_true, resOf_nil]
  all_goals first | rfl | exact ⟨rfl, rfl⟩ | (simp (decide := true) only [if_true, if_false, *]; done) | (trace_state; fail)
end Go.Proofs.YtgnebodlkfblcaaDoor

/-
  Going through a map of paths; a map from keys to growing rows of numbers.
  Conditions: none.
-/
namespace Go.AM
section
variable {P : Program} {w₀ : World} {ops rest : List Oper} {s : Slots} {h : AHeap} {K : Slots → AHeap → Prop} {dst : Option Tmp} {ty : TypeId} {pos : String} {af : Array Edge}
/-- What a step of an iterator answers. -/
def nextV (more : Bool) (y v : AVal) : List AVal := .bool more :: bif more then [y, v] else []
/-- A step of an iterator, both ways at once. -/
theorem aOps_nextB {x : Operand} {k m c since last : Nat} {seen : List Nat} {es : List AVal} (hx : ev s x = .ptr (.own k) 0) (hb : h k = some ⟨[.iterO m since seen last], 2⟩) (hm : h m = some (mapBlk c es)) (hold : ∀ e ∈ es, bornA e < since ∧ bornA e < last)
    (hk : ∀ (more : Bool) (y v : AVal) (seen' : List Nat) (last' : Nat), (more = true → last' = c ∧ ∃ b, .mapE b y v ∈ es ∧ b ∉ seen ∧ seen' = seen ++ [b]) → (more = false → (∀ e ∈ es, bornA e ∈ seen)) →
      aOps P w₀ ops rest (putD s dst (.tuple (nextV more y v))) (h.set k ⟨[.iterO m since seen' last'], 2⟩) K) : aOps P w₀ ops (⟨dst, .next x false, ty, pos, af, none⟩ :: rest) s h K := by
  refine aOps_next hx hb hm hold (fun b y v h1 h2 => ?_) (fun h1 => ?_)
  · exact hk true y v (seen ++ [b]) c (fun _ => ⟨rfl, b, h1, h2, rfl⟩) (fun e => by cases e)
  · have := hk false .nilPtr .nilPtr seen last (fun e => by cases e) (fun _ => h1)
    rwa [set_same_self hb] at this
/-- How the entries change where a key is written (r: whether it was there). -/
def putRel (c c' : Nat) (es es' : List AVal) (i v : AVal) : Option (Nat × AVal) → Prop
  | none => c' = c + 1 ∧ es' = es ++ [.mapE c i v]
  | some (j, _) => c' = c ∧ es' = es.modify j (mSet i v)
/-- An entry is written, new or not. -/
theorem aOps_putAny {t kt et : TypeId} {m i v : Operand} {k c : Nat} {es : List AVal} (ht : P.underlying t = some (.map kt et)) (hm : ev s m = .map k) (hb : h k = some (mapBlk c es)) (hok : keyOk P kt (ev s i) = true) {r : Option (Nat × AVal)} (hf : mFind (ev s i) es 0 = some r)
    {es' : List AVal} {c' : Nat} (he : putRel c c' es es' (ev s i) (ev s v) r)
    (hk : aOps P w₀ ops rest (putD s dst (.tuple [])) (h.set k (mapBlk c' es')) K) : aOps P w₀ ops (⟨dst, .mapUpdate t m i v, ty, pos, af, none⟩ :: rest) s h K := by
  cases r with
  | none =>
    obtain ⟨rfl, rfl⟩ := he
    exact aOps_putNew ht hm hb hok hf hk
  | some jx =>
    obtain ⟨j, x⟩ := jx
    obtain ⟨rfl, rfl⟩ := he
    exact aOps_putOld ht hm hb hok hf hk
end
theorem Sub.del (H : AHeap) (k : Nat) : Sub (H.del k) H := fun j d hj => by
  by_cases e : j = k
  · subst e; simp [AHeap.del] at hj
  · simpa [AHeap.del, e] using hj
theorem Sub.to_del {h H : AHeap} (hs : Sub h H) {k : Nat} (hk : h k = Option.none) : Sub h (H.del k) := fun j d hj => by
  have e : j ≠ k := fun e => by subst e; rw [hk] at hj; cases hj
  simpa [AHeap.del, e] using hs _ _ hj
theorem Sub.set_off {B H : AHeap} (hs : Sub B H) {k : Nat} (hk : B k = Option.none) (X : Blk) : Sub B (H.set k X) := fun j d hj => by
  have e : j ≠ k := fun e => by subst e; rw [hk] at hj; cases hj
  rw [AHeap.set_ne _ _ e]
  exact hs _ _ hj
end Go.AM
namespace Go.Proofs.YtgnebodlkfblcaaDoor
open Go.AM
open Go.Proofs
open Go.Col
open Go.Prs
open Go.RowKit (Below)
set_option maxRecDepth 100000

/-! ### Entries of a map of paths by their births -/
theorem born_find : ∀ {qs : List EntP}, (qs.map (·.1.1)).Pairwise (· < ·) → ∀ {q : EntP}, q ∈ qs → (qs.map entK).find? (fun e => bornA e == q.1.1) = some (entK q)
  | [], _, q, hq => by cases hq
  | p :: qs, h, q, hq => by
    rw [List.map_cons, List.pairwise_cons] at h
    rw [List.map_cons, List.find?_cons]
    rcases List.mem_cons.1 hq with rfl | hq
    · simp [entK, bornA]
    · have := h.1 _ (List.mem_map_of_mem (f := fun q : EntP => q.1.1) hq)
      have e : (bornA (entK p) == q.1.1) = false := by
        simp only [entK, bornA, beq_eq_false_iff_ne, ne_eq]
        omega
      rw [e]
      exact born_find h.2 hq
theorem born_inj : ∀ {qs : List EntP}, (qs.map (·.1.1)).Pairwise (· < ·) → ∀ {p q : EntP}, p ∈ qs → q ∈ qs → p.1.1 = q.1.1 → p = q := by
  intro qs h p q hp hq e
  have h1 := born_find h hp
  have h2 := born_find h hq
  rw [e, h2] at h1
  obtain ⟨⟨b, v⟩, x, ps⟩ := p
  obtain ⟨⟨b', v'⟩, x', ps'⟩ := q
  obtain ⟨i, hi, e1⟩ := List.getElem_of_mem hp
  obtain ⟨j, hj, e2⟩ := List.getElem_of_mem hq
  have hij : i = j := by
    rw [List.pairwise_iff_getElem] at h
    rcases Nat.lt_trichotomy i j with hlt | heq | hgt
    · have := h i j (by simpa using hi) (by simpa using hj) hlt
      simp only [List.getElem_map, e1, e2] at this
      simp only at e
      omega
    · exact heq
    · have := h j i (by simpa using hj) (by simpa using hi) hgt
      simp only [List.getElem_map, e1, e2] at this
      simp only at e
      omega
  subst hij
  rw [← e1, ← e2]
theorem ents_nodup {qs : List EntP} (h : (qs.map (·.1.1)).Pairwise (· < ·)) : qs.Nodup := by
  rw [List.Nodup, List.pairwise_iff_getElem]
  intro i j hi hj hij e
  rw [List.pairwise_iff_getElem] at h
  have := h i j (by simpa using hi) (by simpa using hj) hij
  simp only [List.getElem_map] at this
  rw [e] at this
  omega
/-- How far one has gone through the entries. -/
structure GoneTo (qs done : List EntP) (seen : List Nat) : Prop where
  sub : ∀ q ∈ done, q ∈ qs
  nodup : done.Nodup
  seen : seen = done.map (·.1.1)
theorem GoneTo.start (qs : List EntP) : GoneTo qs [] [] := ⟨by simp, .nil, rfl⟩
theorem GoneTo.len {qs done : List EntP} {seen : List Nat} (h : GoneTo qs done seen) : done.length ≤ qs.length := List.Nodup.length_le_of_subset h.nodup h.sub
theorem GoneTo.step {qs done : List EntP} {seen : List Nat} (h : GoneTo qs done seen) {y v : AVal} {b : Nat} (hb : .mapE b y v ∈ qs.map entK) (hn : b ∉ seen) : ∃ q, q ∈ qs ∧ q.1.1 = b ∧ y = .int .i64 q.2.1 ∧ v = q.1.2 ∧ GoneTo qs (done ++ [q]) (seen ++ [b]) := by
  obtain ⟨q, hq, e⟩ := List.mem_map.1 hb
  simp only [entK, AVal.mapE.injEq] at e
  obtain ⟨e1, e2, e3⟩ := e
  refine ⟨q, hq, e1, e2.symm, e3.symm, ⟨fun p hp => ?_, ?_, ?_⟩⟩
  · rcases List.mem_append.1 hp with hp | hp
    · exact h.sub p hp
    · rw [List.mem_singleton.1 hp]; exact hq
  · rw [List.nodup_append]
    refine ⟨h.nodup, by simp, fun p hp p' hp' e => ?_⟩
    rw [List.mem_singleton] at hp'
    subst hp' e
    apply hn
    rw [h.seen, ← e1]
    exact List.mem_map_of_mem (f := fun q : EntP => q.1.1) hp
  · rw [h.seen, List.map_append, ← e1]; rfl
theorem GoneTo.all {qs done : List EntP} {seen : List Nat} (h : GoneTo qs done seen) (hs : (qs.map (·.1.1)).Pairwise (· < ·)) (ho : ∀ e ∈ qs.map entK, bornA e ∈ seen) : (pathsOf done).Perm (pathsOf qs) := by
  refine List.Perm.map _ ((List.perm_ext_iff_of_nodup h.nodup (ents_nodup hs)).2 fun q => ⟨h.sub q, fun hq => ?_⟩)
  have := ho _ (List.mem_map_of_mem (f := entK) hq)
  rw [h.seen] at this
  obtain ⟨p, hp, e⟩ := List.mem_map.1 this
  have := born_inj hs (h.sub p hp) hq e
  rwa [← this]
theorem GoneTo.old {qs : List EntP} {c : Nat} (hf : ∀ q ∈ qs, q.1.1 < c) : ∀ e ∈ qs.map entK, bornA e < c := by
  intro e he
  obtain ⟨q, hq, rfl⟩ := List.mem_map.1 he
  exact hf q hq

/-! ### A map from keys to rows of numbers -/
structure OEnt where
  born : Nat
  key : Str
  blk : Nat
  ks : List Int
def intA (k : Int) : List AVal := [.int .i64 k]
def rowB (e : OEnt) : Buf := ⟨e.blk, (e.ks.map intA).flatten⟩
def entO (e : OEnt) : AVal := .mapE e.born (.str e.key) (bufV 1 (some (rowB e)))
theorem intA_wide {ks : List Int} : ∀ x ∈ ks.map intA, x.length = 1 := fun x hx => by obtain ⟨y, _, rfl⟩ := List.mem_map.1 hx; rfl
theorem intA_live (ks : List Int) : allLive (ks.map intA).flatten = true := by
  rw [allLive_flatten]
  intro x hx
  obtain ⟨y, _, rfl⟩ := List.mem_map.1 hx
  rfl
def lookO (s : Str) (os : List OEnt) : List Int := match os.find? (fun e => e.key == s) with
  | some e => e.ks
  | none => []
structure IsOther (B H : AHeap) (k c : Nat) (os : List OEnt) : Prop where
  at_ : H k = some (mapBlk c (os.map entO))
  rows : ∀ e ∈ os, H e.blk = some ⟨(e.ks.map intA).flatten, 0⟩ ∧ B e.blk = none
  keys : (os.map (·.key)).Nodup
  blks : (os.map (·.blk)).Nodup
theorem IsOther.apart {B H : AHeap} {k c : Nat} {os : List OEnt} (h : IsOther B H k c os) {e : OEnt} (he : e ∈ os) : e.blk ≠ k := fun q => by
  have h1 := (h.rows e he).1
  rw [q, h.at_] at h1
  have h2 := congrArg (fun b : Option Blk => b.map (·.frz)) h1
  simp [mapBlk] at h2
/-- A key's place. -/
theorem find_other (s : Str) : ∀ (os : List OEnt) (i : Nat), (os.find? (fun e => e.key == s) = none ∧ mFind (.str s) (os.map entO) i = some none) ∨ (∃ (j : Nat) (e : OEnt), os[j]? = some e ∧ e.key = s ∧ os.find? (fun e => e.key == s) = some e ∧ mFind (.str s) (os.map entO) i = some (some (i + j, bufV 1 (some (rowB e)))))
  | [], i => .inl ⟨rfl, rfl⟩
  | e :: os, i => by
    rw [List.map_cons, List.find?_cons]
    by_cases hx : e.key = s
    · right
      refine ⟨0, e, rfl, hx, by simp [hx], ?_⟩
      simp only [entO, mFind, kEq]
      simp [hx]
    · have e2 : mFind (.str s) (entO e :: os.map entO) i = mFind (.str s) (os.map entO) (i + 1) := by
        simp only [entO, mFind, kEq]
        rw [decide_eq_false (fun q => hx q.symm)]
      have e3 : (e.key == s) = false := by simpa using hx
      rw [e2, e3]
      rcases find_other s os (i + 1) with h | ⟨j, q', h1, h2, h3, h4⟩
      · exact .inl h
      · exact .inr ⟨j + 1, q', h1, h2, h3, by rw [h4, Nat.add_assoc, Nat.add_comm 1 j]⟩
/-- The row that stands under a key, as a buffer, and the heap without it. -/
def bufO (s : Str) (os : List OEnt) : Option Buf := (os.find? (fun e => e.key == s)).map rowB
def delO (H : AHeap) (b : Option Buf) : AHeap := match b with | none => H | some b => H.del b.blk
theorem bufO_none {s : Str} {os : List OEnt} (h : os.find? (fun e => e.key == s) = none) : bufO s os = none ∧ lookO s os = [] := by
  unfold bufO lookO
  rw [h]
  exact ⟨rfl, rfl⟩
theorem bufO_some {s : Str} {os : List OEnt} {e : OEnt} (h : os.find? (fun e => e.key == s) = some e) : bufO s os = some (rowB e) ∧ lookO s os = e.ks := by
  unfold bufO lookO
  rw [h]
  exact ⟨rfl, rfl⟩
theorem AHeap.del_set_self {H : AHeap} {k : Nat} {b : Blk} (h : H k = some b) : (H.del k).set k b = H := by
  funext j
  by_cases e : j = k
  · subst e; simp [AHeap.set, h]
  · simp [AHeap.set, AHeap.del, e]
theorem AHeap.del_ne (H : AHeap) {j k : Nat} (h : j ≠ k) : H.del k j = H j := by simp [AHeap.del, h]
theorem AHeap.del_self (H : AHeap) (k : Nat) : H.del k k = none := by simp [AHeap.del]
theorem IsOther.buf {B H : AHeap} {k c : Nat} {os : List OEnt} (h : IsOther B H k c os) (s : Str) : bufOk (delO H (bufO s os)) 1 (bufO s os) ∧ bufC (bufO s os) = ((lookO s os).map intA).flatten ∧ bufH (delO H (bufO s os)) (bufO s os) = H := by
  cases hf : os.find? (fun e => e.key == s) with
  | none =>
    obtain ⟨e1, e2⟩ := bufO_none hf
    rw [e1, e2]
    exact ⟨trivial, rfl, rfl⟩
  | some e =>
    obtain ⟨e1, e2⟩ := bufO_some hf
    rw [e1, e2]
    have hr := (h.rows e (List.mem_of_find?_eq_some hf)).1
    refine ⟨⟨AHeap.del_self _ _, ?_, intA_live _⟩, rfl, AHeap.del_set_self hr⟩
    show (rowB e).cells.length % 1 = 0
    omega
theorem other_look {B H : AHeap} {k c : Nat} {os : List OEnt} (h : IsOther B H k c os) (s : Str) : ∀ H', Sub H H' → pLookup Tryd.prog H' 68 (.map k) (.str s) false = ⟨True, bufV 1 (bufO s os)⟩ := by
  intro H' hs
  rcases find_other s os 0 with ⟨h1, h2⟩ | ⟨j, e, h1, h2, h3, h4⟩
  · rw [pLookup_out Tryd.underlying68 ze69 (hs _ _ h.at_) rfl h2, (bufO_none h1).1]
    rfl
  · rw [pLookup_in Tryd.underlying68 ze69 (hs _ _ h.at_) rfl h4, (bufO_some h3).1]
    rfl
theorem lookO_cons (s : Str) (e : OEnt) (os : List OEnt) : lookO s (e :: os) = if e.key = s then e.ks else lookO s os := by
  unfold lookO
  rw [List.find?_cons]
  by_cases h : e.key = s
  · rw [if_pos h, show (e.key == s) = true by simpa using h]
  · rw [if_neg h, show (e.key == s) = false by simpa using h]
theorem lookO_snoc (s : Str) (os : List OEnt) (e : OEnt) (hn : os.find? (fun x => x.key == e.key) = none) : lookO s (os ++ [e]) = if s = e.key then e.ks else lookO s os := by
  induction os with
  | nil =>
    rw [List.nil_append, lookO_cons]
    by_cases h : e.key = s
    · rw [if_pos h, if_pos h.symm]
    · rw [if_neg h, if_neg fun q => h q.symm]
  | cons p os ih =>
    rw [List.find?_cons] at hn
    have hp : (p.key == e.key) = false := by
      cases hq : (p.key == e.key) with
      | false => rfl
      | true => rw [hq] at hn; cases hn
    rw [hp] at hn
    rw [List.cons_append, lookO_cons, lookO_cons, ih hn]
    by_cases h : p.key = s
    · rw [if_pos h, if_pos h, if_neg]
      intro q
      rw [h, q] at hp
      simp at hp
    · rw [if_neg h, if_neg h]
theorem modify_map {α : Type} {f : α → AVal} {g : AVal → AVal} {g' : α → α} (hg : ∀ x, g (f x) = f (g' x)) : ∀ (l : List α) (j : Nat), (l.map f).modify j g = (l.modify j g').map f
  | [], j => by simp
  | x :: l, 0 => by simp [hg]
  | x :: l, j + 1 => by simp [modify_map hg l j]
theorem modify_mid {α : Type} (f : α → α) (e : α) (l2 : List α) : ∀ l1 : List α, (l1 ++ e :: l2).modify l1.length f = l1 ++ f e :: l2
  | [] => rfl
  | x :: l1 => by
    rw [List.cons_append, List.length_cons, List.modify_succ_cons, modify_mid f e l2 l1, List.cons_append]
theorem split_at {α : Type} {l : List α} {j : Nat} {e : α} (h : l[j]? = some e) : ∃ l1 l2, l = l1 ++ e :: l2 ∧ l1.length = j := by
  obtain ⟨hj, he⟩ := List.getElem?_eq_some_iff.1 h
  refine ⟨l.take j, l.drop (j + 1), ?_, by simp; omega⟩
  rw [← he, ← List.drop_eq_getElem_cons hj, List.take_append_drop]
/-- A row has grown. -/
theorem IsOther.put {B H : AHeap} {k c : Nat} {os : List OEnt} (h : IsOther B H k c os) (hB : Sub B H) (hBk : B k = none) (s : Str) (x : Int) {b' : Option Buf} {h' : AHeap}
    (o1 : bufOk (delO H (bufO s os)) 1 b') (o2 : bufC b' = ((lookO s os ++ [x]).map intA).flatten) (o3 : Sub (bufH (delO H (bufO s os)) b') h') :
    ∃ (r : Option (Nat × AVal)) (c' : Nat) (os' : List OEnt), mFind (.str s) (os.map entO) 0 = some r ∧
      putRel c c' (os.map entO) (os'.map entO) (.str s) (bufV 1 b') r ∧
      (∀ X, IsOther B (h'.set k X) k c' os' ∨ X ≠ mapBlk c' (os'.map entO)) ∧ (∀ t, lookO t os' = if t = s then lookO t os ++ [x] else lookO t os) ∧
      (∀ j d, H j = some d → (∀ e ∈ os, e.blk ≠ j) → h' j = some d) ∧ (∀ e' ∈ os', ∀ j d, H j = some d → (∀ e ∈ os, e.blk ≠ j) → e'.blk ≠ j) := by
  obtain ⟨nb, rfl⟩ : ∃ nb, b' = some nb := by
    cases b' with
    | none => simp [bufC, intA] at o2
    | some nb => exact ⟨nb, rfl⟩
  have hnb : h' nb.blk = some ⟨((lookO s os ++ [x]).map intA).flatten, 0⟩ := by
    have : bufH (delO H (bufO s os)) (some nb) nb.blk = some ⟨nb.cells, 0⟩ := AHeap.set_same _ _ _
    rw [← o2]
    exact o3 _ _ this
  have o0 : delO H (bufO s os) nb.blk = none := o1.1
  have hrow : ∀ e : OEnt, e.blk = nb.blk → e.ks = lookO s os ++ [x] → bufV 1 (some nb) = bufV 1 (some (rowB e)) := fun e h1 h2 => by
    have e1 : nb = rowB e := by
      unfold rowB
      rw [h1, h2]
      cases nb with
      | mk b cells =>
        have : cells = ((lookO s os ++ [x]).map intA).flatten := o2
        rw [this]
    rw [e1]
  rcases find_other s os 0 with ⟨f1, f2⟩ | ⟨j, e, f1, f2, f3, f4⟩
  · obtain ⟨e1, e2⟩ := bufO_none f1
    rw [e1] at o0 o3
    rw [e2] at o2 hnb hrow
    simp only [delO] at o0
    simp only [delO] at o3
    have other : ∀ j d, H j = some d → h' j = some d := fun j d hj => o3 _ _ ((AHeap.set_ne _ _ (fun q => by rw [q, o0] at hj; cases hj)).trans hj)
    have hk : nb.blk ≠ k := fun q => by rw [q, h.at_] at o0; cases o0
    refine ⟨none, c + 1, os ++ [⟨c, s, nb.blk, [x]⟩], f2, ⟨rfl, ?_⟩, fun X => ?_, fun t => ?_, fun j d hj _ => other j d hj, fun e' he' j d hj hne q => ?_⟩
    · rw [List.map_append, List.map_cons, List.map_nil, entO, ← hrow ⟨c, s, nb.blk, [x]⟩ rfl rfl]
    · by_cases hX : X = mapBlk (c + 1) ((os ++ [(⟨c, s, nb.blk, [x]⟩ : OEnt)]).map entO)
      · subst hX
        refine .inl ⟨AHeap.set_same _ _ _, fun e he => ?_, ?_, ?_⟩
        · rcases List.mem_append.1 he with he | he
          · exact ⟨(AHeap.set_ne _ _ (h.apart he)).trans (other _ _ (h.rows e he).1), (h.rows e he).2⟩
          · rw [List.mem_singleton.1 he]
            refine ⟨(AHeap.set_ne _ _ hk).trans hnb, ?_⟩
            cases hq : B nb.blk with
            | none => rfl
            | some d => rw [hB _ _ hq] at o0; cases o0
        · rw [List.map_append, List.nodup_append]
          refine ⟨h.keys, by simp, fun a ha b hb q => ?_⟩
          obtain ⟨e, he, rfl⟩ := List.mem_map.1 ha
          simp only [List.map_cons, List.map_nil, List.mem_singleton] at hb
          have := List.find?_eq_none.1 f1 e he
          apply this
          rw [q, hb]
          simp
        · rw [List.map_append, List.nodup_append]
          refine ⟨h.blks, by simp, fun a ha b hb q => ?_⟩
          obtain ⟨e, he, rfl⟩ := List.mem_map.1 ha
          simp only [List.map_cons, List.map_nil, List.mem_singleton] at hb
          have := (h.rows e he).1
          rw [q, hb, o0] at this
          cases this
      · exact .inr hX
    · rw [lookO_snoc t os ⟨c, s, nb.blk, [x]⟩ f1]
      by_cases ht : t = s
      · subst ht; rw [if_pos rfl, if_pos rfl, e2]; rfl
      · rw [if_neg ht, if_neg ht]
    · rcases List.mem_append.1 he' with he' | he'
      · exact hne e' he' q
      · rw [List.mem_singleton.1 he'] at q
        simp only at q
        rw [← q, o0] at hj
        cases hj
  · obtain ⟨e1, e2⟩ := bufO_some f3
    have he : e ∈ os := List.mem_of_getElem? f1
    rw [e1] at o0 o3
    simp only [delO] at o0
    simp only [delO] at o3
    have hrb : (rowB e).blk = e.blk := rfl
    rw [hrb] at o0 o3
    have hblk : ∀ j d, H j = some d → j ≠ e.blk → j ≠ nb.blk := fun j d hj h1 q => by
      rw [← q, AHeap.del_ne _ h1, hj] at o0
      cases o0
    have other : ∀ j d, H j = some d → j ≠ e.blk → h' j = some d := fun j d hj h1 => o3 _ _ ((AHeap.set_ne _ _ (hblk j d hj h1)).trans ((AHeap.del_ne _ h1).trans hj))
    have hk : nb.blk ≠ k := fun q => (hblk k _ h.at_ (h.apart he).symm) q.symm
    obtain ⟨l1, l2, rfl, hl⟩ := split_at f1
    obtain ⟨upd, hupd⟩ : ∃ upd : OEnt → OEnt, upd = fun y => ⟨y.born, s, nb.blk, lookO s (l1 ++ e :: l2) ++ [x]⟩ := ⟨_, rfl⟩
    have hkeys : ((l1 ++ upd e :: l2).map (·.key)) = (l1 ++ e :: l2).map (·.key) := by
      rw [List.map_append, List.map_append, List.map_cons, List.map_cons, hupd]
      simp only [f2]
    have hb0 := h.blks
    rw [List.map_append, List.map_cons, List.nodup_append] at hb0
    obtain ⟨hb1, hb2, hb3⟩ := hb0
    rw [List.nodup_cons] at hb2
    have old : ∀ y, y ∈ l1 ∨ y ∈ l2 → y ∈ l1 ++ e :: l2 ∧ y.blk ≠ e.blk := fun y hy => by
      rcases hy with hy | hy
      · exact ⟨List.mem_append_left _ hy, hb3 _ (List.mem_map_of_mem (f := fun z : OEnt => z.blk) hy) _ List.mem_cons_self⟩
      · exact ⟨List.mem_append_right _ (List.mem_cons_of_mem _ hy), fun q => hb2.1 (by rw [← q]; exact List.mem_map_of_mem (f := fun z : OEnt => z.blk) hy)⟩
    have hmem : ∀ y, y ∈ l1 ++ upd e :: l2 → y = upd e ∨ y ∈ l1 ∨ y ∈ l2 := fun y hy => by
      rcases List.mem_append.1 hy with hy | hy
      · exact .inr (.inl hy)
      · rcases List.mem_cons.1 hy with hy | hy
        · exact .inl hy
        · exact .inr (.inr hy)
    refine ⟨some (0 + j, bufV 1 (some (rowB e))), c, l1 ++ upd e :: l2, f4, ⟨rfl, ?_⟩, fun X => ?_, fun t => ?_, fun i d hi hne => other i d hi (fun q => hne e he q.symm), fun e' he' i d hi hne q => ?_⟩
    · rw [Nat.zero_add, modify_map (g' := upd) (fun y => ?_), ← hl, modify_mid]
      rw [hupd]
      simp only [entO, mSet]
      rw [← hrow ⟨y.born, s, nb.blk, lookO s (l1 ++ e :: l2) ++ [x]⟩ rfl rfl]
    · by_cases hX : X = mapBlk c ((l1 ++ upd e :: l2).map entO)
      · subst hX
        refine .inl ⟨AHeap.set_same _ _ _, fun y hy => ?_, by rw [hkeys]; exact h.keys, ?_⟩
        · rcases hmem y hy with rfl | hy
          · rw [hupd]
            refine ⟨(AHeap.set_ne _ _ hk).trans hnb, ?_⟩
            simp only
            by_cases hq : nb.blk = e.blk
            · rw [hq]; exact (h.rows e he).2
            · rw [AHeap.del_ne _ hq] at o0
              cases hq2 : B nb.blk with
              | none => rfl
              | some d => rw [hB _ _ hq2] at o0; cases o0
          · obtain ⟨m1, m2⟩ := old y hy
            exact ⟨(AHeap.set_ne _ _ (h.apart m1)).trans (other _ _ (h.rows y m1).1 m2), (h.rows y m1).2⟩
        · have hu : (upd e).blk = nb.blk := by rw [hupd]
          have nn : ∀ y, y ∈ l1 ∨ y ∈ l2 → y.blk ≠ nb.blk := fun y hy => hblk _ _ (h.rows y (old y hy).1).1 (old y hy).2
          rw [List.map_append, List.map_cons, List.nodup_append, List.nodup_cons, hu]
          refine ⟨hb1, ⟨fun q => ?_, hb2.2⟩, fun a ha b hb q => ?_⟩
          · obtain ⟨y, hy, e4⟩ := List.mem_map.1 q
            exact nn y (.inr hy) e4
          · rcases List.mem_cons.1 hb with hb | hb
            · obtain ⟨y, hy, rfl⟩ := List.mem_map.1 ha
              exact nn y (.inl hy) (q.trans hb)
            · exact hb3 a ha b (List.mem_cons_of_mem _ hb) q
      · exact .inr hX
    · have hku : (upd e).key = s := by rw [hupd]
      have hks : (upd e).ks = lookO s (l1 ++ e :: l2) ++ [x] := by rw [hupd]
      have hkn := h.keys
      rw [List.map_append, List.map_cons, List.nodup_append] at hkn
      obtain ⟨_, _, hk3⟩ := hkn
      have key : ∀ l1 : List OEnt, (∀ y ∈ l1, y.key ≠ s) → lookO t (l1 ++ upd e :: l2) = if t = s then (upd e).ks else lookO t (l1 ++ e :: l2) := by
        intro l1
        induction l1 with
        | nil =>
          intro _
          rw [List.nil_append, List.nil_append, lookO_cons, lookO_cons, hku, f2]
          by_cases ht : t = s
          · rw [if_pos ht, if_pos ht.symm]
          · rw [if_neg ht, if_neg (fun q => ht q.symm), if_neg (fun q => ht q.symm)]
        | cons y l1 ih =>
          intro hy
          rw [List.cons_append, List.cons_append, lookO_cons, lookO_cons, ih fun z hz => hy z (List.mem_cons_of_mem _ hz)]
          by_cases h1 : y.key = t
          · rw [if_pos h1, if_pos h1, if_neg]
            intro q
            exact hy y List.mem_cons_self (h1.trans q)
          · rw [if_neg h1, if_neg h1]
      rw [key l1 (fun y hy q => hk3 _ (List.mem_map_of_mem (f := fun z : OEnt => z.key) hy) _ List.mem_cons_self (q.trans f2.symm)), hks]
      by_cases ht : t = s
      · rw [if_pos ht, if_pos ht, ht]
      · rw [if_neg ht, if_neg ht]
    · rcases hmem e' he' with rfl | hy
      · rw [hupd] at q
        simp only at q
        exact hblk i d hi (fun q2 => hne e he q2.symm) q.symm
      · exact hne e' (old e' hy).1 q
end Go.Proofs.YtgnebodlkfblcaaDoor

/-
  Contracts: the pairs of two groups, up to the map of the second group's keys.
  Conditions: none.
-/
namespace Go.AM
/-- One block of dead cells may change: no slice stands in it. -/
theorem IsL.but {w₀ : World} {h h' : AHeap} {es : Nat} {v : AVal} {xs : List (List AVal)} (hv : IsL w₀ h es v xs) {k : Nat} {b : Blk} (hk : h k = some b) (hdead : ∀ o, (b.cells.getD o .dead).live = false) (hag : ∀ j, j ≠ k → h' j = h j) : IsL w₀ h' es v xs := by
  cases hv with
  | nil => exact .nil
  | mk lc o n cp xs hn hw hc hl hcap =>
    refine .mk lc o n cp xs hn hw ?_ hl hcap
    have hal : AM.allLive (cellsAt w₀ h lc o (n * es)) = true := by rw [hc]; exact hl
    rw [← hc]
    clear hc hl hcap hw hn
    have : ∀ (m o : Nat), AM.allLive (cellsAt w₀ h lc o m) = true → cellsAt w₀ h' lc o m = cellsAt w₀ h lc o m := by
      intro m
      induction m with
      | zero => intro o _; rfl
      | succ m ih =>
        intro o ho
        simp only [cellsAt, AM.allLive, Bool.and_eq_true] at ho ⊢
        rw [ih _ ho.2]
        congr 1
        cases lc with
        | base b => rfl
        | own j =>
          by_cases e : j = k
          · subst e
            have h1 := ho.1
            rw [rd_own w₀ hk, hdead] at h1
            cases h1
          · simp only [rd, hag j e]
    exact this _ _ hal
end Go.AM
namespace Go.Proofs.YtgnebodlkfblcaaDoor
open Go.AM
open Go.Proofs
open Go.Col
open Go.Prs
open Go.RowKit (Below)
set_option maxRecDepth 100000

theorem paths_few (l : List ItemP) (g : Int) (only : Bool) : (pathsE l g only).length ≤ l.length := by
  have h1 := paths_asc l g only
  have h2 : ((pathsE l g only).map fun y => y.1.toNat).Nodup := by
    rw [List.Nodup, List.pairwise_map]
    refine h1.imp₂ ?_ (List.pairwise_of_forall_mem_list (fun x hx y hy => (⟨paths_range hx, paths_range hy⟩ : (0 ≤ x.1 ∧ x.1 < l.length ∧ x.1 ≠ g) ∧ (0 ≤ y.1 ∧ y.1 < l.length ∧ y.1 ≠ g))))
    intro x y hxy hr e
    omega
  have h3 := List.Nodup.length_le_of_subset h2 (l₂ := List.range l.length) (fun n hn => by
    obtain ⟨y, hy, rfl⟩ := List.mem_map.1 hn
    have := paths_range hy
    rw [List.mem_range]
    omega)
  simpa using h3
theorem rowOf_len (b : List (Int × List Str)) (k : Str) : (rowOf b k).length ≤ b.length := by
  unfold rowOf
  rw [List.length_map]
  exact List.length_filter_le _ _
theorem IsOther.agree {B H H' : AHeap} {k c : Nat} {os : List OEnt} (h : IsOther B H k c os) (hk : H' k = H k) (hr : ∀ e ∈ os, H' e.blk = H e.blk) : IsOther B H' k c os :=
  ⟨hk.trans h.at_, fun e he => ⟨(hr e he).trans (h.rows e he).1, (h.rows e he).2⟩, h.keys, h.blks⟩
theorem IsPaths.del {w₀ : World} {h : AHeap} {k c : Nat} {qs : List EntP} (hp : IsPaths w₀ h k c qs) {km : Nat} {b : Blk} (hkm : h km = some b) (hdead : ∀ o, (b.cells.getD o .dead).live = false) (hne : k ≠ km) : IsPaths w₀ (h.del km) k c qs :=
  ⟨(AHeap.del_ne h hne).trans hp.at_, fun q hq => (hp.rows q hq).but hkm hdead (fun j hj => AHeap.del_ne h hj), hp.few, hp.asc⟩

/-! ### The loop over the second group's paths -/
structure AmG where
  H : AHeap
  c : Nat
  os : List OEnt
  done : List EntP
  seen : List Nat
structure AmOk (B : AHeap) (km ki kp cp : Nat) (qs : List EntP) (g : AmG) : Prop where
  sub : Sub B g.H
  it : g.H ki = some ⟨[.iterO kp cp g.seen cp], 2⟩
  oth : IsOther B g.H km g.c g.os
  itn : ∀ e ∈ g.os, e.blk ≠ ki
  gone : GoneTo qs g.done g.seen
  look : ∀ s, lookO s g.os = rowOf (pathsOf g.done) s
/-- What stands behind the loop. -/
structure AmEnd (w₀ : World) (h H : AHeap) (ka kb km : Nat) (A Bc : List AVal) (c : Nat) (os : List OEnt) (ps : List (Int × List Str)) (B : AHeap) : Prop where
  sub : Sub h B
  top : Sub B H
  bka : B ka = some ⟨A, 0⟩
  bkb : B kb = some ⟨Bc, 0⟩
  oth : IsOther B H km c os
  look : ∀ s, lookO s os = rowOf ps s
theorem pGo_short (g : Int) (only : Bool) : ∀ (l : List ItemP) (i : Nat) (acc : List (Int × List Str)), (∀ y ∈ acc, y.2.length ≤ i) → ∀ y ∈ pGo g only i l acc, y.2.length ≤ i + l.length
  | [], i, acc, h, y, hy => by have := h y hy; simp; omega
  | x :: l, i, acc, h, y, hy => by
    rw [pGo] at hy
    have := pGo_short g only l (i + 1) (pStep g only acc i x) (fun z hz => by
      rw [pStep_eq] at hz
      rcases List.mem_append.1 hz with hz | hz
      · have := h z hz; omega
      · unfold newP at hz
        cases hq : lookA x.parent acc with
        | none => rw [hq] at hz; cases hz
        | some p =>
          have hp := h _ (lookA_mem hq)
          rw [hq] at hz
          simp only at hz
          split at hz
          · rename_i p' he
            split at he
            · rw [Option.some.injEq] at he
              rw [List.mem_singleton] at hz
              subst hz
              simp only [← he, List.length_append, List.length_cons, List.length_nil]
              simp only at hp
              omega
            · cases he
          · cases hz) y hy
    simp only [List.length_cons]
    omega
theorem paths_short {l : List ItemP} {g : Int} {only : Bool} {y : Int × List Str} (hy : y ∈ pathsE l g only) : y.2.length ≤ l.length := by
  have := pGo_short g only l 0 [(g, [])] (by simp) y (List.mem_of_mem_tail hy)
  omega

set_option maxHeartbeats 2000000 in
theorem l_among8 (w₀ : World) (ht10 : Tab10 w₀) (h : AHeap) (f ka kb : Nat) (va vb : AVal) (sza szb ga gb : Int) (lb : List (ItemP × ItemO)) (R : AVal → AHeap → Prop) (eb_a : h ka = some ⟨[va, .int .i64 sza, .int .i64 ga], 0⟩) (eb_b : h kb = some ⟨[vb, .int .i64 szb, .int .i64 gb], 0⟩)
    (hvb : IsL w₀ h 22 vb (lb.map itC)) (hlb : lb.length ≤ 100000) (hkey : ∀ y ∈ pathsE (items lb) gb true, (keyE y.2).length ≤ 140737488355328)
    (hrest : ∀ km H c os ps B, AmEnd w₀ h H ka kb km [va, .int .i64 sza, .int .i64 ga] [vb, .int .i64 szb, .int .i64 gb] c os ps B → ps.Perm (pathsE (items lb) gb true) → Awp Tryd.prog w₀ 94 (dropSeq 4 (bodyOf Tryd.f17)) (retA Tryd.prog w₀ [.tmp 6, .tmp 7] (R)) [(2, .func f []), (3, .ptr (.own ka) 0), (4, .ptr (.own kb) 0), (11, .map km)] (H)) :
    Awp Tryd.prog w₀ 94 (dropSeq 2 (bodyOf Tryd.f17)) (retA Tryd.prog w₀ [.tmp 6, .tmp 7] (R)) [(2, .func f []), (3, .ptr (.own ka) 0), (4, .ptr (.own kb) 0)] (h) := by
  have hs_h : Sub h h := Sub.refl _
  have hlvb := hvb.live
  change Awp _ _ _ (Code.seq _ _) _ _ _
  -- region 8  pairs.go:92
  refine awp_rseq [2, 3, 4, 11] (by rfl) fun K hK => ?_
  refine aOps_makeMap fun k8q0 hk8q0 => ?_
  have hn_8q0 : h k8q0 = none := by first | assumption | (simp only [AHeap.set_none] at hk8q0; simp only [hk8q0])
  have hf_8q0 : h k8q0 = none := Sub.none hs_h hn_8q0
  have ne_8q0_a : k8q0 ≠ ka := AHeap.ne_some hn_8q0 eb_a
  have ne_8q0_b : k8q0 ≠ kb := AHeap.ne_some hn_8q0 eb_b
  simp (decide := true) only [aOps_nil, ev, putD, Slots.put, Slots.get, Slots.keep, if_true, if_false, true_and, ↓ap_assign, pop_assign]
  apply hK; clear hK K
  refine awp_seq ?_
  -- region 9  pairs.go:93
  refine awp_rseq [2, 3, 4, 11, 36] (by rfl) fun K hK => ?_
  simp (decide := true) only [ev, putD, Slots.put, Slots.get, if_true, if_false, true_and, ↓ap_loadL, apL_mk, pLoad_agg ag35 sz35, rd_ne', ne_eq, not_false_eq_true, ne_8q0_b.symm, rd_own w₀ eb_b, cellsAt, List.getD_cons_zero, List.getD_cons_succ, Nat.zero_add, Nat.reduceAdd, lv_int, allLive, Bool.and_true, hlvb]
  refine aOps_call (by rfl) (by rfl) (c_paths w₀ _ vb szb gb true lb (hvb.mono (by repeat (first | exact Sub.refl _ | assumption | refine Sub.set_both ?_ _ _ | refine Sub.trans_set ?_ (by repeat (first | assumption | refine (AHeap.set_ne _ _ (by first | assumption | exact Ne.symm (by assumption))).trans ?_))))) hlb) fun x9q1 h9q1 hx9q1 => ?_
  obtain ⟨kp, cp, qs, rfl, hkp, hp9, hps, hs9⟩ := hx9q1
  have hs_h9q1 : Sub h h9q1 := Sub.trans (by repeat (first | exact Sub.refl _ | assumption | refine Sub.trans_set ?_ (by assumption))) hs9
  have hr_h9q1 := hs_h9q1
  have eb_8q0 := hs9 k8q0 _ (by repeat (first | exact AHeap.set_same _ _ _ | assumption | refine (AHeap.set_ne _ _ (by first | assumption | exact Ne.symm (by assumption))).trans ?_))
  have eb_a := hs9 ka _ (by repeat (first | exact AHeap.set_same _ _ _ | assumption | refine (AHeap.set_ne _ _ (by first | assumption | exact Ne.symm (by assumption))).trans ?_))
  have eb_b := hs9 kb _ (by repeat (first | exact AHeap.set_same _ _ _ | assumption | refine (AHeap.set_ne _ _ (by first | assumption | exact Ne.symm (by assumption))).trans ?_))
  refine aOps_range Tryd.underlying64 (by rfl) (hp9.at_) fun k9q2 hk9q2 => ?_
  have hn_9q2 : h9q1 k9q2 = none := by first | assumption | (simp only [AHeap.set_none] at hk9q2; simp only [hk9q2])
  have hf_9q2 : h k9q2 = none := Sub.none hs_h9q1 hn_9q2
  have ne_9q2_a : k9q2 ≠ ka := AHeap.ne_some hn_9q2 eb_a
  have ne_9q2_b : k9q2 ≠ kb := AHeap.ne_some hn_9q2 eb_b
  have ne_9q2_8q0 : k9q2 ≠ k8q0 := AHeap.ne_some hn_9q2 eb_8q0
  simp (decide := true) only [aOps_nil, putD, Slots.put, Slots.keep, if_true, if_false]
  apply hK; clear hK K
  refine awp_block ?_
  refine awp_loopG [2, 3, 4, 11, 36] (fun g : AmG => [(2, .func f []), (3, .ptr (.own ka) 0), (4, .ptr (.own kb) 0), (11, .map k8q0), (36, .ptr (.own k9q2) 0)]) (fun g : AmG => g.H) (fun g : AmG => AmOk (h9q1.del k8q0) k8q0 k9q2 kp cp qs g) (fun g : AmG => qs.length - g.done.length) ⟨h9q1.set k9q2 ⟨[.iterO kp cp [] cp], 2⟩, 0, [], [], []⟩ (by rfl) (Sub.refl _) ⟨Sub.trans_set (Sub.del _ _) ((AHeap.del_ne _ ne_9q2_8q0).trans hn_9q2), AHeap.set_same _ _ _, ⟨(AHeap.set_ne _ _ ne_9q2_8q0.symm).trans eb_8q0, by simp, by simp, by simp⟩, by simp, .start _, fun s => rfl⟩ ?_
  have hkp8 : kp ≠ k8q0 := fun e => by subst e; rw [AHeap.set_same] at hkp; cases hkp
  have hpB : IsPaths w₀ (h9q1.del k8q0) kp cp qs := hp9.del eb_8q0 (entK_dead 0 []) hkp8
  have hBa : (h9q1.del k8q0) ka = some ⟨[va, .int .i64 sza, .int .i64 ga], 0⟩ := (AHeap.del_ne _ ne_8q0_a.symm).trans eb_a
  have hBb : (h9q1.del k8q0) kb = some ⟨[vb, .int .i64 szb, .int .i64 gb], 0⟩ := (AHeap.del_ne _ ne_8q0_b.symm).trans eb_b
  have hBm : (h9q1.del k8q0) k8q0 = none := AHeap.del_self _ _
  have hBi : (h9q1.del k8q0) k9q2 = none := (AHeap.del_ne _ ne_9q2_8q0).trans hn_9q2
  have hBh : Sub h (h9q1.del k8q0) := Sub.to_del hs_h9q1 hf_8q0
  obtain ⟨B, hB⟩ : ∃ B, B = h9q1.del k8q0 := ⟨_, rfl⟩
  rw [← hB] at hpB hBa hBb hBm hBi hBh ⊢
  rintro ⟨H, c, os, done, seen⟩ ⟨hsub, hit, hoth, hitn, hgone, hlook⟩
  simp only at hsub hit hoth hitn hgone hlook ⊢
  have hs_H : Sub h H := hBh.trans hsub
  have eb_a := hsub _ _ hBa
  have eb_b := hsub _ _ hBb
  -- region 10  pairs.go:93
  refine awp_rseq [2, 3, 4, 11, 36, 38] (by rfl) fun K hK => ?_
  refine aOps_nextB (by rfl) hit (hsub _ _ hpB.at_) (fun e he => ⟨GoneTo.old hpB.few e he, GoneTo.old hpB.few e he⟩) fun more y v seen' last' hm1 hm0 => ?_
  simp (decide := true) only [aOps_nil, ev, putD, Slots.put, Slots.get, Slots.keep, if_true, if_false, ↓ap_extract, pop_extract, pExt_tuple, List.length_cons, List.getD_cons_zero, List.getD_cons_zero, nextV]
  repeat (with_reducible refine And.intro ?_ ?_; · first | trivial | omega | (intro hg; simp only [Bool.and_eq_true, Bool.or_eq_true, Bool.not_eq_true', Bool.and_eq_false_iff, Bool.or_eq_false_iff, Bool.not_eq_false', decide_eq_true_eq, decide_eq_false_iff_not, eqNil] at hg; omega) )
  apply hK; clear hK K
  refine awp_seq (awp_cond (b := _) rfl (fun hb1 => ?_) (fun hb1 => ?_))
  · skip
    subst hb1
    obtain ⟨rfl, b, hb, hbn, rfl⟩ := hm1 rfl
    obtain ⟨q, hq, rfl, rfl, rfl, hgone2⟩ := hgone.step hb hbn
    obtain ⟨H1, hH1⟩ : ∃ H1, H1 = H.set k9q2 ⟨[.iterO kp last' (seen ++ [q.1.1]) last'], 2⟩ := ⟨_, rfl⟩
    rw [← hH1]
    refine awp_skip ?_
    change Awp _ _ _ _ _ _ _
    refine awp_block ?_
    have hsub1 : Sub B H1 := by rw [hH1]; exact Sub.set_off hsub hBi _
    have hit1 : H1 k9q2 = some ⟨[.iterO kp last' (seen ++ [q.1.1]) last'], 2⟩ := by rw [hH1]; exact AHeap.set_same _ _ _
    have hoth1 : IsOther B H1 k8q0 c os := hoth.agree (by rw [hH1]; exact AHeap.set_ne _ _ ne_9q2_8q0.symm) (fun e he => by rw [hH1]; exact AHeap.set_ne _ _ (hitn e he))
    have hs_H1 : Sub h H1 := hBh.trans hsub1
    have eb_a := hsub1 _ _ hBa
    have eb_b := hsub1 _ _ hBb
    obtain ⟨s, hs⟩ : ∃ s, s = keyE q.2.2 := ⟨_, rfl⟩
    obtain ⟨ob1, ob2, ob3⟩ := hoth1.buf s
    have hlk := other_look hoth1 s H1 (Sub.refl _)
    have hmq : q.2 ∈ pathsE (items lb) gb true := by rw [← hps]; exact List.mem_map_of_mem hq
    have hsh := paths_short hmq
    rw [items_len] at hsh
    have hrq := hpB.rows q hq
    have hlq := hrq.live
    have hdl := hgone.len
    have hql : qs.length ≤ lb.length := by
      have := paths_few (items lb) gb true
      rw [← hps, items_len] at this
      simpa [pathsOf] using this
    have hll : (lookO s os).length ≤ done.length := by
      rw [hlook]
      have := rowOf_len (pathsOf done) s
      simpa [pathsOf] using this
    -- region 11  pairs.go:93
    refine awp_rseq [2, 3, 4, 11, 12, 13, 36] (by rfl) fun K hK => ?_
    refine aOps_entry (b' := q.1.1) (y := .int .i64 q.2.1) (v := q.1.2) (by rfl) hit1 (hsub1 _ _ hpB.at_) (born_find hpB.asc hq) ?_
    simp (decide := true) only [aOps_nil, ev, putD, Slots.put, Slots.get, Slots.keep, if_true, if_false, true_and, ↓ap_extract, pop_extract, pExt_tuple, List.length_cons, List.length_nil, List.getD_cons_zero, List.getD_cons_succ, ↓ap_assign, pop_assign, List.getD_cons_zero, List.getD_cons_succ, Nat.zero_add, Nat.reduceAdd]
    apply hK; clear hK K
    -- region 12  pairs.go:94
    refine awp_r [2, 3, 4, 11, 36] (by rfl) ?_
    simp (decide := true) only [ev, putD, Slots.put, Slots.get, if_true, if_false, true_and, ↓ap_move, pop_move]
    refine aOps_callV (V := .str s) (by rfl) (by rfl) (by rw [hs]; exact c_key w₀ ht10 _ q.1.2 q.2.2 (hrq.mono (by repeat (first | exact Sub.refl _ | assumption | refine Sub.set_both ?_ _ _ | refine Sub.trans_set ?_ (by repeat (first | assumption | refine (AHeap.set_ne _ _ (by first | assumption | exact Ne.symm (by assumption))).trans ?_))))) (by omega) (hkey q.2 hmq)) ?_
    simp (decide := true) only [ev, putD, Slots.put, Slots.get, if_true, if_false, true_and, ↓ap_move, pop_move]
    refine aOps_callV (V := .str s) (by rfl) (by rfl) (by rw [hs]; exact c_key w₀ ht10 _ q.1.2 q.2.2 (hrq.mono (by repeat (first | exact Sub.refl _ | assumption | refine Sub.set_both ?_ _ _ | refine Sub.trans_set ?_ (by repeat (first | assumption | refine (AHeap.set_ne _ _ (by first | assumption | exact Ne.symm (by assumption))).trans ?_))))) (by omega) (hkey q.2 hmq)) ?_
    simp (decide := true) only [ev, putD, Slots.put, Slots.get, if_true, if_false, true_and, ↓ap_lookup, pop_lookup, ↓ap_move, pop_move, hlk]
    refine aOps_buildSlice (cs := [.int .i64 q.2.1]) (by kernel_rfl) fun k12q8 hk12q8 => ?_
    have hn_12q8 : H1 k12q8 = none := by first | assumption | (simp only [AHeap.set_none] at hk12q8; simp only [hk12q8])
    have hf_12q8 : h k12q8 = none := Sub.none hs_H1 hn_12q8
    have ne_12q8_a : k12q8 ≠ ka := AHeap.ne_some hn_12q8 eb_a
    have ne_12q8_b : k12q8 ≠ kb := AHeap.ne_some hn_12q8 eb_b
    refine aOps_appendL (es := 1) (zs := (lookO s os).map intA) (xs := [intA q.2.1]) (h₀ := delO H1 (bufO s os)) (b := bufO s os) (by rfl) (by rfl) Tryd.underlying69 Tryd.underlying69 (fun k e => by cases e) sz3 by3 ze3 (by rfl) (by decide) (by rfl) ob1 ob2 intA_wide (by rw [ob3]; exact (by repeat (first | exact Sub.refl _ | assumption | refine Sub.set_both ?_ _ _ | refine Sub.trans_set ?_ (by repeat (first | assumption | refine (AHeap.set_ne _ _ (by first | assumption | exact Ne.symm (by assumption))).trans ?_))))) (by rfl) (IsL.own (by repeat (first | exact AHeap.set_same _ _ _ | assumption | refine (AHeap.set_ne _ _ (by first | assumption | exact Ne.symm (by assumption))).trans ?_)) (by simp [intA]) (by rfl) (by rfl) (.exact 1) (Nat.le_refl _)) (by rfl) (by simp; omega) (by simp; omega) fun b' h12 o1 o2 o3 => ?_
    obtain ⟨r, c', os', p1, p2, p3, p4, p5, p6⟩ := hoth1.put hsub1 hBm s q.2.1 o1 (by rw [o2, List.map_append]; rfl) o3
    have hm12 : h12 k8q0 = some (mapBlk c (os.map entO)) := p5 _ _ hoth1.at_ (fun e he => hoth1.apart he)
    refine aOps_putAny Tryd.underlying68 (by rfl) hm12 (by rfl) p1 p2 ?_
    simp (decide := true) only [aOps_nil, putD, Slots.put, Slots.keep, if_true, if_false]
    try simp only [thenA_normal, inBlockA_normal]
    exact ⟨⟨h12.set k8q0 (mapBlk c' (os'.map entO)), c', os', done ++ [q], seen ++ [q.1.1]⟩, rfl, Sub.refl _, ⟨fun j d hj => by
      have e1 : j ≠ k8q0 := fun e => by subst e; rw [hBm] at hj; cases hj
      exact (AHeap.set_ne _ _ e1).trans (p5 j d (hsub1 _ _ hj) (fun e he q => by have := (hoth1.rows e he).2; rw [q, hj] at this; cases this)), (AHeap.set_ne _ _ ne_9q2_8q0).trans (p5 _ _ hit1 hitn), (p3 _).resolve_right (fun q => q rfl), fun e he => p6 e he _ _ hit1 hitn, hgone2, fun t => by
      rw [p4, hlook]
      have := rowOf_snoc (pathsOf done) q.2 t
      simp only [pathsOf, List.map_append, List.map_cons, List.map_nil] at this ⊢
      rw [this, hs]
      by_cases ht : t = keyE q.2.2
      · subst ht; simp
      · rw [if_neg ht, if_neg (by simpa using fun e => ht e.symm)]⟩, by
      have := hgone2.len
      simp only [List.length_append, List.length_cons, List.length_nil] at this ⊢
      omega⟩
  · skip
    subst hb1
    have hall := hgone.all hpB.asc (hm0 rfl)
    refine awp_exit ?_
    change Awp _ _ _ _ _ _ _
    refine Awp.keep [2, 3, 4, 11] ?_
    refine hrest k8q0 _ c os (pathsOf done) B ⟨hBh, Sub.set_off hsub hBi _, hBa, hBb, hoth.agree (AHeap.set_ne _ _ ne_9q2_8q0.symm) (fun e he => AHeap.set_ne _ _ (hitn e he)), hlook⟩ ?_
    rw [← hps]
    exact hall
end Go.Proofs.YtgnebodlkfblcaaDoor

/-
  Contracts: the pairs of two groups, from the map of the second group's keys on.
  Conditions: none.
-/
namespace Go.Proofs.YtgnebodlkfblcaaDoor
open Go.AM
open Go.Proofs
open Go.Col
open Go.Prs
open Go.RowKit (Below)
set_option maxRecDepth 100000

def pairC (p : Int × Int) : List AVal := [.int .i64 p.1, .int .i64 p.2]
theorem cellsP_eq (ps : List (Int × Int)) : cellsP ps = (ps.map pairC).flatten := rfl
theorem pairC_wide {ps : List (Int × Int)} : ∀ x ∈ ps.map pairC, x.length = 2 := fun x hx => by obtain ⟨y, _, rfl⟩ := List.mem_map.1 hx; rfl
theorem pairC_live (ps : List (Int × Int)) : allLive (ps.map pairC).flatten = true := by
  rw [allLive_flatten]
  intro x hx
  obtain ⟨y, _, rfl⟩ := List.mem_map.1 hx
  rfl
theorem c_clipP2 (w₀ : World) (h : AHeap) (v : AVal) (xs : List (List AVal)) (hv : IsL w₀ h 2 v xs) : ACall Tryd.prog w₀ 29 [v] h (fun r h' => r = capL v ∧ h' = h) := by
  have hlen := hv.len Tryd.underlying30
  have h3 := hv.slice3 Tryd.underlying30 sz37 .i64 .i64 none rfl
  refine acall_intro (n := 9) (rs := [.tmp 2]) Tryd.func29 rfl rfl rfl rfl (Nat.le_of_ble_eq_true rfl) ?_
  simp only [initSlots]
  -- region 0  slices.go:435
  refine awp_rseq [0] (by rfl) fun K hK => ?_
  simp (decide := true) only [aOps_nil, ev, absV, absS, putD, Slots.put, Slots.keep, if_true, if_false, true_and, ↓ap_assign, pop_assign]
  apply hK; clear hK K
  -- region 1  slices.go:436
  refine awp_rseq [2] (by rfl) fun K hK => ?_
  simp (decide := true) only [aOps_nil, ev, putD, Slots.put, Slots.get, Slots.keep, if_true, if_false, true_and, ↓ap_move, pop_move, ↓ap_len, pop_len, ↓ap_slice, pop_slice, evO, ↓ap_assign, pop_assign, hlen, h3]
  apply hK; clear hK K
  refine awp_ret ?_
  refine retA_ret _ (Sub.refl _) (resPre_tmp (resPre_nil)) ?_
  simp (decide := true) only [Slots.get, if_true, and_true, resOf_one]
  all_goals first | rfl | exact ⟨rfl, rfl⟩ | (simp (decide := true) only [if_true, if_false, *]; done) | (trace_state; fail)
/-- The sort of a growing slice of pairs. -/
theorem c_sortAny (w₀ : World) (C : AHeap) (out : Option Buf) (acc : List (Int × Int)) (ho : bufOk C 2 out) (he : bufC out = cellsP acc) (hn : acc = [] → out = none) (hl : acc.length < 4611686018427387904) :
    ACall Tryd.prog w₀ 25 [bufV 2 out, .func 26 []] (bufH C out)
      (fun r h' => r = .tuple [] ∧ ∃ (qs : List (Int × Int)) (out' : Option Buf), h' = bufH C out' ∧ bufOk C 2 out' ∧ bufC out' = cellsP qs ∧ bufV 2 out' = bufV 2 out ∧ qs.Perm acc ∧ (qs.Pairwise fun x y => ltP x y ∨ x = y)) := by
  by_cases ha : acc = []
  · rw [hn ha, ha]
    have := c_sort0 w₀ C (.func 26 [])
    refine this.mono fun r h' ⟨e1, e2⟩ => ⟨e1, [], none, e2, trivial, rfl, rfl, .refl _, .nil⟩
  · cases out with
    | none =>
      exfalso
      have h0 : (cellsP acc).length = 0 := by rw [← he]; rfl
      rw [cellsP_len] at h0
      exact ha (List.eq_nil_of_length_eq_zero (by omega))
    | some b =>
      have hc : b.cells = cellsP acc := he
      have hlen : b.cells.length / 2 = acc.length := by rw [hc, cellsP_len]; omega
      have hh : bufH C (some b) b.blk = some ⟨cellsP acc, 0⟩ := by rw [← hc]; exact AHeap.set_same _ _ _
      have hv : bufV 2 (some b) = .slice (.own b.blk) 0 acc.length (.grow 2) := by simp only [bufV, hlen]
      rw [hv]
      refine (c_sort w₀ (bufH C (some b)) b.blk acc hh ha hl).mono fun r h' ⟨e1, qs, e2, e3, e4⟩ => ⟨e1, qs, some ⟨b.blk, cellsP qs⟩, ?_, ⟨ho.1, ?_, ?_⟩, rfl, ?_, e2, e3⟩
      · rw [e4]
        show (C.set b.blk ⟨b.cells, 0⟩).set b.blk ⟨cellsP qs, 0⟩ = _
        rw [AHeap.set_set]
        rfl
      · show (cellsP qs).length % 2 = 0
        rw [cellsP_len]; omega
      · exact pairC_live qs
      · simp only [bufV, cellsP_len, e2.length_eq]
        rw [Nat.mul_div_cancel _ (by decide)]

theorem bld37_0_1 (x y : Int) : pBuild Tryd.prog 37 [(0, .int .i64 x), (1, .int .i64 y)] = ⟨True, .agg [.int .i64 x, .int .i64 y]⟩ := by kernel_rfl
/-- How far the loops over the first group's paths have come. -/
structure AnG where
  done : List EntP
  seen : List Nat
  out : Option Buf
  acc : List (Int × Int)
structure OutOk (C : AHeap) (ki : Nat) (out : Option Buf) (acc : List (Int × Int)) : Prop where
  ok : ∀ X, bufOk (C.set ki X) 2 out
  eq : bufC out = cellsP acc
  nil : acc = [] → out = none
structure AnOk (C : AHeap) (ki : Nat) (qa : List EntP) (ps : List (Int × List Str)) (is : Int → Int → Bool) (g : AnG) : Prop where
  gone : GoneTo qa g.done g.seen
  out : OutOk C ki g.out g.acc
  acc : g.acc = amongE (pathsOf g.done) ps is
  few : g.acc.length ≤ g.done.length * ps.length
structure InG where
  j : Nat
  out : Option Buf
  acc : List (Int × Int)
theorem bufOk_other {C : AHeap} {ki : Nat} {X : Blk} {b : Option Buf} {es : Nat} (h : bufOk (C.set ki X) es b) (Y : Blk) : bufOk (C.set ki Y) es b := by
  cases b with
  | none => trivial
  | some b =>
    refine ⟨?_, h.2⟩
    have h1 := h.1
    have hne : b.blk ≠ ki := fun e => by rw [e, AHeap.set_same] at h1; cases h1
    rw [AHeap.set_ne _ _ hne] at h1 ⊢
    exact h1
theorem OutOk.iter {C : AHeap} {ki : Nat} {out : Option Buf} {acc : List (Int × Int)} (h : OutOk C ki out acc) (X Y : Blk) : (bufH (C.set ki X) out).set ki Y = bufH (C.set ki Y) out := by
  rw [bufSet (h.ok X) (AHeap.set_same _ _ _), AHeap.set_set]
theorem among_snoc (a : List (Int × List Str)) (y : Int × List Str) (b : List (Int × List Str)) (is : Int → Int → Bool) : amongE (a ++ [y]) b is = amongE a b is ++ ((rowOf b (keyE y.2)).filter fun k => is y.1 k).map fun k => (y.1, k) := by
  unfold amongE
  simp
theorem take_filter {ks : List Int} {j : Nat} (hj : j < ks.length) (p : Int → Bool) (i : Int) : ((ks.take (j + 1)).filter p).map (fun k => (i, k)) = ((ks.take j).filter p).map (fun k => (i, k)) ++ (if p (ks.getD j 0) then [(i, ks.getD j 0)] else []) := by
  have e : ks.take (j + 1) = ks.take j ++ [ks.getD j 0] := by
    rw [List.take_add_one, List.getElem?_eq_getElem hj]
    simp [List.getD, hj]
  rw [e, List.filter_append, List.map_append]
  generalize ks.getD j 0 = z
  cases h : p z <;> simp [List.filter, h]
theorem rowOf_mem {b : List (Int × List Str)} {s : Str} {k : Int} (h : k ∈ rowOf b s) : ∃ y ∈ b, y.1 = k := by
  unfold rowOf at h
  obtain ⟨y, hy, e⟩ := List.mem_map.1 h
  exact ⟨y, (List.mem_filter.1 hy).1, e⟩

set_option maxHeartbeats 4000000 in
theorem l_among13 (w₀ : World) (ht10 : Tab10 w₀) (h H B : AHeap) (f ka kb km c : Nat) (va vb : AVal) (sza szb ga gb : Int) (la lb : List (ItemP × ItemO)) (os : List OEnt) (ps : List (Int × List Str)) (isf : ItemP → ItemP → Bool) (R : AVal → AHeap → Prop)
    (hend : AmEnd w₀ h H ka kb km [va, .int .i64 sza, .int .i64 ga] [vb, .int .i64 szb, .int .i64 gb] c os ps B) (hps : ps.Perm (pathsE (items lb) gb true))
    (hva : IsL w₀ h 22 va (la.map itC)) (hvb : IsL w₀ h 22 vb (lb.map itC)) (hla : la.length ≤ 100000) (hlb : lb.length ≤ 100000) (hkey : ∀ y ∈ pathsE (items la) ga true, (keyE y.2).length ≤ 140737488355328)
    (his : ∀ g x y o q, ACall Tryd.prog w₀ f [.agg (itemC x o), .agg (itemC y q)] g (fun v h' => v = .bool (isf x y) ∧ h' = g))
    (hR : ∀ outv h', IsL w₀ h' 2 outv ((pairsE (pathsE (items la) ga true) (pathsE (items lb) gb true) fun x y => isf ((items la).getD x.toNat default) ((items lb).getD y.toNat default)).map pairC) → capL outv = outv → Sub h h' → R (.tuple [outv, .int .i64 0]) h') :
    Awp Tryd.prog w₀ 94 (dropSeq 4 (bodyOf Tryd.f17)) (retA Tryd.prog w₀ [.tmp 6, .tmp 7] (R)) [(2, .func f []), (3, .ptr (.own ka) 0), (4, .ptr (.own kb) 0), (11, .map km)] (H) := by
  obtain ⟨hhB, hBH, hBa, hBb, hoth, hlook⟩ := hend
  have hs_H : Sub h H := hhB.trans hBH
  have eb_a := hBH _ _ hBa
  have eb_b := hBH _ _ hBb
  have hlva := hva.live
  have hlvb := hvb.live
  have hpsl : ps.length ≤ lb.length := by
    have := paths_few (items lb) gb true
    rw [items_len] at this
    rw [hps.length_eq]
    exact this
  obtain ⟨is, his2⟩ : ∃ is : Int → Int → Bool, is = fun x y => isf ((items la).getD x.toNat default) ((items lb).getD y.toNat default) := ⟨_, rfl⟩
  rw [← his2] at hR
  change Awp _ _ _ (Code.seq _ _) _ _ _
  -- region 13  pairs.go:96
  refine awp_rseq [2, 3, 4, 11, 14] (by rfl) fun K hK => ?_
  simp (decide := true) only [aOps_nil, ev, absV, absS, putD, Slots.put, Slots.keep, if_true, if_false, true_and, ↓ap_assign, pop_assign]
  apply hK; clear hK K
  refine awp_seq ?_
  -- region 14  pairs.go:97
  refine awp_rseq [2, 3, 4, 11, 14, 54] (by rfl) fun K hK => ?_
  simp (decide := true) only [ev, putD, Slots.put, Slots.get, if_true, if_false, true_and, ↓ap_loadL, apL_mk, pLoad_agg ag35 sz35, rd_own w₀ eb_a, cellsAt, List.getD_cons_zero, List.getD_cons_succ, Nat.zero_add, Nat.reduceAdd, lv_int, allLive, Bool.and_true, hlva]
  refine aOps_call (by rfl) (by rfl) (c_paths w₀ _ va sza ga true la (hva.mono (by repeat (first | exact Sub.refl _ | assumption | refine Sub.set_both ?_ _ _ | refine Sub.trans_set ?_ (by repeat (first | assumption | refine (AHeap.set_ne _ _ (by first | assumption | exact Ne.symm (by assumption))).trans ?_))))) hla) fun x14q1 h14q1 hx14q1 => ?_
  obtain ⟨kq, cq, qa, rfl, hkq, hp14, hpa, hs14⟩ := hx14q1
  have hs_h14q1 : Sub h h14q1 := Sub.trans (by repeat (first | exact Sub.refl _ | assumption | refine Sub.trans_set ?_ (by assumption))) hs14
  have hr_h14q1 : Sub H h14q1 := Sub.trans (by repeat (first | exact Sub.refl _ | assumption | refine Sub.trans_set ?_ (by assumption))) hs14
  have eb_a := hs14 ka _ (by repeat (first | exact AHeap.set_same _ _ _ | assumption | refine (AHeap.set_ne _ _ (by first | assumption | exact Ne.symm (by assumption))).trans ?_))
  have eb_b := hs14 kb _ (by repeat (first | exact AHeap.set_same _ _ _ | assumption | refine (AHeap.set_ne _ _ (by first | assumption | exact Ne.symm (by assumption))).trans ?_))
  refine aOps_range Tryd.underlying64 (by rfl) (hp14.at_) fun k14q2 hk14q2 => ?_
  have hn_14q2 : h14q1 k14q2 = none := by first | assumption | (simp only [AHeap.set_none] at hk14q2; simp only [hk14q2])
  have hf_14q2 : h k14q2 = none := Sub.none hs_h14q1 hn_14q2
  have ne_14q2_a : k14q2 ≠ ka := AHeap.ne_some hn_14q2 eb_a
  have ne_14q2_b : k14q2 ≠ kb := AHeap.ne_some hn_14q2 eb_b
  simp (decide := true) only [aOps_nil, putD, Slots.put, Slots.keep, if_true, if_false]
  apply hK; clear hK K
  refine awp_block ?_
  refine awp_loopG [2, 3, 4, 11, 14, 54] (fun g : AnG => [(2, .func f []), (3, .ptr (.own ka) 0), (4, .ptr (.own kb) 0), (11, .map km), (14, bufV 2 g.out), (54, .ptr (.own k14q2) 0)]) (fun g : AnG => bufH (h14q1.set k14q2 ⟨[.iterO kq cq g.seen cq], 2⟩) g.out) (fun g : AnG => AnOk h14q1 k14q2 qa ps is g) (fun g : AnG => qa.length - g.done.length) ⟨[], [], none, []⟩ (by rfl) (Sub.refl _) ⟨.start _, ⟨fun X => trivial, rfl, fun _ => rfl⟩, rfl, by simp⟩ ?_
  have hqal : qa.length ≤ la.length := by
    have := paths_few (items la) ga true
    rw [← hpa, items_len] at this
    simpa [pathsOf] using this
  have hCH : Sub H h14q1 := hs14
  obtain ⟨C, hC⟩ : ∃ C, C = h14q1 := ⟨_, rfl⟩
  rw [← hC] at hp14 hCH hn_14q2 hs_h14q1 eb_a eb_b ⊢
  have hCa := eb_a
  have hCb := eb_b
  rintro ⟨done, seen, out, acc⟩ ⟨hgone, hout, hacc, hfew⟩
  simp only at hgone hout hacc hfew ⊢
  have hCG : ∀ X, Sub C (bufH (C.set k14q2 X) out) := fun X => (Sub.set hn_14q2).trans (Sub.buf (hout.ok X))
  obtain ⟨G, hG⟩ : ∃ G, G = bufH (C.set k14q2 ⟨[.iterO kq cq seen cq], 2⟩) out := ⟨_, rfl⟩
  have hsub : Sub C G := by rw [hG]; exact hCG _
  have hit : G k14q2 = some ⟨[.iterO kq cq seen cq], 2⟩ := by rw [hG]; exact bufAt (hout.ok _) (AHeap.set_same _ _ _)
  have hset : ∀ Y, G.set k14q2 Y = bufH (C.set k14q2 Y) out := fun Y => by rw [hG]; exact hout.iter _ Y
  rw [← hG]
  have hs_G : Sub h G := hs_h14q1.trans hsub
  have eb_a := hsub _ _ hCa
  have eb_b := hsub _ _ hCb
  have hlo := bufV_live 2 out
  -- region 15  pairs.go:97
  refine awp_rseq [2, 3, 4, 11, 14, 54, 56] (by rfl) fun K hK => ?_
  refine aOps_nextB (by rfl) hit (hsub _ _ hp14.at_) (fun e he => ⟨GoneTo.old hp14.few e he, GoneTo.old hp14.few e he⟩) fun more y v seen' last' hm1 hm0 => ?_
  simp (decide := true) only [aOps_nil, ev, putD, Slots.put, Slots.get, Slots.keep, if_true, if_false, ↓ap_extract, pop_extract, pExt_tuple, List.length_cons, List.getD_cons_zero, List.getD_cons_zero, nextV]
  repeat (with_reducible refine And.intro ?_ ?_; · first | trivial | omega | (intro hg; simp only [Bool.and_eq_true, Bool.or_eq_true, Bool.not_eq_true', Bool.and_eq_false_iff, Bool.or_eq_false_iff, Bool.not_eq_false', decide_eq_true_eq, decide_eq_false_iff_not, eqNil] at hg; omega) )
  apply hK; clear hK K
  refine awp_seq (awp_cond (b := _) rfl (fun hb1 => ?_) (fun hb1 => ?_))
  · skip
    subst hb1
    obtain ⟨rfl, b, hb, hbn, rfl⟩ := hm1 rfl
    obtain ⟨q, hq, rfl, rfl, rfl, hgone2⟩ := hgone.step hb hbn
    rw [hset]
    obtain ⟨IT, hIT⟩ : ∃ IT : Blk, IT = ⟨[.iterO kq last' (seen ++ [q.1.1]) last'], 2⟩ := ⟨_, rfl⟩
    rw [← hIT]
    obtain ⟨G1, hG1⟩ : ∃ G1, G1 = bufH (C.set k14q2 IT) out := ⟨_, rfl⟩
    rw [← hG1]
    refine awp_skip ?_
    change Awp _ _ _ _ _ _ _
    refine awp_block ?_
    have hsub1 : Sub C G1 := by rw [hG1]; exact hCG _
    have hit1 : G1 k14q2 = some ⟨[.iterO kq last' (seen ++ [q.1.1]) last'], 2⟩ := by rw [hG1, ← hIT]; exact bufAt (hout.ok _) (AHeap.set_same _ _ _)
    have hs_G1 : Sub h G1 := hs_h14q1.trans hsub1
    have eb_a := hsub1 _ _ hCa
    have eb_b := hsub1 _ _ hCb
    obtain ⟨s, hs⟩ : ∃ s, s = keyE q.2.2 := ⟨_, rfl⟩
    obtain ⟨ob1, ob2, ob3⟩ := hoth.buf s
    have hlk := other_look hoth s G1 (hCH.trans hsub1)
    have hmq : q.2 ∈ pathsE (items la) ga true := by rw [← hpa]; exact List.mem_map_of_mem hq
    have hsh := paths_short hmq
    have hqr := paths_range hmq
    rw [items_len] at hsh hqr
    have hrq := hp14.rows q hq
    have hlq := hrq.live
    have hdl := hgone.len
    obtain ⟨ks, hks⟩ : ∃ ks, ks = lookO s os := ⟨_, rfl⟩
    have hkl : ks.length ≤ ps.length := by rw [hks, hlook]; exact rowOf_len _ _
    have hkr : ∀ k ∈ ks, 0 ≤ k ∧ k < lb.length := fun k hk => by
      rw [hks, hlook] at hk
      obtain ⟨y, hy, rfl⟩ := rowOf_mem hk
      have := paths_range (hps.mem_iff.1 hy)
      rw [items_len] at this
      exact ⟨this.1, this.2.1⟩
    rw [← hks] at ob2
    have hkL : IsL w₀ C 1 (bufV 1 (bufO s os)) (ks.map intA) := IsL.buf ob1 (by decide) ob2 intA_wide (by rw [ob3]; exact hCH)
    obtain ⟨vk, hvk⟩ : ∃ vk, vk = bufV 1 (bufO s os) := ⟨_, rfl⟩
    rw [← hvk] at hlk hkL
    have hlvk := hkL.live
    have hnk := hkL.len Tryd.underlying69
    rw [List.length_map] at hnk
    -- region 16  pairs.go:97
    refine awp_rseq [2, 3, 4, 11, 14, 15, 16, 54] (by rfl) fun K hK => ?_
    refine aOps_entry (b' := q.1.1) (y := .int .i64 q.2.1) (v := q.1.2) (by rfl) hit1 (hsub1 _ _ hp14.at_) (born_find hp14.asc hq) ?_
    simp (decide := true) only [aOps_nil, ev, putD, Slots.put, Slots.get, Slots.keep, if_true, if_false, true_and, ↓ap_extract, pop_extract, pExt_tuple, List.length_cons, List.length_nil, List.getD_cons_zero, List.getD_cons_succ, ↓ap_assign, pop_assign, List.getD_cons_zero, List.getD_cons_succ, Nat.zero_add, Nat.reduceAdd]
    apply hK; clear hK K
    -- region 17  pairs.go:98
    refine awp_rseq [2, 3, 4, 11, 14, 15, 54, 63, 64, 65] (by rfl) fun K hK => ?_
    simp (decide := true) only [ev, putD, Slots.put, Slots.get, if_true, if_false, true_and, ↓ap_move, pop_move]
    refine aOps_callV (V := .str s) (by rfl) (by rfl) (by rw [hs]; exact c_key w₀ ht10 _ q.1.2 q.2.2 (hrq.mono (by repeat (first | exact Sub.refl _ | assumption | refine Sub.set_both ?_ _ _ | refine Sub.trans_set ?_ (by repeat (first | assumption | refine (AHeap.set_ne _ _ (by first | assumption | exact Ne.symm (by assumption))).trans ?_))))) (by omega) (hkey q.2 hmq)) ?_
    simp (decide := true) only [aOps_nil, ev, absV, absS, putD, Slots.put, Slots.get, Slots.keep, if_true, if_false, true_and, ↓ap_lookup, pop_lookup, ↓ap_len, pop_len, ↓ap_move, pop_move, hlk, hnk]
    apply hK; clear hK K
    refine awp_block ?_
    refine awp_loopG [2, 3, 4, 11, 14, 15, 54, 63, 64, 65] (fun g : InG => [(2, .func f []), (3, .ptr (.own ka) 0), (4, .ptr (.own kb) 0), (11, .map km), (14, bufV 2 g.out), (15, .int .i64 q.2.1), (54, .ptr (.own k14q2) 0), (63, vk), (64, .int .i64 ks.length), (65, .int .i64 g.j)]) (fun g : InG => bufH (C.set k14q2 IT) g.out) (fun g : InG => g.j ≤ ks.length ∧ OutOk C k14q2 g.out g.acc ∧ g.acc = acc ++ ((ks.take g.j).filter fun k => is q.2.1 k).map (fun k => (q.2.1, k)) ∧ g.acc.length ≤ acc.length + g.j) (fun g : InG => ks.length - g.j) ⟨0, out, acc⟩ (by rfl) (by rw [hG1]; exact Sub.refl _) ⟨Nat.zero_le _, hout, by simp, Nat.le_refl _⟩ ?_
    rintro ⟨j, out2, acc2⟩ ⟨hj, hout2, hacc2, hfew2⟩
    simp only at hj hout2 hacc2 hfew2 ⊢
    have hlo2 := bufV_live 2 out2
    obtain ⟨G2, hG2⟩ : ∃ G2, G2 = bufH (C.set k14q2 IT) out2 := ⟨_, rfl⟩
    have hsub2 : Sub C G2 := by rw [hG2]; exact (Sub.set hn_14q2).trans (Sub.buf (hout2.ok IT))
    have hs_G2 : Sub h G2 := hs_h14q1.trans hsub2
    have eb_a := hsub2 _ _ hCa
    have eb_b := hsub2 _ _ hCb
    rw [← hG2]
    -- region 18  pairs.go:98
    refine awp_rseq [2, 3, 4, 11, 14, 15, 54, 63, 64, 65, 66] (by rfl) fun K hK => ?_
    simp (decide := true) only [aOps_nil, ev, putD, Slots.put, Slots.get, Slots.keep, if_true, if_false, true_and, ↓ap_binOp, pop_binOp, isNilC_tmp, cond_false, pBinX_int, pI_lss]
    apply hK; clear hK K
    refine awp_seq (awp_cond (b := _) rfl (fun hb2 => ?_) (fun hb2 => ?_))
    · try simp only [decide_eq_true_eq] at hb2
      have hj' : j < ks.length := by omega
      obtain ⟨lk, ok, ck, rfl⟩ : ∃ l o c, vk = .slice l o ks.length c := by
        have := hkL.open (fun e => by rw [List.map_eq_nil_iff] at e; rw [e] at hj'; simp at hj')
        rwa [List.length_map] at this
      have hrk : rd w₀ G2 lk (ok + j * 1) = .int .i64 (ks.getD j 0) := by
        have := (hkL.mono hsub2).at0 (i := j) (by rw [List.length_map]; exact hj') (by decide)
        rwa [getD_map (ys := ks) 0 hj'] at this
      obtain ⟨k, hk⟩ : ∃ k, k = ks.getD j 0 := ⟨_, rfl⟩
      have hkb := hkr k (by rw [hk, List.getD, List.getElem?_eq_getElem hj']; exact List.getElem_mem hj')
      have htf := take_filter hj' (fun k => is q.2.1 k) q.2.1
      rw [← hk] at hrk htf
      obtain ⟨lca, oa, cpa, rfl⟩ := it_open hva (by omega)
      obtain ⟨lcb, ob, cpb, rfl⟩ := it_open hvb (by omega)
      obtain ⟨⟨xa, qxa⟩, hxa⟩ : ∃ z, la.getD q.2.1.toNat default = z := ⟨_, rfl⟩
      obtain ⟨⟨xb, qxb⟩, hxb⟩ : ∃ z, lb.getD k.toNat default = z := ⟨_, rfl⟩
      have hca := it_at (hva.mono hs_G2) (i := q.2.1.toNat) (by omega) hxa
      have hcb := it_at (hvb.mono hs_G2) (i := k.toNat) (by omega) hxb
      have hala := it_live hva (i := q.2.1.toNat) (by omega) hxa
      have halb := it_live hvb (i := k.toNat) (by omega) hxb
      have hisq : is q.2.1 k = isf xa xb := by
        rw [his2]
        simp only [items_getD, hxa, hxb]
      unfold itemC at hca hcb hala halb
      have hmul2 : done.length * ps.length ≤ 100000 * 100000 := Nat.mul_le_mul (by omega) (by omega)
      refine awp_skip ?_
      change Awp _ _ _ _ _ _ _
      refine awp_seq ?_
      refine awp_block ?_
      -- region 19  pairs.go:98
      refine awp_rseq [2, 3, 4, 11, 14, 15, 18, 54, 63, 64, 65] (by rfl) fun K hK => ?_
      simp (decide := true) only [aOps_nil, ev, putD, Slots.put, Slots.get, Slots.keep, if_true, if_false, true_and, ↓ap_indexAddrL, apL_mk, pIndexAddr_slice Tryd.underlying69 sz3, ↓ap_loadL, pLoad_one ag3, ↓ap_assign, pop_assign, lv_int, hrk, Int.toNat_natCast]
      repeat (with_reducible refine And.intro ?_ ?_; · first | trivial | omega | (intro hg; simp only [Bool.and_eq_true, Bool.or_eq_true, Bool.not_eq_true', Bool.and_eq_false_iff, Bool.or_eq_false_iff, Bool.not_eq_false', decide_eq_true_eq, decide_eq_false_iff_not, eqNil] at hg; omega) )
      apply hK; clear hK K
      -- region 20  pairs.go:99
      refine awp_dseq_any [2, 3, 4, 11, 14, 15, 18, 54, 63, 64, 65, 82] mixed (by kernel_rfl) (by rfl) fun K hK => ?_
      simp (decide := true) only [ev, putD, Slots.put, Slots.get, if_true, if_false, true_and, ↓vp_move, pop_move, ↓vp_fieldAddr, pop_fieldAddr, fa35_0, fa27_0, ↓vp_load, pop_load, pLoad_one ag25, ↓vp_indexAddr, pIndexAddr_slice Tryd.underlying25 sz44, pop_indexAddr, pLoad_agg ag44 sz44, rd_own w₀ eb_a, rd_own w₀ eb_b, List.getD_cons_zero, Nat.zero_add, hlva, hlvb, ↓hca, ↓hcb, hala, halb]
      repeat (with_reducible refine And.intro ?_ ?_; · first | trivial | omega | (intro hg; simp only [Bool.and_eq_true, Bool.or_eq_true, Bool.not_eq_true', Bool.and_eq_false_iff, Bool.or_eq_false_iff, Bool.not_eq_false', decide_eq_true_eq, decide_eq_false_iff_not, eqNil] at hg; omega) )
      refine vOps_callV (V := .bool (isf xa xb)) (by rfl) (by rfl) (his _ xa xb qxa qxb) ?_
      simp (decide := true) only [vOps_nil, putD, Slots.put, Slots.keep, if_true, if_false]
      apply hK; clear hK K
      refine awp_cond (b := _) rfl (fun hb3 => ?_) (fun hb3 => ?_)
      · skip
        -- region 21  pairs.go:100
        refine awp_r [2, 3, 4, 11, 14, 15, 54, 63, 64, 65] (by rfl) ?_
        simp (decide := true) only [ev, absV, absS, putD, Slots.put, Slots.get, if_true, if_false, true_and, ↓ap_move, pop_move, ↓ap_build, ↓pop_buildL, bld37_0_1, evP, List.map_cons, List.map_nil]
        refine aOps_buildSlice (cs := [.int .i64 q.2.1, .int .i64 k]) (by kernel_rfl) fun k21q4 hk21q4 => ?_
        have hn_21q4 : G2 k21q4 = none := by first | assumption | (simp only [AHeap.set_none] at hk21q4; simp only [hk21q4])
        have hf_21q4 : h k21q4 = none := Sub.none hs_G2 hn_21q4
        have ne_21q4_a : k21q4 ≠ ka := AHeap.ne_some hn_21q4 eb_a
        have ne_21q4_b : k21q4 ≠ kb := AHeap.ne_some hn_21q4 eb_b
        refine aOps_appendL (es := 2) (zs := acc2.map pairC) (xs := [pairC (q.2.1, k)]) (h₀ := C.set k14q2 IT) (b := out2) (by rfl) (by rfl) Tryd.underlying30 Tryd.underlying30 (fun k e => by cases e) sz37 by37 ze37 (by rfl) (by decide) (by rfl) (hout2.ok IT) (by rw [hout2.eq]; rfl) pairC_wide (by rw [← hG2]; exact (by repeat (first | exact Sub.refl _ | assumption | refine Sub.set_both ?_ _ _ | refine Sub.trans_set ?_ (by repeat (first | assumption | refine (AHeap.set_ne _ _ (by first | assumption | exact Ne.symm (by assumption))).trans ?_))))) (by rfl) (IsL.own (by repeat (first | exact AHeap.set_same _ _ _ | assumption | refine (AHeap.set_ne _ _ (by first | assumption | exact Ne.symm (by assumption))).trans ?_)) (by simp [pairC]) (by rfl) (by rfl) (.exact 1) (Nat.le_refl _)) (by rfl) (by simp; omega) (by simp; omega) fun out3 h21 o1 o2 o3 => ?_
        simp (decide := true) only [aOps_nil, ev, putD, Slots.put, Slots.get, Slots.keep, if_true, if_false, true_and, ↓ap_assign, pop_assign]
        change Awp _ _ _ _ _ _ _
        -- region 22  pairs.go:98
        refine awp_r [2, 3, 4, 11, 14, 15, 54, 63, 64, 65] (by rfl) ?_
        simp (decide := true) only [aOps_nil, ev, absV, absS, putD, Slots.put, Slots.get, Slots.keep, if_true, if_false, true_and, ↓ap_binOp, pop_binOp, isNilC_int, cond_false, pBinX_int, pI_add, ↓ap_move, pop_move]
        try simp (disch := omega) only [wrap_i64]
        try simp only [thenA_normal]
        first
        | (refine ⟨⟨j + 1, out3, acc2 ++ [(q.2.1, k)]⟩, rfl, o3, ⟨hj', ⟨fun X => bufOk_other o1 X, by rw [o2, cellsP_eq, List.map_append]; rfl, fun e => by simp at e⟩, ?_, by simp only [List.length_append, List.length_cons, List.length_nil]; omega⟩, by simp only; omega⟩
           simp only
           rw [htf, hisq, hb3, if_pos rfl, hacc2, List.append_assoc])
        | (refine ⟨⟨j + 1, out2, acc2⟩, rfl, by rw [← hG2]; exact (by repeat (first | exact Sub.refl _ | assumption | refine Sub.set_both ?_ _ _ | refine Sub.trans_set ?_ (by repeat (first | assumption | refine (AHeap.set_ne _ _ (by first | assumption | exact Ne.symm (by assumption))).trans ?_)))), ⟨hj', hout2, ?_, by simp only; omega⟩, by simp only; omega⟩
           simp only
           rw [htf, hisq, hb3, hacc2]
           simp)
      · skip
        refine awp_skip ?_
        change Awp _ _ _ _ _ _ _
        -- region 22  pairs.go:98
        refine awp_r [2, 3, 4, 11, 14, 15, 54, 63, 64, 65] (by rfl) ?_
        simp (decide := true) only [aOps_nil, ev, absV, absS, putD, Slots.put, Slots.get, Slots.keep, if_true, if_false, true_and, ↓ap_binOp, pop_binOp, isNilC_int, cond_false, pBinX_int, pI_add, ↓ap_move, pop_move]
        try simp (disch := omega) only [wrap_i64]
        try simp only [thenA_normal]
        first
        | (refine ⟨⟨j + 1, out3, acc2 ++ [(q.2.1, k)]⟩, rfl, o3, ⟨hj', ⟨fun X => bufOk_other o1 X, by rw [o2, cellsP_eq, List.map_append]; rfl, fun e => by simp at e⟩, ?_, by simp only [List.length_append, List.length_cons, List.length_nil]; omega⟩, by simp only; omega⟩
           simp only
           rw [htf, hisq, hb3, if_pos rfl, hacc2, List.append_assoc])
        | (refine ⟨⟨j + 1, out2, acc2⟩, rfl, by rw [← hG2]; exact (by repeat (first | exact Sub.refl _ | assumption | refine Sub.set_both ?_ _ _ | refine Sub.trans_set ?_ (by repeat (first | assumption | refine (AHeap.set_ne _ _ (by first | assumption | exact Ne.symm (by assumption))).trans ?_)))), ⟨hj', hout2, ?_, by simp only; omega⟩, by simp only; omega⟩
           simp only
           rw [htf, hisq, hb3, hacc2]
           simp)
    · try simp only [decide_eq_false_iff_not] at hb2
      refine awp_exit ?_
      skip
      have hje : j = ks.length := by omega
      rw [hje, List.take_length] at hacc2
      refine ⟨⟨done ++ [q], seen ++ [q.1.1], out2, acc2⟩, rfl, by rw [← hIT, ← hG2]; exact (by repeat (first | exact Sub.refl _ | assumption | refine Sub.set_both ?_ _ _ | refine Sub.trans_set ?_ (by repeat (first | assumption | refine (AHeap.set_ne _ _ (by first | assumption | exact Ne.symm (by assumption))).trans ?_)))), ⟨hgone2, hout2, ?_, ?_⟩, ?_⟩
      · simp only
        have := among_snoc (pathsOf done) q.2 ps is
        rw [show pathsOf (done ++ [q]) = pathsOf done ++ [q.2] by simp [pathsOf], this, ← hacc, ← hs, ← hlook, ← hks]
        exact hacc2
      · simp only [List.length_append, List.length_cons, List.length_nil]
        rw [Nat.zero_add, Nat.add_mul, Nat.one_mul]
        omega
      · have := hgone2.len
        simp only [List.length_append, List.length_cons, List.length_nil] at this ⊢
        omega
  · skip
    subst hb1
    have hall := hgone.all hp14.asc (hm0 rfl)
    rw [hpa] at hall
    rw [hset]
    have hdl := hgone.len
    have hmul : done.length * ps.length ≤ 100000 * 100000 := Nat.mul_le_mul (by omega) (by omega)
    have hpm : acc.Perm (pairsE (pathsE (items la) ga true) (pathsE (items lb) gb true) is) := by
      rw [hacc, among_eq]
      exact pairs_perm hall hps is
    refine awp_exit ?_
    change Awp _ _ _ _ _ _ _
    -- region 23  pairs.go:104
    refine awp_rseq [14] (by rfl) fun K hK => ?_
    simp (decide := true) only [ev, putD, Slots.put, Slots.get, if_true, if_false, true_and, ↓ap_move, pop_move]
    refine aOps_call (by rfl) (by rfl) (c_sortAny w₀ _ out acc (hout.ok _) hout.eq hout.nil (by omega)) fun x23q1 h23q1 hx23q1 => ?_
    obtain ⟨rfl, qs, out', rfl, so1, so2, so3, so4, so5⟩ := hx23q1
    have hqs := sorted_pairs (paths_asc (items la) ga true) (paths_asc (items lb) gb true) is so5 (so4.trans hpm)
    have hqL : IsL w₀ (bufH (C.set k14q2 ⟨[.iterO kq cq seen' last'], 2⟩) out') 2 (bufV 2 out) (qs.map pairC) := by
      rw [← so3]
      exact IsL.buf so1 (by decide) (by rw [so2]; rfl) pairC_wide (Sub.refl _)
    simp (decide := true) only [aOps_nil, putD, Slots.put, Slots.keep, if_true, if_false]
    apply hK; clear hK K
    -- region 24  pairs.go:105
    refine awp_rseq [6, 7] (by rfl) fun K hK => ?_
    simp (decide := true) only [ev, putD, Slots.put, Slots.get, if_true, if_false, true_and, ↓ap_move, pop_move]
    refine aOps_callV (V := capL (bufV 2 out)) (by rfl) (by rfl) (c_clipP2 w₀ _ _ _ hqL) ?_
    simp (decide := true) only [aOps_nil, ev, absV, absS, putD, Slots.put, Slots.get, Slots.keep, if_true, if_false, true_and, ↓ap_assign, pop_assign]
    apply hK; clear hK K
    refine awp_ret ?_
    refine retA_retE (resPre_tmp (resPre_tmp (resPre_nil))) ?_
    simp (decide := true) only [Slots.get, if_true, if_false, resOf_two]
    refine ⟨_, Sub.refl _, hR _ _ ?_ (by cases out <;> rfl) (hs_h14q1.trans ((Sub.set hn_14q2).trans (Sub.buf so1)))⟩
    rw [← hqs]
    exact hqL.clip
end Go.Proofs.YtgnebodlkfblcaaDoor

/-
  Contracts: the pairs of two groups; Pairs, Numbers, Path.
  Conditions: none.
-/
namespace Go.Proofs.YtgnebodlkfblcaaDoor
open Go.AM
open Go.Proofs
open Go.Col
open Go.Prs
open Go.RowKit (Below)
set_option maxRecDepth 100000

/-- What is known of a group that is handed in: its row of items, short keys. -/
structure GrpOk (w₀ : World) (h : AHeap) (v : AVal) (g : Int) (l : List (ItemP × ItemO)) : Prop where
  row : IsL w₀ h 22 v (l.map itC)
  few : l.length ≤ 100000
  key : ∀ y ∈ pathsE (items l) g true, (keyE y.2).length ≤ 140737488355328
theorem GrpOk.mono {w₀ : World} {h h' : AHeap} {v : AVal} {g : Int} {l : List (ItemP × ItemO)} (hg : GrpOk w₀ h v g l) (hs : Sub h h') : GrpOk w₀ h' v g l := ⟨hg.row.mono hs, hg.few, hg.key⟩
def grpA (v : AVal) (sz g : Int) : AVal := .agg [v, .int .i64 sz, .int .i64 g]
/-- What Pairs and Numbers answer. -/
def AmongR (w₀ : World) (h : AHeap) (r : AVal) (res : List (Int × Int) × Int) (h' : AHeap) : Prop := ∃ outv, r = .tuple [outv, .int .i64 res.2] ∧ IsL w₀ h' 2 outv (res.1.map pairC) ∧ capL outv = outv ∧ Sub h h'

set_option maxHeartbeats 1000000 in
theorem c_among (w₀ : World) (ht10 : Tab10 w₀) (h : AHeap) (f : Nat) (va vb : AVal) (sza szb ga gb : Int) (la lb : List (ItemP × ItemO)) (isf : ItemP → ItemP → Bool) (hga : GrpOk w₀ h va ga la) (hgb : GrpOk w₀ h vb gb lb)
    (his : ∀ g x y o q, ACall Tryd.prog w₀ f [.agg (itemC x o), .agg (itemC y q)] g (fun v h' => v = .bool (isf x y) ∧ h' = g)) :
    ACall Tryd.prog w₀ 17 [grpA va sza ga, grpA vb szb gb, .func f []] h
      (fun r h' => AmongR w₀ h r (amongR (items la) (items lb) ga gb fun x y => isf ((items la).getD x.toNat default) ((items lb).getD y.toNat default)) h') := by
  have hlva := hga.row.live
  have hlvb := hgb.row.live
  unfold grpA
  refine acall_intro (n := 94) (rs := [.tmp 6, .tmp 7]) Tryd.func17 rfl rfl rfl rfl (Nat.le_of_ble_eq_true rfl) ?_
  simp only [initSlots]
  -- region 0  pairs.go:86
  refine awp_rseq [2, 3, 4] (by rfl) fun K hK => ?_
  refine aOps_box (by rfl) (by rfl) (by rfl) fun k0q0 hk0q0 => ?_
  try have hf_0q0 : h k0q0 = none := by first | assumption | (simp only [AHeap.set_none] at hk0q0; simp only [hk0q0])
  skip
  refine aOps_box (by rfl) (by rfl) (by rfl) fun k0q1 hk0q1 => ?_
  have ne_0q1_0q0 : k0q1 ≠ k0q0 := by simp only [AHeap.set_none] at hk0q1; simp only [hk0q1, ne_eq, not_false_eq_true]
  try have hf_0q1 : h k0q1 = none := by first | assumption | (simp only [AHeap.set_none] at hk0q1; simp only [hk0q1])
  skip
  simp (decide := true) only [aOps_nil, ev, absV, absS, putD, Slots.put, Slots.get, Slots.keep, if_true, if_false, true_and, ↓ap_assign, pop_assign, AVal.cells, Nat.zero_add, Nat.reduceAdd]
  apply hK; clear hK K
  refine awp_seq ?_
  -- region 1  pairs.go:87
  refine awp_rseq [2, 3, 4, 21, 22, 23] (by rfl) fun K hK => ?_
  simp (decide := true) only [ev, putD, Slots.put, Slots.get, if_true, if_false, true_and, ↓ap_loadL, apL_mk, pLoad_agg ag35 sz35, rd_ne', ne_eq, not_false_eq_true, ne_0q1_0q0.symm, rd_any, cellsAt, List.getD_cons_zero, List.getD_cons_succ, Nat.zero_add, Nat.reduceAdd, lv_int, allLive, Bool.and_true, hlva, hlvb]
  refine aOps_buildSlice (cs := [va, .int .i64 sza, .int .i64 ga, vb, .int .i64 szb, .int .i64 gb]) (by kernel_rfl) fun k1q2 hk1q2 => ?_
  have ne_1q2_0q0 : k1q2 ≠ k0q0 := by simp only [AHeap.set_none] at hk1q2; simp only [hk1q2, ne_eq, not_false_eq_true]
  have ne_1q2_0q1 : k1q2 ≠ k0q1 := by simp only [AHeap.set_none] at hk1q2; simp only [hk1q2, ne_eq, not_false_eq_true]
  try have hf_1q2 : h k1q2 = none := by first | assumption | (simp only [AHeap.set_none] at hk1q2; simp only [hk1q2])
  simp (decide := true) only [aOps_nil, ev, absV, absS, putD, Slots.put, Slots.get, Slots.keep, if_true, if_false, true_and, ↓ap_len, pop_len, pLen_slice Tryd.underlying67, ↓ap_move, pop_move]
  apply hK; clear hK K
  refine awp_block ?_
  refine awp_loopG [2, 3, 4, 21, 22, 23] (fun i : Nat => [(2, .func f []), (3, .ptr (.own k0q0) 0), (4, .ptr (.own k0q1) 0), (21, .slice (.own k1q2) 0 2 (.exact 2)), (22, .int .i64 2), (23, .int .i64 i)]) (fun i : Nat => ((h.set k0q0 ⟨[va, .int .i64 sza, .int .i64 ga], 0⟩).set k0q1 ⟨[vb, .int .i64 szb, .int .i64 gb], 0⟩).set k1q2 ⟨[va, .int .i64 sza, .int .i64 ga, vb, .int .i64 szb, .int .i64 gb], 0⟩) (fun i : Nat => i ≤ 2 ∧ (1 ≤ i → checkE (items la) ga = 0) ∧ (2 ≤ i → checkE (items lb) gb = 0)) (fun i : Nat => 2 - i) 0 (by rfl) (Sub.refl _) ⟨by omega, fun h => by omega, fun h => by omega⟩ ?_
  rintro i ⟨hi, hca, hcb⟩
  obtain ⟨H0, hH0⟩ : ∃ H0, H0 = ((h.set k0q0 ⟨[va, .int .i64 sza, .int .i64 ga], 0⟩).set k0q1 ⟨[vb, .int .i64 szb, .int .i64 gb], 0⟩).set k1q2 ⟨[va, .int .i64 sza, .int .i64 ga, vb, .int .i64 szb, .int .i64 gb], 0⟩ := ⟨_, rfl⟩
  have hs_H0 : Sub h H0 := by rw [hH0]; exact (by repeat (first | exact Sub.refl _ | assumption | refine Sub.set_both ?_ _ _ | refine Sub.trans_set ?_ (by repeat (first | assumption | refine (AHeap.set_ne _ _ (by first | assumption | exact Ne.symm (by assumption))).trans ?_))))
  have eb_0q0 : H0 k0q0 = some ⟨[va, .int .i64 sza, .int .i64 ga], 0⟩ := by rw [hH0]; exact (by repeat (first | exact AHeap.set_same _ _ _ | assumption | refine (AHeap.set_ne _ _ (by first | assumption | exact Ne.symm (by assumption))).trans ?_))
  have eb_0q1 : H0 k0q1 = some ⟨[vb, .int .i64 szb, .int .i64 gb], 0⟩ := by rw [hH0]; exact (by repeat (first | exact AHeap.set_same _ _ _ | assumption | refine (AHeap.set_ne _ _ (by first | assumption | exact Ne.symm (by assumption))).trans ?_))
  have eb_1q2 : H0 k1q2 = some ⟨[va, .int .i64 sza, .int .i64 ga, vb, .int .i64 szb, .int .i64 gb], 0⟩ := by rw [hH0]; exact (by repeat (first | exact AHeap.set_same _ _ _ | assumption | refine (AHeap.set_ne _ _ (by first | assumption | exact Ne.symm (by assumption))).trans ?_))
  rw [← hH0]
  -- region 2  pairs.go:87
  refine awp_rseq [2, 3, 4, 21, 22, 23, 24] (by rfl) fun K hK => ?_
  simp (decide := true) only [aOps_nil, ev, putD, Slots.put, Slots.get, Slots.keep, if_true, if_false, true_and, ↓ap_binOp, pop_binOp, isNilC_tmp, cond_false, pBinX_int, pI_lss]
  apply hK; clear hK K
  refine awp_seq (awp_cond (b := _) rfl (fun hb1 => ?_) (fun hb1 => ?_))
  · try simp only [decide_eq_true_eq] at hb1
    have hi' : i < 2 := by omega
    obtain ⟨v, sz, g, l, hcell, hgv, hcase⟩ : ∃ v sz g l, cellsAt w₀ H0 (.own k1q2) (i * 3) 3 = [v, .int .i64 sz, .int .i64 g] ∧ GrpOk w₀ h v g l ∧ ((i = 0 ∧ l = la ∧ g = ga) ∨ (i = 1 ∧ l = lb ∧ g = gb)) := by
      have hL : IsL w₀ H0 3 (.slice (.own k1q2) 0 2 (.exact 2)) [[va, .int .i64 sza, .int .i64 ga], [vb, .int .i64 szb, .int .i64 gb]] := IsL.own (xs := [[va, .int .i64 sza, .int .i64 ga], [vb, .int .i64 szb, .int .i64 gb]]) eb_1q2 (by simp) (by rfl) (by simp only [List.flatten_cons, List.flatten_nil, List.cons_append, List.nil_append, allLive, hlva, hlvb]; rfl) (.exact 2) (Nat.le_refl _)
      have he := hL.elem (i := i) (by simpa using hi')
      rw [Nat.zero_add] at he
      rcases (by omega : i = 0 ∨ i = 1) with rfl | rfl
      · exact ⟨va, sza, ga, la, he, hga, .inl ⟨rfl, rfl, rfl⟩⟩
      · exact ⟨vb, szb, gb, lb, he, hgb, .inr ⟨rfl, rfl, rfl⟩⟩
    have hlv := hgv.row.live
    refine awp_skip ?_
    change Awp _ _ _ _ _ _ _
    refine awp_seq ?_
    refine awp_block ?_
    -- region 3  pairs.go:87
    refine awp_rseq [2, 3, 4, 9, 21, 22, 23] (by rfl) fun K hK => ?_
    simp (decide := true) only [ev, putD, Slots.put, Slots.get, if_true, if_false, true_and, ↓ap_indexAddrL, apL_mk, pIndexAddr_slice Tryd.underlying67 sz35, ↓ap_loadL, pLoad_agg ag35 sz35, Nat.zero_add, lv_int, allLive, Bool.and_true, hlv, ↓hcell, Int.toNat_natCast]
    repeat (with_reducible refine And.intro ?_ ?_; · first | trivial | omega | (intro hg; simp only [Bool.and_eq_true, Bool.or_eq_true, Bool.not_eq_true', Bool.and_eq_false_iff, Bool.or_eq_false_iff, Bool.not_eq_false', decide_eq_true_eq, decide_eq_false_iff_not, eqNil] at hg; omega) )
    refine aOps_alloc ze35 (cs := [.nilSlice, .int .i64 0, .int .i64 0]) (by rfl) fun k3q2 hk3q2 => ?_
    have hn_3q2 : H0 k3q2 = none := by first | assumption | (simp only [AHeap.set_none] at hk3q2; simp only [hk3q2])
    have hf_3q2 : h k3q2 = none := Sub.none hs_H0 hn_3q2
    have ne_3q2_0q0 : k3q2 ≠ k0q0 := AHeap.ne_some hn_3q2 eb_0q0
    have ne_3q2_0q1 : k3q2 ≠ k0q1 := AHeap.ne_some hn_3q2 eb_0q1
    have ne_3q2_1q2 : k3q2 ≠ k1q2 := AHeap.ne_some hn_3q2 eb_1q2
    refine aOps_store (by rfl) (by rfl) (by repeat (first | exact AHeap.set_same _ _ _ | assumption | refine (AHeap.set_ne _ _ (by first | assumption | exact Ne.symm (by assumption))).trans ?_)) sz35 (by rfl) (by rfl) (by first | exact Nat.le_refl _ | decide | (simp; done) | (simp; omega)) (Nat.zero_le _) (by first | rfl | (simp (decide := true) only [ev, putD, Slots.put, Slots.get, if_true, if_false, AVal.cells, allScal, Bool.and_true, sc_int, hgv.row.scal])) ?_
    simp only [AHeap.set_set, AVal.cells]
    simp (decide := true) only [aOps_nil, ev, putD, Slots.put, Slots.get, Slots.keep, if_true, if_false, setAt, List.set_cons_zero, List.set_cons_succ, Nat.zero_add, Nat.reduceAdd]
    apply hK; clear hK K
    -- region 4  pairs.go:88
    refine awp_rseq [2, 3, 4, 10, 21, 22, 23] (by rfl) fun K hK => ?_
    simp (decide := true) only [ev, putD, Slots.put, Slots.get, if_true, if_false, true_and, ↓ap_loadL, apL_mk, pLoad_agg ag35 sz35, rd_any, cellsAt, List.getD_cons_zero, List.getD_cons_succ, Nat.zero_add, Nat.reduceAdd, lv_int, allLive, Bool.and_true, hlv]
    refine aOps_callV (V := .int .i64 (checkE (items l) g)) (by rfl) (by rfl) (c_check w₀ _ v sz g l (hgv.row.mono (by repeat (first | exact Sub.refl _ | assumption | refine Sub.set_both ?_ _ _ | refine Sub.trans_set ?_ (by repeat (first | assumption | refine (AHeap.set_ne _ _ (by first | assumption | exact Ne.symm (by assumption))).trans ?_))))) (by have := hgv.few; omega)) ?_
    simp (decide := true) only [aOps_nil, ev, putD, Slots.put, Slots.get, Slots.keep, if_true, if_false, true_and, ↓ap_assign, pop_assign]
    apply hK; clear hK K
    -- region 5  pairs.go:88
    refine awp_rseq [2, 3, 4, 10, 21, 22, 23, 30] (by rfl) fun K hK => ?_
    simp (decide := true) only [aOps_nil, ev, absV, absS, putD, Slots.put, Slots.get, Slots.keep, if_true, if_false, true_and, ↓ap_move, pop_move, ↓ap_binOp, pop_binOp, isNilC_int, cond_false, pBinX_int, pI_neq]
    apply hK; clear hK K
    refine awp_cond (b := _) rfl (fun hb2 => ?_) (fun hb2 => ?_)
    · try simp only [decide_eq_false_iff_not, Bool.not_eq_true'] at hb2
      -- region 6  pairs.go:89
      refine awp_rseq [6, 7] (by rfl) fun K hK => ?_
      simp (decide := true) only [aOps_nil, ev, absV, absS, putD, Slots.put, Slots.get, Slots.keep, if_true, if_false, true_and, ↓ap_move, pop_move, ↓ap_assign, pop_assign]
      apply hK; clear hK K
      refine awp_ret ?_
      try simp only [thenA_ret, inBlockA_ret]
      refine retA_ret h (by repeat (first | exact Sub.refl _ | assumption | refine Sub.trans_set ?_ (by assumption))) (resPre_tmp (resPre_tmp (resPre_nil))) ?_
      simp (decide := true) only [Slots.get, if_true, if_false, resOf_two]
      refine ⟨.nilSlice, ?_, ?_, rfl, Sub.refl _⟩
      · rcases hcase with ⟨rfl, rfl, rfl⟩ | ⟨rfl, rfl, rfl⟩
        · unfold amongR
          rw [if_pos hb2]
        · unfold amongR
          rw [if_neg (by rw [hca (by omega)]; decide), if_pos hb2]
      · have : (amongR (items la) (items lb) ga gb fun x y => isf ((items la).getD x.toNat default) ((items lb).getD y.toNat default)).1 = [] := by
          refine among_none ?_
          rcases hcase with ⟨rfl, rfl, rfl⟩ | ⟨rfl, rfl, rfl⟩
          · unfold amongR
            rw [if_pos hb2]
            exact hb2
          · unfold amongR
            rw [if_neg (by rw [hca (by omega)]; decide), if_pos hb2]
            exact hb2
        rw [this]
        exact .nil
    · try simp only [decide_eq_true_eq, Bool.not_eq_false'] at hb2
      refine awp_skip ?_
      change Awp _ _ _ _ _ _ _
      -- region 7  pairs.go:87
      refine awp_r [2, 3, 4, 21, 22, 23] (by rfl) ?_
      simp (decide := true) only [aOps_nil, ev, absV, absS, putD, Slots.put, Slots.get, Slots.keep, if_true, if_false, true_and, ↓ap_binOp, pop_binOp, isNilC_int, cond_false, pBinX_int, pI_add, ↓ap_move, pop_move]
      try simp (disch := omega) only [wrap_i64]
      try simp only [thenA_normal]
      refine ⟨i + 1, rfl, (by repeat (first | exact Sub.refl _ | assumption | refine Sub.set_both ?_ _ _ | refine Sub.trans_set ?_ (by repeat (first | assumption | refine (AHeap.set_ne _ _ (by first | assumption | exact Ne.symm (by assumption))).trans ?_)))), ⟨by omega, fun h1 => ?_, fun h2 => ?_⟩, by omega⟩
      · rcases hcase with ⟨rfl, rfl, rfl⟩ | ⟨rfl, rfl, rfl⟩
        · simpa using hb2
        · exact hca (by omega)
      · rcases hcase with ⟨rfl, rfl, rfl⟩ | ⟨rfl, rfl, rfl⟩
        · omega
        · simpa using hb2
  · try simp only [decide_eq_false_iff_not] at hb1
    refine awp_exit ?_
    change Awp _ _ _ _ _ _ _
    refine Awp.keep [2, 3, 4] ?_
    have hc1 := hca (by omega)
    have hc2 := hcb (by omega)
    refine l_among8 w₀ ht10 H0 f k0q0 k0q1 va vb sza szb ga gb lb _ eb_0q0 eb_0q1 (hgb.row.mono hs_H0) hgb.few hgb.key fun km H c os ps B he hps => ?_
    refine l_among13 w₀ ht10 H0 H B f k0q0 k0q1 km c va vb sza szb ga gb la lb os ps isf _ he hps (hga.row.mono hs_H0) (hgb.row.mono hs_H0) hga.few hgb.few hga.key his fun outv h' hL hcap hs => ?_
    have hres : amongR (items la) (items lb) ga gb (fun x y => isf ((items la).getD x.toNat default) ((items lb).getD y.toNat default)) = (pairsE (pathsE (items la) ga true) (pathsE (items lb) gb true) fun x y => isf ((items la).getD x.toNat default) ((items lb).getD y.toNat default), 0) := by
      unfold amongR
      rw [if_neg (by rw [hc1]; decide), if_neg (by rw [hc2]; decide)]
    rw [hres]
    exact ⟨outv, rfl, hL, hcap, hs_H0.trans hs⟩
theorem c_Pairs (w₀ : World) (ht10 : Tab10 w₀) (h : AHeap) (va vb : AVal) (sza szb ga gb : Int) (la lb : List (ItemP × ItemO)) (hga : GrpOk w₀ h va ga la) (hgb : GrpOk w₀ h vb gb lb) :
    ACall Tryd.prog w₀ 10 [grpA va sza ga, grpA vb szb gb] h (fun r h' => AmongR w₀ h r (amongR (items la) (items lb) ga gb (isP (items la) (items lb))) h') := by
  have hlva := hga.row.live
  have hlvb := hgb.row.live
  unfold grpA
  refine acall_intro (n := 11) (rs := [.tmp 4, .tmp 5]) Tryd.func10 rfl rfl rfl rfl (Nat.le_of_ble_eq_true rfl) ?_
  simp only [initSlots]
  -- region 0  pairs.go:63
  refine awp_rseq [2, 3] (by rfl) fun K hK => ?_
  refine aOps_box (by rfl) (by rfl) (by rfl) fun k0q0 hk0q0 => ?_
  try have hf_0q0 : h k0q0 = none := by first | assumption | (simp only [AHeap.set_none] at hk0q0; simp only [hk0q0])
  skip
  refine aOps_box (by rfl) (by rfl) (by rfl) fun k0q1 hk0q1 => ?_
  have ne_0q1_0q0 : k0q1 ≠ k0q0 := by simp only [AHeap.set_none] at hk0q1; simp only [hk0q1, ne_eq, not_false_eq_true]
  try have hf_0q1 : h k0q1 = none := by first | assumption | (simp only [AHeap.set_none] at hk0q1; simp only [hk0q1])
  skip
  simp (decide := true) only [aOps_nil, ev, absV, absS, putD, Slots.put, Slots.get, Slots.keep, if_true, if_false, true_and, ↓ap_assign, pop_assign, AVal.cells, Nat.zero_add]
  apply hK; clear hK K
  -- region 1  pairs.go:64
  refine awp_rseq [4, 5] (by rfl) fun K hK => ?_
  simp (decide := true) only [ev, putD, Slots.put, Slots.get, if_true, if_false, true_and, ↓ap_loadL, apL_mk, pLoad_agg ag35 sz35, rd_ne', ne_eq, not_false_eq_true, ne_0q1_0q0.symm, rd_any, cellsAt, List.getD_cons_zero, List.getD_cons_succ, Nat.zero_add, Nat.reduceAdd, lv_int, allLive, Bool.and_true, hlva, hlvb]
  refine aOps_call (by rfl) (by rfl) (c_among w₀ ht10 _ 18 va vb sza szb ga gb la lb (fun x y => decide (x.cat ≠ 0) || decide (y.cat ≠ 0)) (hga.mono (by repeat (first | exact Sub.refl _ | assumption | refine Sub.set_both ?_ _ _ | refine Sub.trans_set ?_ (by repeat (first | assumption | refine (AHeap.set_ne _ _ (by first | assumption | exact Ne.symm (by assumption))).trans ?_))))) (hgb.mono (by repeat (first | exact Sub.refl _ | assumption | refine Sub.set_both ?_ _ _ | refine Sub.trans_set ?_ (by repeat (first | assumption | refine (AHeap.set_ne _ _ (by first | assumption | exact Ne.symm (by assumption))).trans ?_))))) (fun g x y o q => c_isP w₀ g x y o q)) fun x1q2 h1q2 hx1q2 => ?_
  obtain ⟨outv, rfl, hL1, hcap1, hs1⟩ := hx1q2
  simp (decide := true) only [aOps_nil, ev, putD, Slots.put, Slots.get, Slots.keep, if_true, if_false, true_and, ↓ap_extract, pop_extract, pExt_tuple, List.length_cons, List.length_nil, List.getD_cons_zero, List.getD_cons_succ, ↓ap_assign, pop_assign, ne_eq, List.getD_cons_zero, List.getD_cons_succ, Nat.zero_add, Nat.reduceAdd]
  apply hK; clear hK K
  refine awp_ret ?_
  refine retA_retE (resPre_tmp (resPre_tmp (resPre_nil))) ?_
  simp (decide := true) only [Slots.get, if_true, if_false, resOf_two]
  refine ⟨_, Sub.refl _, outv, rfl, hL1, hcap1, ?_⟩
  exact Sub.trans (by repeat (first | exact Sub.refl _ | assumption | refine Sub.set_both ?_ _ _ | refine Sub.trans_set ?_ (by repeat (first | assumption | refine (AHeap.set_ne _ _ (by first | assumption | exact Ne.symm (by assumption))).trans ?_)))) hs1
theorem c_Numbers (w₀ : World) (ht10 : Tab10 w₀) (h : AHeap) (va vb : AVal) (sza szb ga gb : Int) (la lb : List (ItemP × ItemO)) (hga : GrpOk w₀ h va ga la) (hgb : GrpOk w₀ h vb gb lb) :
    ACall Tryd.prog w₀ 11 [grpA va sza ga, grpA vb szb gb] h (fun r h' => AmongR w₀ h r (amongR (items la) (items lb) ga gb (isN (items la) (items lb))) h') := by
  have hlva := hga.row.live
  have hlvb := hgb.row.live
  unfold grpA
  refine acall_intro (n := 11) (rs := [.tmp 4, .tmp 5]) Tryd.func11 rfl rfl rfl rfl (Nat.le_of_ble_eq_true rfl) ?_
  simp only [initSlots]
  -- region 0  pairs.go:70
  refine awp_rseq [2, 3] (by rfl) fun K hK => ?_
  refine aOps_box (by rfl) (by rfl) (by rfl) fun k0q0 hk0q0 => ?_
  try have hf_0q0 : h k0q0 = none := by first | assumption | (simp only [AHeap.set_none] at hk0q0; simp only [hk0q0])
  skip
  refine aOps_box (by rfl) (by rfl) (by rfl) fun k0q1 hk0q1 => ?_
  have ne_0q1_0q0 : k0q1 ≠ k0q0 := by simp only [AHeap.set_none] at hk0q1; simp only [hk0q1, ne_eq, not_false_eq_true]
  try have hf_0q1 : h k0q1 = none := by first | assumption | (simp only [AHeap.set_none] at hk0q1; simp only [hk0q1])
  skip
  simp (decide := true) only [aOps_nil, ev, absV, absS, putD, Slots.put, Slots.get, Slots.keep, if_true, if_false, true_and, ↓ap_assign, pop_assign, AVal.cells, Nat.zero_add]
  apply hK; clear hK K
  -- region 1  pairs.go:71
  refine awp_rseq [4, 5] (by rfl) fun K hK => ?_
  simp (decide := true) only [ev, putD, Slots.put, Slots.get, if_true, if_false, true_and, ↓ap_loadL, apL_mk, pLoad_agg ag35 sz35, rd_ne', ne_eq, not_false_eq_true, ne_0q1_0q0.symm, rd_any, cellsAt, List.getD_cons_zero, List.getD_cons_succ, Nat.zero_add, Nat.reduceAdd, lv_int, allLive, Bool.and_true, hlva, hlvb]
  refine aOps_call (by rfl) (by rfl) (c_among w₀ ht10 _ 19 va vb sza szb ga gb la lb (fun x y => decide (x.cat = 4) && decide (y.cat = 4)) (hga.mono (by repeat (first | exact Sub.refl _ | assumption | refine Sub.set_both ?_ _ _ | refine Sub.trans_set ?_ (by repeat (first | assumption | refine (AHeap.set_ne _ _ (by first | assumption | exact Ne.symm (by assumption))).trans ?_))))) (hgb.mono (by repeat (first | exact Sub.refl _ | assumption | refine Sub.set_both ?_ _ _ | refine Sub.trans_set ?_ (by repeat (first | assumption | refine (AHeap.set_ne _ _ (by first | assumption | exact Ne.symm (by assumption))).trans ?_))))) (fun g x y o q => c_isN w₀ g x y o q)) fun x1q2 h1q2 hx1q2 => ?_
  obtain ⟨outv, rfl, hL1, hcap1, hs1⟩ := hx1q2
  simp (decide := true) only [aOps_nil, ev, putD, Slots.put, Slots.get, Slots.keep, if_true, if_false, true_and, ↓ap_extract, pop_extract, pExt_tuple, List.length_cons, List.length_nil, List.getD_cons_zero, List.getD_cons_succ, ↓ap_assign, pop_assign, List.getD_cons_zero, List.getD_cons_succ, Nat.zero_add, Nat.reduceAdd]
  apply hK; clear hK K
  refine awp_ret ?_
  refine retA_retE (resPre_tmp (resPre_tmp (resPre_nil))) ?_
  simp (decide := true) only [Slots.get, if_true, if_false, resOf_two]
  refine ⟨_, Sub.refl _, outv, rfl, hL1, hcap1, ?_⟩
  exact Sub.trans (by repeat (first | exact Sub.refl _ | assumption | refine Sub.set_both ?_ _ _ | refine Sub.trans_set ?_ (by repeat (first | assumption | refine (AHeap.set_ne _ _ (by first | assumption | exact Ne.symm (by assumption))).trans ?_)))) hs1
/-- What Path answers. -/
theorem c_Path (w₀ : World) (h : AHeap) (v : AVal) (sz g it : Int) (l : List (ItemP × ItemO)) (hv : IsL w₀ h 22 v (l.map itC)) (hl : l.length ≤ 100000) :
    ACall Tryd.prog w₀ 15 [grpA v sz g, .int .i64 it] h (fun r h' => ∃ pv, r = .tuple [pv, .int .i64 (pathR (items l) g it).2] ∧ IsL w₀ h' 1 pv ((pathR (items l) g it).1.map strC) ∧ capL pv = pv ∧ Sub h h') := by
  have hlv := hv.live
  have nv := it_len hv
  have hin := items_len l
  unfold grpA
  refine acall_intro (n := 37) (rs := [.tmp 4, .tmp 5]) Tryd.func15 rfl rfl rfl rfl (Nat.le_of_ble_eq_true rfl) ?_
  simp only [initSlots]
  -- region 0  pairs.go:109
  refine awp_rseq [1, 2] (by rfl) fun K hK => ?_
  refine aOps_box (by rfl) (by rfl) (by rfl) fun k0q0 hk0q0 => ?_
  try have hf_0q0 : h k0q0 = none := by first | assumption | (simp only [AHeap.set_none] at hk0q0; simp only [hk0q0])
  skip
  simp (decide := true) only [aOps_nil, ev, absV, absS, putD, Slots.put, Slots.get, Slots.keep, if_true, if_false, true_and, ↓ap_assign, pop_assign, AVal.cells, Nat.zero_add]
  apply hK; clear hK K
  -- region 1  pairs.go:110
  refine awp_rseq [1, 2, 6] (by rfl) fun K hK => ?_
  simp (decide := true) only [ev, putD, Slots.put, Slots.get, if_true, if_false, true_and, ↓ap_loadL, apL_mk, pLoad_agg ag35 sz35, rd_any, cellsAt, List.getD_cons_zero, List.getD_cons_succ, Nat.zero_add, Nat.reduceAdd, lv_int, allLive, Bool.and_true, hlv]
  refine aOps_callV (V := .int .i64 (checkE (items l) g)) (by rfl) (by rfl) (c_check w₀ _ v sz g l (hv.mono (by repeat (first | exact Sub.refl _ | assumption | refine Sub.set_both ?_ _ _ | refine Sub.trans_set ?_ (by repeat (first | assumption | refine (AHeap.set_ne _ _ (by first | assumption | exact Ne.symm (by assumption))).trans ?_))))) (by omega)) ?_
  simp (decide := true) only [aOps_nil, ev, putD, Slots.put, Slots.get, Slots.keep, if_true, if_false, true_and, ↓ap_assign, pop_assign]
  apply hK; clear hK K
  refine awp_seq ?_
  refine awp_block ?_
  -- region 2  pairs.go:112
  refine awp_rseq [1, 2, 6, 11] (by rfl) fun K hK => ?_
  simp (decide := true) only [aOps_nil, ev, absV, absS, putD, Slots.put, Slots.get, Slots.keep, if_true, if_false, true_and, ↓ap_move, pop_move, ↓ap_binOp, pop_binOp, isNilC_int, cond_false, pBinX_int, pI_neq, ↓ap_assign, pop_assign]
  apply hK; clear hK K
  refine awp_cond (b := _) rfl (fun hb1 => ?_) (fun hb1 => ?_)
  · try simp only [decide_eq_false_iff_not, Bool.not_eq_true'] at hb1
    -- region 3  pairs.go:113
    refine awp_rseq [4, 5] (by rfl) fun K hK => ?_
    simp (decide := true) only [aOps_nil, ev, absV, absS, putD, Slots.put, Slots.get, Slots.keep, if_true, if_false, true_and, ↓ap_move, pop_move, ↓ap_assign, pop_assign]
    apply hK; clear hK K
    refine awp_ret ?_
    try simp only [thenA_ret, inBlockA_ret]
    refine retA_ret h (by repeat (first | exact Sub.refl _ | assumption | refine Sub.trans_set ?_ (by assumption))) (resPre_tmp (resPre_tmp (resPre_nil))) ?_
    simp (decide := true) only [Slots.get, if_true, if_false, resOf_two]
    have e1 : pathR (items l) g it = ([], checkE (items l) g) := by unfold pathR; rw [if_pos hb1]
    rw [e1]
    exact ⟨.nilSlice, rfl, .nil, rfl, Sub.refl _⟩
  · try simp only [decide_eq_true_eq, Bool.not_eq_false'] at hb1
    have hc0 : ¬ checkE (items l) g ≠ 0 := fun q => q (by simpa using hb1)
    -- region 4  pairs.go:114
    refine awp_rseq [1, 2, 15] (by rfl) fun K hK => ?_
    simp (decide := true) only [aOps_nil, ev, absV, absS, putD, Slots.put, Slots.get, Slots.keep, if_true, if_false, true_and, ↓ap_move, pop_move, ↓ap_binOp, pop_binOp, isNilC_int, cond_false, pBinX_int, pI_lss, ↓ag_move, agP, agQ_some, nthDst, gKnown_bool, guardB_bool_false, implies_true, ↓ag_fieldAddr, pop_fieldAddr, fa35_0, cv_fieldAddr, cp_fieldAddr, fa27_0, ↓ag_loadL, agQL_some, agL_mk, agL_ld2, pLoad_one ag25, ↓ag_len, pop_len, cv_len, cp_len, ↓ag_binOp, isNilC_tmp, cv_binl, cv_binr, cp_binl, cp_binr, pI_geq, ↓ap_pick, pop_pick, pPick_bool, pickV_cond_r, pickV_or, ↓ap_assign, pop_assign, rd_any, List.getD_cons_zero, Nat.zero_add, hlv, nv]
    apply hK; clear hK K
    refine awp_cond (b := _) rfl (fun hb2 => ?_) (fun hb2 => ?_)
    · try simp only [decide_eq_true_eq, Bool.or_eq_true] at hb2
      -- region 5  pairs.go:115
      refine awp_rseq [4, 5] (by rfl) fun K hK => ?_
      simp (decide := true) only [aOps_nil, ev, absV, absS, putD, Slots.put, Slots.keep, if_true, if_false, true_and, ↓ap_assign, pop_assign]
      apply hK; clear hK K
      refine awp_ret ?_
      try simp only [thenA_ret, inBlockA_ret]
      refine retA_ret h (by repeat (first | exact Sub.refl _ | assumption | refine Sub.trans_set ?_ (by assumption))) (resPre_tmp (resPre_tmp (resPre_nil))) ?_
      simp (decide := true) only [Slots.get, if_true, if_false, resOf_two]
      have e1 : pathR (items l) g it = ([], 1) := by
        unfold pathR
        rw [if_neg hc0, if_pos (by rw [hin]; omega)]
      rw [e1]
      exact ⟨.nilSlice, rfl, .nil, rfl, Sub.refl _⟩
    · try simp only [decide_eq_false_iff_not, Bool.or_eq_false_iff] at hb2
      have hit : ¬ (it < 0 ∨ ((items l).length : Int) ≤ it) := by rw [hin]; omega
      have hres : pathR (items l) g it = (match lookA it (pathsE (items l) g false) with | none => ([], 7) | some p => (p, 0)) := by
        unfold pathR
        rw [if_neg hc0, if_neg hit]
        try (cases lookA it (pathsE (items l) g false) <;> rfl)
      refine awp_skip ?_
      change Awp _ _ _ _ _ _ _
      -- region 6  pairs.go:117
      refine awp_rseq [7, 8] (by rfl) fun K hK => ?_
      simp (decide := true) only [ev, putD, Slots.put, Slots.get, if_true, if_false, true_and, ↓ap_loadL, apL_mk, pLoad_agg ag35 sz35, rd_any, cellsAt, List.getD_cons_zero, List.getD_cons_succ, Nat.zero_add, Nat.reduceAdd, lv_int, allLive, Bool.and_true, hlv]
      refine aOps_call (by rfl) (by rfl) (c_paths w₀ _ v sz g false l (hv.mono (by repeat (first | exact Sub.refl _ | assumption | refine Sub.set_both ?_ _ _ | refine Sub.trans_set ?_ (by repeat (first | assumption | refine (AHeap.set_ne _ _ (by first | assumption | exact Ne.symm (by assumption))).trans ?_))))) hl) fun x6q1 h6q1 hx6q1 => ?_
      obtain ⟨kp, cp, qs, rfl, hkp, hp6, hps, hs6⟩ := hx6q1
      obtain ⟨v0, hlk, hv0⟩ := look_paths hp6 it
      rw [hps] at hlk hv0
      have hlk6 := hlk _ (Sub.refl _)
      have hlv0 := hv0.live
      have hs_h6q1 : Sub h h6q1 := Sub.trans (by repeat (first | exact Sub.refl _ | assumption | refine Sub.trans_set ?_ (by assumption))) hs6
      have hr_h6q1 := hs_h6q1
      have eb_0q0 := hs6 k0q0 _ (by repeat (first | exact AHeap.set_same _ _ _ | assumption | refine (AHeap.set_ne _ _ (by first | assumption | exact Ne.symm (by assumption))).trans ?_))
      simp (decide := true) only [aOps_nil, ev, putD, Slots.put, Slots.get, Slots.keep, if_true, if_false, true_and, ↓ap_move, pop_move, ↓ap_lookup, pop_lookup, ↓ap_extract, pop_extract, pExt_tuple, List.length_cons, List.length_nil, List.getD_cons_zero, List.getD_cons_succ, ↓ap_assign, pop_assign, List.getD_cons_zero, List.getD_cons_succ, Nat.zero_add, Nat.reduceAdd, hlk6]
      apply hK; clear hK K
      refine awp_seq ?_
      -- region 7  pairs.go:118
      refine awp_rseq [7, 34] (by rfl) fun K hK => ?_
      simp (decide := true) only [aOps_nil, ev, putD, Slots.put, Slots.get, Slots.keep, if_true, if_false, true_and, ↓ap_move, pop_move, ↓ap_unOp, pop_unOp, pU_not]
      apply hK; clear hK K
      refine awp_cond (b := _) rfl (fun hb3 => ?_) (fun hb3 => ?_)
      · try simp only [Bool.not_eq_true'] at hb3
        -- region 8  pairs.go:119
        refine awp_rseq [4, 5] (by rfl) fun K hK => ?_
        simp (decide := true) only [aOps_nil, ev, absV, absS, putD, Slots.put, Slots.keep, if_true, if_false, true_and, ↓ap_assign, pop_assign]
        apply hK; clear hK K
        refine awp_ret ?_
        try simp only [thenA_ret]
        refine retA_ret h (by repeat (first | exact Sub.refl _ | assumption | refine Sub.trans_set ?_ (by assumption))) (resPre_tmp (resPre_tmp (resPre_nil))) ?_
        simp (decide := true) only [Slots.get, if_true, if_false, resOf_two]
        have hn : lookA it (pathsE (items l) g false) = none := by simpa using hb3
        rw [hn] at hres
        rw [hres]
        exact ⟨.nilSlice, rfl, .nil, rfl, Sub.refl _⟩
      · try simp only [Bool.not_eq_false'] at hb3
        obtain ⟨p, hp⟩ : ∃ p, lookA it (pathsE (items l) g false) = some p := Option.isSome_iff_exists.1 (by simpa using hb3)
        rw [hp] at hres hv0
        simp only [Option.getD_some] at hv0
        refine awp_skip ?_
        change Awp _ _ _ _ _ _ _
        -- region 9  pairs.go:121
        refine awp_rseq [4, 5] (by rfl) fun K hK => ?_
        simp (decide := true) only [ev, putD, Slots.put, Slots.get, if_true, if_false, true_and, ↓ap_move, pop_move]
        refine aOps_callV (V := capL v0) (by rfl) (by rfl) (c_clipS w₀ _ v0 _ hv0) ?_
        simp (decide := true) only [aOps_nil, ev, absV, absS, putD, Slots.put, Slots.get, Slots.keep, if_true, if_false, true_and, ↓ap_assign, pop_assign]
        apply hK; clear hK K
        refine awp_ret ?_
        refine retA_retE (resPre_tmp (resPre_tmp (resPre_nil))) ?_
        simp (decide := true) only [Slots.get, if_true, if_false, resOf_two]
        exact ⟨_, Sub.refl _, capL v0, by rw [hres], by rw [hres]; exact hv0.clip, by cases v0 <;> rfl, hs_h6q1⟩
end Go.Proofs.YtgnebodlkfblcaaDoor

/-
  Contracts: the laws' own functions: same, path, group.
  Conditions: none.
-/
namespace Go.AM
end Go.AM
namespace Go.Proofs.YtgnebodlkfblcaaDoor
open Go.AM
open Go.Proofs
open Go.Col
open Go.Prs
open Go.RowKit (Below)
set_option maxRecDepth 100000

end Go.Proofs.YtgnebodlkfblcaaDoor

/-
  Contracts: the laws' own function pairing.
  Conditions: none.
-/
namespace Go.AM
/-- A growing slice of the function's own, h being what was told ahead of it. -/
structure OwnBuf (h H : AHeap) (es : Nat) (b : Option Buf) : Prop where
  at_ : ∀ x, b = some x → H x.blk = some ⟨x.cells, 0⟩ ∧ h x.blk = none
  shape : ∀ x, b = some x → x.cells.length % es = 0 ∧ allLive x.cells = true
  sub : Sub h H
def withoutB (H : AHeap) (b : Option Buf) : AHeap := match b with | none => H | some b => H.del b.blk
theorem OwnBuf.none {h H : AHeap} {es : Nat} (hs : Sub h H) : OwnBuf h H es Option.none := ⟨fun x e => by (cases e), fun x e => by (cases e), hs⟩
theorem OwnBuf.mono {h H H' : AHeap} {es : Nat} {b : Option Buf} (o : OwnBuf h H es b) (hs : Sub H H') : OwnBuf h H' es b :=
  ⟨fun x e => ⟨hs _ _ (o.at_ x e).1, (o.at_ x e).2⟩, o.shape, o.sub.trans hs⟩
theorem OwnBuf.ok {h H : AHeap} {es : Nat} {b : Option Buf} (o : OwnBuf h H es b) : bufOk (withoutB H b) es b := by
  cases b with
  | none => trivial
  | some b => exact ⟨by simp [withoutB, AHeap.del], (o.shape b rfl).1, (o.shape b rfl).2⟩
theorem OwnBuf.back {h H : AHeap} {es : Nat} {b : Option Buf} (o : OwnBuf h H es b) : bufH (withoutB H b) b = H := by
  cases b with
  | none => rfl
  | some b =>
    funext j
    by_cases e : j = b.blk
    · subst e
      show (AHeap.set _ _ _) _ = _
      rw [AHeap.set_same, (o.at_ b rfl).1]
    · show (AHeap.set _ _ _) _ = _
      rw [AHeap.set_ne _ _ e]
      simp [withoutB, AHeap.del, e]
theorem OwnBuf.sub0 {h H : AHeap} {es : Nat} {b : Option Buf} (o : OwnBuf h H es b) : Sub h (withoutB H b) := by
  cases b with
  | none => exact o.sub
  | some b => exact Sub.to_del o.sub (o.at_ b rfl).2
theorem OwnBuf.app {h H H' : AHeap} {es : Nat} {b b' : Option Buf} (o : OwnBuf h H es b) (o1 : bufOk (withoutB H b) es b') (o3 : Sub (bufH (withoutB H b) b') H') : OwnBuf h H' es b' := by
  refine ⟨fun x e => ?_, fun x e => ?_, (o.sub0.trans (Sub.buf o1)).trans o3⟩
  · subst e
    exact ⟨o3 _ _ (AHeap.set_same _ _ _), o.sub0.none o1.1⟩
  · subst e
    exact o1.2
end Go.AM
namespace Go.Proofs.YtgnebodlkfblcaaDoor
open Go.AM
open Go.Proofs
open Go.Col
open Go.Prs
open Go.RowKit (Below)
set_option maxRecDepth 100000

end Go.Proofs.YtgnebodlkfblcaaDoor

/-
  The example of the laws of pairs.
  Conditions: none.
-/
namespace Go.Prs
open Go.Col (Str digs)

def namedE (name : Str) (level parent cat occurs : Int) : ItemP := ⟨name, level, parent, cat, occurs, -1, -1⟩
def exA : List ItemP := [namedE [65] 1 (-1) 0 1, namedE [88] 2 0 4 1, namedE [71] 2 0 0 1, namedE [89] 3 2 4 1, namedE [90] 3 2 4 1, namedE filler 2 0 4 1, namedE [84] 2 0 4 3]
def exB : List ItemP := [namedE [66] 1 (-1) 0 1, namedE [71] 2 0 0 1, namedE [90] 3 1 2 1, namedE [89] 3 1 4 1, namedE [88] 2 0 0 1, namedE [89] 3 4 4 1, namedE [84] 2 0 4 1]
theorem ex_pairs : amongR exA exB 0 0 (isP exA exB) = ([(1, 4), (3, 3), (4, 2)], 0) := by decide +kernel
theorem ex_numbers : amongR exA exB 0 0 (isN exA exB) = ([(3, 3)], 0) := by decide +kernel
theorem ex_path : pathR exA 0 3 = ([[71], [89]], 0) := by decide +kernel
end Go.Prs

/-
  Equality of pairs of numbers.
  Conditions: none.
-/
namespace Go.Proofs.YtgnebodlkfblcaaDoor
open Go.AM
open Go.Proofs
theorem eqv37 (a0 b0 a1 b1 : Int) : (eqA Tryd.prog 40 37 (.agg [.int .i64 a0, .int .i64 a1]) (.agg [.int .i64 b0, .int .i64 b1])).val = .bool (decide (a0 = b0) && (decide (a1 = b1) && true)) := by kernel_rfl
theorem eqp37 (a0 b0 a1 b1 : Int) : (eqA Tryd.prog 40 37 (.agg [.int .i64 a0, .int .i64 a1]) (.agg [.int .i64 b0, .int .i64 b1])).pre = ((0 < 2) ∧ (0 < 2) ∧ True ∧ ((1 < 2) ∧ (1 < 2) ∧ True ∧ True)) := by kernel_rfl
theorem egT37 : Tryd.prog.eqGuardType Tryd.prog.depth 37 = false := by kernel_rfl
theorem eq37 (a0 b0 a1 b1 : Int) : pAggEq Tryd.prog .eql 37 (.agg [.int .i64 a0, .int .i64 a1]) (.agg [.int .i64 b0, .int .i64 b1]) = ⟨True, .bool (decide (a0 = b0) && decide (a1 = b1))⟩ := by
  simp only [pAggEq, eqv37, eqp37, egT37, PR.mk.injEq, and_true, Bool.and_true]; decide
end Go.Proofs.YtgnebodlkfblcaaDoor

/-
  Contracts: the laws' own functions named and lives.
  Conditions: none.
-/
namespace Go.Proofs.YtgnebodlkfblcaaDoor
open Go.AM
open Go.Proofs
open Go.Col
open Go.Prs
open Go.RowKit (Below)
set_option maxRecDepth 100000

def namO : ItemO := ⟨0, [], 0, 0, false, false, false, false, false, 0, 0, 0, -1, -1, .nilSlice, rfl⟩
theorem itemC_named (name : Str) (level parent cat occ : Int) : itemC (namedE name level parent cat occ) namO = [.str name, .int .i64 level, .int .i64 parent, .int .u8 cat, .int .u8 0, .str [], .int .i64 0, .int .i64 0, .bool false, .bool false, .bool false, .bool false, .bool false, .int .i64 0, .int .i64 0, .int .i64 occ, .int .i64 0, .int .i64 (-1), .int .i64 (-1), .int .i64 (-1), .int .i64 (-1), .nilSlice] := rfl
theorem c_named (w₀ : World) (h : AHeap) (name : Str) (level parent cat : Int) : ACall Tryd.prog w₀ 20 [.str name, .int .i64 level, .int .i64 parent, .int .u8 cat] h (fun r h' => r = .agg (itemC (namedE name level parent cat 1) namO) ∧ h' = h) := by
  rw [itemC_named]
  refine acall_intro (n := 15) (rs := [.cell 8 44]) Tryd.func20 rfl rfl rfl rfl (Nat.le_of_ble_eq_true rfl) ?_
  simp only [initSlots]
  -- region 0  law.go:65
  refine awp_rseq [0, 1, 2, 3, 8] (by rfl) fun K hK => ?_
  refine aOps_alloc ze44 (cs := [.str [], .int .i64 0, .int .i64 0, .int .u8 0, .int .u8 0, .str [], .int .i64 0, .int .i64 0, .bool false, .bool false, .bool false, .bool false, .bool false, .int .i64 0, .int .i64 0, .int .i64 0, .int .i64 0, .int .i64 0, .int .i64 0, .int .i64 0, .int .i64 0, .nilSlice]) (by rfl) fun k0q0 hk0q0 => ?_
  try have hf_0q0 : h k0q0 = none := by first | assumption | (simp only [AHeap.set_none] at hk0q0; simp only [hk0q0])
  simp (decide := true) only [aOps_nil, putD, Slots.put, Slots.keep, if_true, if_false, Nat.zero_add, Nat.reduceAdd]
  apply hK; clear hK K
  -- region 1  law.go:66
  refine awp_rseq [8] (by rfl) fun K hK => ?_
  simp (decide := true) only [ev, absV, absS, putD, Slots.put, Slots.get, if_true, if_false, true_and, ↓ap_move, pop_move, ↓ap_build, ↓pop_buildL, bld41_0, evP, List.map_cons, List.map_nil, bld44_0_1_2_5_7_8_9_10_3]
  refine aOps_store (by rfl) (by rfl) (by repeat (first | exact AHeap.set_same _ _ _ | assumption | refine (AHeap.set_ne _ _ (by first | assumption | exact Ne.symm (by assumption))).trans ?_)) sz44 (by rfl) (by rfl) (by first | exact Nat.le_refl _ | decide | (simp; done) | (simp; omega)) (Nat.zero_le _) (by rfl) ?_
  simp only [AHeap.set_set, AVal.cells]
  simp (decide := true) only [aOps_nil, ev, putD, Slots.get, Slots.keep, if_true, if_false, setAt, List.set_cons_zero, List.set_cons_succ, Nat.zero_add, Nat.reduceAdd]
  apply hK; clear hK K
  refine awp_ret ?_
  refine retA_ret h (by repeat (first | exact Sub.refl _ | assumption | refine Sub.trans_set ?_ (by assumption))) (?_) ?_
  · simp (decide := true) only [resPre, resV_cell, Slots.get, if_true, and_true, resV_cell, pLoad_agg ag44 sz44, rd_set, cellsAt, List.getD_cons_zero, List.getD_cons_succ, Nat.zero_add, Nat.reduceAdd, lv_bool, lv_int, lv_str, lv_nilSlice, allLive, Bool.and_true, cellsAt, List.getD_cons_zero, List.getD_cons_succ, Nat.zero_add, Nat.reduceAdd, lv_bool, lv_int, lv_str, lv_nilSlice, allLive, Bool.and_true]
  
  simp (decide := true) only [Slots.get, if_true, and_true, resOfG_one, resV_cell, pLoad_agg ag44 sz44, rd_set, cellsAt, List.getD_cons_zero, List.getD_cons_succ, Nat.zero_add, Nat.reduceAdd, lv_bool, lv_int, lv_str, lv_nilSlice, allLive, Bool.and_true, cellsAt, List.getD_cons_zero, List.getD_cons_succ, Nat.zero_add, Nat.reduceAdd, lv_bool, lv_int, lv_str, lv_nilSlice, allLive, Bool.and_true]
  all_goals first | rfl | exact ⟨rfl, rfl⟩ | (simp (decide := true) only [if_true, if_false, *]; done) | (trace_state; fail)
def lvA : List (ItemP × ItemO) := exA.map fun p => (p, namO)
def lvB : List (ItemP × ItemO) := exB.map fun p => (p, namO)
theorem items_lvA : items lvA = exA := by unfold items lvA; rw [List.map_map]; exact List.map_id exA
theorem items_lvB : items lvB = exB := by unfold items lvB; rw [List.map_map]; exact List.map_id exB
theorem lvA_live : allLive (lvA.map itC).flatten = true := by kernel_rfl
theorem lvB_live : allLive (lvB.map itC).flatten = true := by kernel_rfl
theorem it_wide {l : List (ItemP × ItemO)} : ∀ x ∈ l.map itC, x.length = 22 := fun x hx => by obtain ⟨y, _, rfl⟩ := List.mem_map.1 hx; rfl
theorem lvA_key : ∀ y ∈ pathsE (items lvA) 0 true, (keyE y.2).length ≤ 140737488355328 := by rw [items_lvA]; decide +kernel
theorem lvB_key : ∀ y ∈ pathsE (items lvB) 0 true, (keyE y.2).length ≤ 140737488355328 := by rw [items_lvB]; decide +kernel
theorem toNat_two : Int.toNat 2 = 2 := rfl
set_option maxHeartbeats 4000000 in
theorem l_lives5 (w₀ : World) (ht10 : Tab10 w₀) (h H : AHeap) (k2 k3 : Nat) (va vb : AVal) (hs_H : Sub h H) (eb_2 : H k2 = some ⟨[va, .int .i64 0, .int .i64 0], 0⟩) (eb_3 : H k3 = some ⟨[vb, .int .i64 0, .int .i64 0], 0⟩)
    (hva : IsL w₀ H 22 va (lvA.map itC)) (hvb : IsL w₀ H 22 vb (lvB.map itC)) :
    Awp Tryd.prog w₀ 114 (dropSeq 5 (bodyOf Tryd.f13)) (retA Tryd.prog w₀ [.tmp 0] (fun r h' => r = .bool true ∧ h' = h)) [(2, .ptr (.own k2) 0), (3, .ptr (.own k3) 0)] (H) := by
  have hlva := hva.live
  have hlvb := hvb.live
  have hga : GrpOk w₀ H va 0 lvA := ⟨hva, by decide, lvA_key⟩
  have hgb : GrpOk w₀ H vb 0 lvB := ⟨hvb, by decide, lvB_key⟩
  have hP := ex_pairs
  have hN := ex_numbers
  have hQ := ex_path
  rw [← items_lvA, ← items_lvB] at hP hN
  rw [← items_lvA] at hQ
  change Awp _ _ _ (Code.seq _ _) _ _ _
  -- region 5  law.go:75
  refine awp_rseq [2, 3, 4, 5] (by rfl) fun K hK => ?_
  simp (decide := true) only [ev, putD, Slots.put, Slots.get, if_true, if_false, true_and, ↓ap_loadL, apL_mk, pLoad_agg ag35 sz35, Bool.and_true, rd_own w₀ eb_2, rd_own w₀ eb_3, cellsAt, List.getD_cons_zero, List.getD_cons_succ, Nat.zero_add, Nat.reduceAdd, lv_int, allLive, Bool.and_true, hlva, hlvb]
  refine aOps_call (by rfl) (by rfl) (c_Pairs w₀ ht10 _ va vb 0 0 0 0 lvA lvB (hga.mono (by repeat (first | exact Sub.refl _ | assumption | refine Sub.set_both ?_ _ _ | refine Sub.trans_set ?_ (by repeat (first | assumption | refine (AHeap.set_ne _ _ (by first | assumption | exact Ne.symm (by assumption))).trans ?_))))) (hgb.mono (by repeat (first | exact Sub.refl _ | assumption | refine Sub.set_both ?_ _ _ | refine Sub.trans_set ?_ (by repeat (first | assumption | refine (AHeap.set_ne _ _ (by first | assumption | exact Ne.symm (by assumption))).trans ?_)))))) fun x5q2 h5q2 hx5q2 => ?_
  obtain ⟨ov, rfl, hov, hcov, hs5⟩ := hx5q2
  rw [hP] at hov ⊢
  have hlov := hov.live
  have hs_h5q2 : Sub h h5q2 := Sub.trans (by repeat (first | exact Sub.refl _ | assumption | refine Sub.trans_set ?_ (by assumption))) hs5
  have hr_h5q2 : Sub H h5q2 := Sub.trans (by repeat (first | exact Sub.refl _ | assumption | refine Sub.trans_set ?_ (by assumption))) hs5
  have eb_2 := hs5 k2 _ (by repeat (first | exact AHeap.set_same _ _ _ | assumption | refine (AHeap.set_ne _ _ (by first | assumption | exact Ne.symm (by assumption))).trans ?_))
  have eb_3 := hs5 k3 _ (by repeat (first | exact AHeap.set_same _ _ _ | assumption | refine (AHeap.set_ne _ _ (by first | assumption | exact Ne.symm (by assumption))).trans ?_))
  simp (decide := true) only [aOps_nil, ev, putD, Slots.put, Slots.get, Slots.keep, if_true, if_false, true_and, ↓ap_move, pop_move, ↓ap_extract, pop_extract, pExt_tuple, List.length_cons, List.length_nil, List.getD_cons_zero, List.getD_cons_succ, ↓ap_assign, pop_assign, List.getD_cons_zero, List.getD_cons_succ, Nat.zero_add, Nat.reduceAdd]
  apply hK; clear hK K
  -- region 6  law.go:76
  refine awp_rseq [2, 4, 5, 6, 7] (by rfl) fun K hK => ?_
  simp (decide := true) only [ev, putD, Slots.put, Slots.get, if_true, if_false, true_and, ↓ap_loadL, apL_mk, pLoad_agg ag35 sz35, Bool.and_true, rd_own w₀ eb_2, rd_own w₀ eb_3, cellsAt, List.getD_cons_zero, List.getD_cons_succ, Nat.zero_add, Nat.reduceAdd, lv_int, allLive, Bool.and_true, hlva, hlvb]
  refine aOps_call (by rfl) (by rfl) (c_Numbers w₀ ht10 _ va vb 0 0 0 0 lvA lvB (hga.mono (by repeat (first | exact Sub.refl _ | assumption | refine Sub.set_both ?_ _ _ | refine Sub.trans_set ?_ (by repeat (first | assumption | refine (AHeap.set_ne _ _ (by first | assumption | exact Ne.symm (by assumption))).trans ?_))))) (hgb.mono (by repeat (first | exact Sub.refl _ | assumption | refine Sub.set_both ?_ _ _ | refine Sub.trans_set ?_ (by repeat (first | assumption | refine (AHeap.set_ne _ _ (by first | assumption | exact Ne.symm (by assumption))).trans ?_)))))) fun x6q2 h6q2 hx6q2 => ?_
  obtain ⟨nv, rfl, hnv, hcnv, hs6⟩ := hx6q2
  rw [hN] at hnv ⊢
  have hlnv := hnv.live
  have hs_h6q2 : Sub h h6q2 := Sub.trans (by repeat (first | exact Sub.refl _ | assumption | refine Sub.trans_set ?_ (by assumption))) hs6
  have hr_h6q2 : Sub h5q2 h6q2 := Sub.trans (by repeat (first | exact Sub.refl _ | assumption | refine Sub.trans_set ?_ (by assumption))) hs6
  have eb_2 := hs6 k2 _ (by repeat (first | exact AHeap.set_same _ _ _ | assumption | refine (AHeap.set_ne _ _ (by first | assumption | exact Ne.symm (by assumption))).trans ?_))
  have eb_3 := hs6 k3 _ (by repeat (first | exact AHeap.set_same _ _ _ | assumption | refine (AHeap.set_ne _ _ (by first | assumption | exact Ne.symm (by assumption))).trans ?_))
  simp (decide := true) only [aOps_nil, ev, putD, Slots.put, Slots.get, Slots.keep, if_true, if_false, true_and, ↓ap_move, pop_move, ↓ap_extract, pop_extract, pExt_tuple, List.length_cons, List.length_nil, List.getD_cons_zero, List.getD_cons_succ, ↓ap_assign, pop_assign, List.getD_cons_zero, List.getD_cons_succ, Nat.zero_add, Nat.reduceAdd]
  apply hK; clear hK K
  -- region 7  law.go:77
  refine awp_rseq [4, 5, 6, 7, 8, 9] (by rfl) fun K hK => ?_
  simp (decide := true) only [ev, putD, Slots.put, Slots.get, if_true, if_false, true_and, ↓ap_loadL, apL_mk, pLoad_agg ag35 sz35, Bool.and_true, rd_own w₀ eb_2, cellsAt, List.getD_cons_zero, List.getD_cons_succ, Nat.zero_add, Nat.reduceAdd, lv_int, allLive, Bool.and_true, hlva]
  refine aOps_call (by rfl) (by rfl) (c_Path w₀ _ va 0 0 3 lvA (hva.mono (hr_h5q2.trans hr_h6q2)) (by decide)) fun x7q1 h7q1 hx7q1 => ?_
  obtain ⟨pv, rfl, hpv, hcpv, hs7⟩ := hx7q1
  rw [hQ] at hpv ⊢
  have hlpv := hpv.live
  have hs_h7q1 : Sub h h7q1 := Sub.trans (by repeat (first | exact Sub.refl _ | assumption | refine Sub.trans_set ?_ (by assumption))) hs7
  have hr_h7q1 : Sub h6q2 h7q1 := Sub.trans (by repeat (first | exact Sub.refl _ | assumption | refine Sub.trans_set ?_ (by assumption))) hs7
  have eb_2 := hs7 k2 _ (by repeat (first | exact AHeap.set_same _ _ _ | assumption | refine (AHeap.set_ne _ _ (by first | assumption | exact Ne.symm (by assumption))).trans ?_))
  have eb_3 := hs7 k3 _ (by repeat (first | exact AHeap.set_same _ _ _ | assumption | refine (AHeap.set_ne _ _ (by first | assumption | exact Ne.symm (by assumption))).trans ?_))
  simp (decide := true) only [aOps_nil, ev, putD, Slots.put, Slots.get, Slots.keep, if_true, if_false, true_and, ↓ap_move, pop_move, ↓ap_extract, pop_extract, pExt_tuple, List.length_cons, List.length_nil, List.getD_cons_zero, List.getD_cons_succ, ↓ap_assign, pop_assign, List.getD_cons_zero, List.getD_cons_succ, Nat.zero_add, Nat.reduceAdd]
  apply hK; clear hK K
  have hov7 := (hov.mono hr_h6q2).mono hr_h7q1
  have hnv7 := hnv.mono hr_h7q1
  obtain ⟨l1, o1, c1, e1⟩ := hov7.open (by simp)
  obtain ⟨l2, o2, c2, e2⟩ := hnv7.open (by simp)
  obtain ⟨l3, o3, c3, e3⟩ := hpv.open (by simp)
  simp only [List.map_cons, List.map_nil, List.length_cons, List.length_nil] at e1 e2 e3
  subst e1 e2 e3
  have p0 := hov7.elem (i := 0) (by simp)
  have p1 := hov7.elem (i := 1) (by simp)
  have p2 := hov7.elem (i := 2) (by simp)
  have n0 := hnv7.elem (i := 0) (by simp)
  have q0 := hpv.at0 (i := 0) (by simp) (by decide)
  have q1 := hpv.at0 (i := 1) (by simp) (by decide)
  simp only [List.map_cons, List.map_nil, List.getD_cons_zero, List.getD_cons_succ, pairC, strC, Nat.zero_mul, Nat.one_mul, Nat.reduceMul, Nat.add_zero] at p0 p1 p2 n0 q0 q1
  trace_state
  -- region 8  law.go:78
  refine awp_rseq [0] (by kernel_rfl) fun K hK => ?_
  try simp only [List.append_eq, List.cons_append, List.nil_append]
  simp (decide := true) only [aOps_nil, ev, absV, absS, putD, Slots.put, Slots.get, Slots.keep, if_true, if_false, true_and, ↓ap_move, pop_move, ↓ap_binOp, pop_binOp, isNilC_int, cond_false, pBinX_int, pI_eql, ↓ag_move, agP, agQ_some, nthDst, gKnown_bool, guardB_bool_true, implies_true, decide_true, condV_true, Bool.and_true, ↓ag_binOp, ↓ap_pick, pop_pick, pPick_bool, ↓ag_len, pop_len, pLen_slice Tryd.underlying30, ↓ag_indexAddrL, agQL_some, agL_mk, pIndexAddr_slice Tryd.underlying30 sz37, ↓ag_loadL, pLoad_agg ag37 sz37, ↓ag_build, ↓pop_buildL, bld37_0_1, evP, List.map_cons, List.map_nil, isNilC_tmp, pBinX_agg, eq37, pLen_slice Tryd.underlying48, pIndexAddr_slice Tryd.underlying48 sz9, pLoad_one ag9, isNilC_str, pBinX_str, pS_eql, ↓ap_assign, pop_assign, decide_true, condV_true, Bool.and_true, pickV_bool, cond_true, cond_false, Nat.zero_add, Nat.reduceAdd, lv_int, lv_str, allLive, Bool.and_true, ↓p0, ↓p1, ↓p2, ↓n0, q0, q1, Int.toNat_zero, Int.toNat_one, toNat_two, Nat.zero_mul, Nat.one_mul, Nat.reduceMul, Nat.add_zero]
  apply hK; clear hK K
  refine awp_ret ?_
  refine retA_ret h (by repeat (first | exact Sub.refl _ | assumption | refine Sub.trans_set ?_ (by assumption))) (resPre_tmp (resPre_nil)) ?_
  simp (decide := true) only [Slots.get, if_true, and_true, resOf_one]
  all_goals first | rfl | exact ⟨rfl, rfl⟩ | (simp (decide := true) only [if_true, if_false, *]; done) | (trace_state; fail)
theorem lv_wide {l : List (ItemP × ItemO)} : ∀ x ∈ l.map itC, x.length = 22 := fun x hx => by obtain ⟨y, _, rfl⟩ := List.mem_map.1 hx; rfl
set_option maxHeartbeats 4000000 in
theorem l_lives3 (w₀ : World) (ht10 : Tab10 w₀) (h H : AHeap) (k1q1 : Nat) (hs_H : Sub h H) (hf_1q1 : h k1q1 = none) (cT : List AVal) (hcT : cT = itemC (namedE [84] 2 0 4 3) namO) (eb_1q1 : H k1q1 = some ⟨cT, 0⟩) :
    Awp Tryd.prog w₀ 114 (dropSeq 3 (bodyOf Tryd.f13)) (retA Tryd.prog w₀ [.tmp 0] (fun r h' => r = .bool true ∧ h' = h)) [(1, .ptr (.own k1q1) 0)] (H) := by
  have hca : cellsAt w₀ H (.own k1q1) 0 22 = cT := by
    rw [cellsAt_own eb_1q1 0 22 (by rw [hcT]; decide), List.drop_zero, hcT]
    rfl
  have hal : allLive cT = true := by rw [hcT]; rfl
  obtain ⟨za0, hza0⟩ : ∃ a, a = itemC (namedE [65] 1 (-1) 0 1) namO := ⟨_, rfl⟩
  obtain ⟨za1, hza1⟩ : ∃ a, a = itemC (namedE [88] 2 0 4 1) namO := ⟨_, rfl⟩
  obtain ⟨za2, hza2⟩ : ∃ a, a = itemC (namedE [71] 2 0 0 1) namO := ⟨_, rfl⟩
  obtain ⟨za3, hza3⟩ : ∃ a, a = itemC (namedE [89] 3 2 4 1) namO := ⟨_, rfl⟩
  obtain ⟨za4, hza4⟩ : ∃ a, a = itemC (namedE [90] 3 2 4 1) namO := ⟨_, rfl⟩
  obtain ⟨za5, hza5⟩ : ∃ a, a = itemC (namedE [70, 73, 76, 76, 69, 82] 2 0 4 1) namO := ⟨_, rfl⟩
  obtain ⟨zb0, hzb0⟩ : ∃ a, a = itemC (namedE [66] 1 (-1) 0 1) namO := ⟨_, rfl⟩
  obtain ⟨zb1, hzb1⟩ : ∃ a, a = itemC (namedE [71] 2 0 0 1) namO := ⟨_, rfl⟩
  obtain ⟨zb2, hzb2⟩ : ∃ a, a = itemC (namedE [90] 3 1 2 1) namO := ⟨_, rfl⟩
  obtain ⟨zb3, hzb3⟩ : ∃ a, a = itemC (namedE [89] 3 1 4 1) namO := ⟨_, rfl⟩
  obtain ⟨zb4, hzb4⟩ : ∃ a, a = itemC (namedE [88] 2 0 0 1) namO := ⟨_, rfl⟩
  obtain ⟨zb5, hzb5⟩ : ∃ a, a = itemC (namedE [89] 3 4 4 1) namO := ⟨_, rfl⟩
  obtain ⟨zb6, hzb6⟩ : ∃ a, a = itemC (namedE [84] 2 0 4 1) namO := ⟨_, rfl⟩
  change Awp _ _ _ (Code.seq _ _) _ _ _
  -- region 3  law.go:73
  refine awp_dseq_I [6, 0, 1, 2, 3, 4, 5, 7, 8, 9, 10, 11] [none, none, some 1, some 2, some 3, some 4, some 5, some 6, some 7, some 8, none, some 9] 11 [2] mixed (by kernel_rfl) (by rfl) fun K hK => ?_
  simp only [permL, List.filterMap_cons, List.filterMap_nil, List.getElem?_cons_zero, List.getElem?_cons_succ]
  refine iOps_read (by rfl) (by kernel_rfl) ?_
  try simp (decide := true) only [aOps_nil, ev, putD, Slots.put, Slots.get, if_true, if_false, true_and, Sub_self, ↓ap_loadL, apL_mk, pLoad_agg ag44 sz44, ↓hca, hal]
  refine iOps_call (by rfl) fun g3q0 hg3q0 => ?_
  have hs_g3q0 : Sub h g3q0 := Sub.trans (by repeat (first | exact Sub.refl _ | assumption | refine Sub.trans_set ?_ (by assumption))) hg3q0
  have hr_g3q0 : Sub H g3q0 := Sub.trans (by repeat (first | exact Sub.refl _ | assumption | refine Sub.trans_set ?_ (by assumption))) hg3q0
  have eb_1q1 := hg3q0 k1q1 _ (by repeat (first | exact AHeap.set_same _ _ _ | assumption | refine (AHeap.set_ne _ _ (by first | assumption | exact Ne.symm (by assumption))).trans ?_))
  refine aOps_callV (V := .agg za0) (by rfl) (by rfl) (by rw [hza0]; exact c_named w₀ _ [65] 1 (-1) 0) ?_
  rw [aOps_nil]
  refine And.intro (by first | exact Sub.refl _ | assumption | exact Sub.set (by assumption)) ?_
  try simp (decide := true) only [putD, Slots.put, if_true, if_false]
  refine iOps_call (by rfl) fun g3q1 hg3q1 => ?_
  have hs_g3q1 : Sub h g3q1 := Sub.trans (by repeat (first | exact Sub.refl _ | assumption | refine Sub.trans_set ?_ (by assumption))) hg3q1
  have hr_g3q1 : Sub g3q0 g3q1 := Sub.trans (by repeat (first | exact Sub.refl _ | assumption | refine Sub.trans_set ?_ (by assumption))) hg3q1
  have eb_1q1 := hg3q1 k1q1 _ (by repeat (first | exact AHeap.set_same _ _ _ | assumption | refine (AHeap.set_ne _ _ (by first | assumption | exact Ne.symm (by assumption))).trans ?_))
  refine aOps_callV (V := .agg za1) (by rfl) (by rfl) (by rw [hza1]; exact c_named w₀ _ [88] 2 0 4) ?_
  rw [aOps_nil]
  refine And.intro (by first | exact Sub.refl _ | assumption | exact Sub.set (by assumption)) ?_
  try simp (decide := true) only [putD, Slots.put, if_true, if_false]
  refine iOps_call (by rfl) fun g3q2 hg3q2 => ?_
  have hs_g3q2 : Sub h g3q2 := Sub.trans (by repeat (first | exact Sub.refl _ | assumption | refine Sub.trans_set ?_ (by assumption))) hg3q2
  have hr_g3q2 : Sub g3q1 g3q2 := Sub.trans (by repeat (first | exact Sub.refl _ | assumption | refine Sub.trans_set ?_ (by assumption))) hg3q2
  have eb_1q1 := hg3q2 k1q1 _ (by repeat (first | exact AHeap.set_same _ _ _ | assumption | refine (AHeap.set_ne _ _ (by first | assumption | exact Ne.symm (by assumption))).trans ?_))
  refine aOps_callV (V := .agg za2) (by rfl) (by rfl) (by rw [hza2]; exact c_named w₀ _ [71] 2 0 0) ?_
  rw [aOps_nil]
  refine And.intro (by first | exact Sub.refl _ | assumption | exact Sub.set (by assumption)) ?_
  try simp (decide := true) only [putD, Slots.put, if_true, if_false]
  refine iOps_call (by rfl) fun g3q3 hg3q3 => ?_
  have hs_g3q3 : Sub h g3q3 := Sub.trans (by repeat (first | exact Sub.refl _ | assumption | refine Sub.trans_set ?_ (by assumption))) hg3q3
  have hr_g3q3 : Sub g3q2 g3q3 := Sub.trans (by repeat (first | exact Sub.refl _ | assumption | refine Sub.trans_set ?_ (by assumption))) hg3q3
  have eb_1q1 := hg3q3 k1q1 _ (by repeat (first | exact AHeap.set_same _ _ _ | assumption | refine (AHeap.set_ne _ _ (by first | assumption | exact Ne.symm (by assumption))).trans ?_))
  refine aOps_callV (V := .agg za3) (by rfl) (by rfl) (by rw [hza3]; exact c_named w₀ _ [89] 3 2 4) ?_
  rw [aOps_nil]
  refine And.intro (by first | exact Sub.refl _ | assumption | exact Sub.set (by assumption)) ?_
  try simp (decide := true) only [putD, Slots.put, if_true, if_false]
  refine iOps_call (by rfl) fun g3q4 hg3q4 => ?_
  have hs_g3q4 : Sub h g3q4 := Sub.trans (by repeat (first | exact Sub.refl _ | assumption | refine Sub.trans_set ?_ (by assumption))) hg3q4
  have hr_g3q4 : Sub g3q3 g3q4 := Sub.trans (by repeat (first | exact Sub.refl _ | assumption | refine Sub.trans_set ?_ (by assumption))) hg3q4
  have eb_1q1 := hg3q4 k1q1 _ (by repeat (first | exact AHeap.set_same _ _ _ | assumption | refine (AHeap.set_ne _ _ (by first | assumption | exact Ne.symm (by assumption))).trans ?_))
  refine aOps_callV (V := .agg za4) (by rfl) (by rfl) (by rw [hza4]; exact c_named w₀ _ [90] 3 2 4) ?_
  rw [aOps_nil]
  refine And.intro (by first | exact Sub.refl _ | assumption | exact Sub.set (by assumption)) ?_
  try simp (decide := true) only [putD, Slots.put, if_true, if_false]
  refine iOps_call (by rfl) fun g3q5 hg3q5 => ?_
  have hs_g3q5 : Sub h g3q5 := Sub.trans (by repeat (first | exact Sub.refl _ | assumption | refine Sub.trans_set ?_ (by assumption))) hg3q5
  have hr_g3q5 : Sub g3q4 g3q5 := Sub.trans (by repeat (first | exact Sub.refl _ | assumption | refine Sub.trans_set ?_ (by assumption))) hg3q5
  have eb_1q1 := hg3q5 k1q1 _ (by repeat (first | exact AHeap.set_same _ _ _ | assumption | refine (AHeap.set_ne _ _ (by first | assumption | exact Ne.symm (by assumption))).trans ?_))
  refine aOps_callV (V := .agg za5) (by rfl) (by rfl) (by rw [hza5]; exact c_named w₀ _ [70, 73, 76, 76, 69, 82] 2 0 4) ?_
  rw [aOps_nil]
  refine And.intro (by first | exact Sub.refl _ | assumption | exact Sub.set (by assumption)) ?_
  try simp (decide := true) only [putD, Slots.put, if_true, if_false]
  refine iOps_call (by rfl) fun g3q7 hg3q7 => ?_
  have hs_g3q7 : Sub h g3q7 := Sub.trans (by repeat (first | exact Sub.refl _ | assumption | refine Sub.trans_set ?_ (by assumption))) hg3q7
  have hr_g3q7 : Sub g3q5 g3q7 := Sub.trans (by repeat (first | exact Sub.refl _ | assumption | refine Sub.trans_set ?_ (by assumption))) hg3q7
  have eb_1q1 := hg3q7 k1q1 _ (by repeat (first | exact AHeap.set_same _ _ _ | assumption | refine (AHeap.set_ne _ _ (by first | assumption | exact Ne.symm (by assumption))).trans ?_))
  refine aOps_buildSlice (cs := (lvA.map itC).flatten) (by subst hza0 hza1 hza2 hza3 hza4 hza5 hcT; kernel_rfl) fun k3q7 hk3q7 => ?_
  have hn_3q7 : g3q7 k3q7 = none := by first | assumption | (simp only [AHeap.set_none] at hk3q7; simp only [hk3q7])
  have hf_3q7 : h k3q7 = none := Sub.none hs_g3q7 hn_3q7
  have ne_3q7_1q1 : k3q7 ≠ k1q1 := AHeap.ne_some hn_3q7 eb_1q1
  rw [aOps_nil]
  refine And.intro (by first | exact Sub.refl _ | assumption | exact Sub.set (by assumption)) ?_
  try simp (decide := true) only [putD, Slots.put, if_false]
  refine iOps_read (by rfl) (by kernel_rfl) ?_
  try simp (decide := true) only [aOps_nil, ev, absV, absS, putD, Slots.put, Slots.get, if_true, if_false, true_and, Sub_self, ↓ap_build, ↓pop_buildL, bld27_0, evP, List.map_cons, List.map_nil, Sc_slice]
  refine iOps_read (by rfl) (by kernel_rfl) ?_
  try simp (decide := true) only [aOps_nil, ev, absV, absS, putD, Slots.put, Slots.get, if_true, if_false, true_and, Sub_self, ↓ap_build, ↓pop_buildL, bld35_0, evP, List.map_cons, List.map_nil]
  refine iOps_alloc (cs := [.nilSlice, .int .i64 0, .int .i64 0]) (by kernel_rfl) fun k3q10 g3q10 hz3q10 hg3q10 eb_3q10 => ?_
  have ne_3q10_3q7 : k3q10 ≠ k3q7 := by first | exact AHeap.ne_some hz3q10 (by repeat (first | exact AHeap.set_same _ _ _ | assumption | refine (AHeap.set_ne _ _ (by first | assumption | exact Ne.symm (by assumption))).trans ?_)) | exact fun e => by have q := hg3q10 k3q7 _ (by repeat (first | exact AHeap.set_same _ _ _ | assumption | refine (AHeap.set_ne _ _ (by first | assumption | exact Ne.symm (by assumption))).trans ?_)); rw [← e, eb_3q10] at q; exact absurd (congrArg (fun b : Option Blk => b.map fun b => b.cells.length) q) (by first | decide | (simp; done))
  have ne_3q10_1q1 : k3q10 ≠ k1q1 := by first | exact AHeap.ne_some hz3q10 (by repeat (first | exact AHeap.set_same _ _ _ | assumption | refine (AHeap.set_ne _ _ (by first | assumption | exact Ne.symm (by assumption))).trans ?_)) | exact fun e => by have q := hg3q10 k1q1 _ (by repeat (first | exact AHeap.set_same _ _ _ | assumption | refine (AHeap.set_ne _ _ (by first | assumption | exact Ne.symm (by assumption))).trans ?_)); rw [← e, eb_3q10] at q; exact absurd (congrArg (fun b : Option Blk => b.map fun b => b.cells.length) q) (by first | decide | (simp; done))
  have hf_3q10 : h k3q10 = none := Sub.none (by repeat (first | exact Sub.refl _ | assumption | refine Sub.trans_set ?_ (by assumption))) hz3q10
  have hs_g3q10 : Sub h g3q10 := Sub.trans (by repeat (first | exact Sub.refl _ | assumption | refine Sub.trans_set ?_ (by assumption))) hg3q10
  have hr_g3q10 : Sub g3q7 g3q10 := Sub.trans (by repeat (first | exact Sub.refl _ | assumption | refine Sub.trans_set ?_ (by assumption))) hg3q10
  have eb_3q7 := hg3q10 k3q7 _ (by repeat (first | exact AHeap.set_same _ _ _ | assumption | refine (AHeap.set_ne _ _ (by first | assumption | exact Ne.symm (by assumption))).trans ?_))
  have eb_1q1 := hg3q10 k1q1 _ (by repeat (first | exact AHeap.set_same _ _ _ | assumption | refine (AHeap.set_ne _ _ (by first | assumption | exact Ne.symm (by assumption))).trans ?_))
  try simp (decide := true) only [putD, Slots.put, if_true, if_false, iOps_zero]
  refine aOps_store (by rfl) (by rfl) (by repeat (first | exact AHeap.set_same _ _ _ | assumption | refine (AHeap.set_ne _ _ (by first | assumption | exact Ne.symm (by assumption))).trans ?_)) sz35 (by rfl) (by rfl) (by first | exact Nat.le_refl _ | decide | (simp; done) | (simp; omega)) (Nat.zero_le _) (by rfl) ?_
  simp only [AVal.cells]
  try simp (decide := true) only [aOps_nil, ev, putD, Slots.get, Slots.keep, if_true, if_false, setAt, List.set_cons_zero, List.set_cons_succ, Nat.zero_add, Nat.reduceAdd]
  apply hK; clear hK K
  -- region 4  law.go:74
  refine awp_rseq [2, 3] (by rfl) fun K hK => ?_
  refine aOps_callV (V := .agg zb0) (by rfl) (by rfl) (by rw [hzb0]; exact c_named w₀ _ [66] 1 (-1) 0) ?_
  refine aOps_callV (V := .agg zb1) (by rfl) (by rfl) (by rw [hzb1]; exact c_named w₀ _ [71] 2 0 0) ?_
  refine aOps_callV (V := .agg zb2) (by rfl) (by rfl) (by rw [hzb2]; exact c_named w₀ _ [90] 3 1 2) ?_
  refine aOps_callV (V := .agg zb3) (by rfl) (by rfl) (by rw [hzb3]; exact c_named w₀ _ [89] 3 1 4) ?_
  refine aOps_callV (V := .agg zb4) (by rfl) (by rfl) (by rw [hzb4]; exact c_named w₀ _ [88] 2 0 0) ?_
  refine aOps_callV (V := .agg zb5) (by rfl) (by rfl) (by rw [hzb5]; exact c_named w₀ _ [89] 3 4 4) ?_
  refine aOps_callV (V := .agg zb6) (by rfl) (by rfl) (by rw [hzb6]; exact c_named w₀ _ [84] 2 0 4) ?_
  refine aOps_buildSlice (cs := (lvB.map itC).flatten) (by subst hzb0 hzb1 hzb2 hzb3 hzb4 hzb5 hzb6; kernel_rfl) fun k4q7 hk4q7 => ?_
  have hn_4q7 : g3q10 k4q7 = none := by first | assumption | (simp only [AHeap.set_none] at hk4q7; simp only [hk4q7])
  have hf_4q7 : h k4q7 = none := Sub.none hs_g3q10 hn_4q7
  have ne_4q7_1q1 : k4q7 ≠ k1q1 := AHeap.ne_some hn_4q7 eb_1q1
  have ne_4q7_3q7 : k4q7 ≠ k3q7 := AHeap.ne_some hn_4q7 eb_3q7
  have ne_4q7_3q10 : k4q7 ≠ k3q10 := AHeap.ne_some hn_4q7 eb_3q10
  simp (decide := true) only [ev, absV, absS, putD, Slots.put, Slots.get, if_true, if_false, true_and, ↓ap_build, ↓pop_buildL, bld27_0, evP, List.map_cons, List.map_nil, Sc_slice, bld35_0]
  refine aOps_alloc ze35 (cs := [.nilSlice, .int .i64 0, .int .i64 0]) (by rfl) fun k4q10 hk4q10 => ?_
  have ne_4q10_4q7 : k4q10 ≠ k4q7 := by simp only [AHeap.set_none] at hk4q10; simp only [hk4q10, ne_eq, not_false_eq_true]
  have hn_4q10 : g3q10 k4q10 = none := by first | assumption | (simp only [AHeap.set_none] at hk4q10; simp only [hk4q10])
  have hf_4q10 : h k4q10 = none := Sub.none hs_g3q10 hn_4q10
  have ne_4q10_1q1 : k4q10 ≠ k1q1 := AHeap.ne_some hn_4q10 eb_1q1
  have ne_4q10_3q7 : k4q10 ≠ k3q7 := AHeap.ne_some hn_4q10 eb_3q7
  have ne_4q10_3q10 : k4q10 ≠ k3q10 := AHeap.ne_some hn_4q10 eb_3q10
  refine aOps_store (by rfl) (by rfl) (by repeat (first | exact AHeap.set_same _ _ _ | assumption | refine (AHeap.set_ne _ _ (by first | assumption | exact Ne.symm (by assumption))).trans ?_)) sz35 (by rfl) (by rfl) (by first | exact Nat.le_refl _ | decide | (simp; done) | (simp; omega)) (Nat.zero_le _) (by rfl) ?_
  simp only [AHeap.set_set, AVal.cells]
  simp (decide := true) only [aOps_nil, ev, putD, Slots.put, Slots.get, Slots.keep, if_true, if_false, setAt, List.set_cons_zero, List.set_cons_succ, Nat.zero_add, Nat.reduceAdd]
  apply hK; clear hK K
  refine Awp.keep [2, 3] ?_
  have lenA : 7 = (lvA.map itC).length := by decide
  have lenB : 7 = (lvB.map itC).length := by decide
  exact l_lives5 w₀ ht10 h _ k3q10 k4q10 (.slice (.own k3q7) 0 7 (.exact 7)) (.slice (.own k4q7) 0 7 (.exact 7)) (by repeat (first | exact Sub.refl _ | assumption | refine Sub.set_both ?_ _ _ | refine Sub.trans_set ?_ (by repeat (first | assumption | refine (AHeap.set_ne _ _ (by first | assumption | exact Ne.symm (by assumption))).trans ?_)))) (by repeat (first | exact AHeap.set_same _ _ _ | assumption | refine (AHeap.set_ne _ _ (by first | assumption | exact Ne.symm (by assumption))).trans ?_)) (by repeat (first | exact AHeap.set_same _ _ _ | assumption | refine (AHeap.set_ne _ _ (by first | assumption | exact Ne.symm (by assumption))).trans ?_)) (by rw [lenA]; exact IsL.own (xs := lvA.map itC) (b := ⟨(lvA.map itC).flatten, 0⟩) (by repeat (first | exact AHeap.set_same _ _ _ | assumption | refine (AHeap.set_ne _ _ (by first | assumption | exact Ne.symm (by assumption))).trans ?_)) lv_wide rfl lvA_live (.exact _) (Nat.le_refl _)) (by rw [lenB]; exact IsL.own (xs := lvB.map itC) (b := ⟨(lvB.map itC).flatten, 0⟩) (by repeat (first | exact AHeap.set_same _ _ _ | assumption | refine (AHeap.set_ne _ _ (by first | assumption | exact Ne.symm (by assumption))).trans ?_)) lv_wide rfl lvB_live (.exact _) (Nat.le_refl _))
set_option maxHeartbeats 1000000 in
theorem c_lives (w₀ : World) (ht10 : Tab10 w₀) (h : AHeap) : ACall Tryd.prog w₀ 13 [] h (fun r h' => r = .bool true ∧ h' = h) := by
  have hnT := itemC_named [84] 2 0 4 1
  have hnT3 := itemC_named [84] 2 0 4 3
  refine acall_intro (n := 114) (rs := [.tmp 0]) Tryd.func13 rfl rfl rfl rfl (Nat.le_of_ble_eq_true rfl) ?_
  simp only [initSlots]
  -- region 0  law.go:70
  refine awp_rseq [] (by rfl) fun K hK => ?_
  simp (decide := true) only [aOps_nil, ev, absV, absS, putD, Slots.put, Slots.keep, if_false, true_and, ↓ap_assign, pop_assign]
  apply hK; clear hK K
  -- region 1  law.go:71
  refine awp_rseq [1] (by rfl) fun K hK => ?_
  refine aOps_callV (V := .agg [.str [84], .int .i64 2, .int .i64 0, .int .u8 4, .int .u8 0, .str [], .int .i64 0, .int .i64 0, .bool false, .bool false, .bool false, .bool false, .bool false, .int .i64 0, .int .i64 0, .int .i64 1, .int .i64 0, .int .i64 (-1), .int .i64 (-1), .int .i64 (-1), .int .i64 (-1), .nilSlice]) (by rfl) (by rfl) (by rw [← hnT]; exact c_named w₀ _ [84] 2 0 4) ?_
  refine aOps_alloc ze44 (cs := [.str [], .int .i64 0, .int .i64 0, .int .u8 0, .int .u8 0, .str [], .int .i64 0, .int .i64 0, .bool false, .bool false, .bool false, .bool false, .bool false, .int .i64 0, .int .i64 0, .int .i64 0, .int .i64 0, .int .i64 0, .int .i64 0, .int .i64 0, .int .i64 0, .nilSlice]) (by rfl) fun k1q1 hk1q1 => ?_
  try have hf_1q1 : h k1q1 = none := by first | assumption | (simp only [AHeap.set_none] at hk1q1; simp only [hk1q1])
  refine aOps_store (by rfl) (by rfl) (by repeat (first | exact AHeap.set_same _ _ _ | assumption | refine (AHeap.set_ne _ _ (by first | assumption | exact Ne.symm (by assumption))).trans ?_)) sz44 (by rfl) (by rfl) (by first | exact Nat.le_refl _ | decide | (simp; done) | (simp; omega)) (Nat.zero_le _) (by rfl) ?_
  simp only [AHeap.set_set, AVal.cells]
  simp (decide := true) only [aOps_nil, ev, putD, Slots.put, Slots.get, Slots.keep, if_true, if_false, setAt, List.set_cons_zero, List.set_cons_succ, Nat.zero_add, Nat.reduceAdd]
  apply hK; clear hK K
  -- region 2  law.go:72
  refine awp_rseq [1] (by rfl) fun K hK => ?_
  simp (decide := true) only [ev, putD, Slots.put, Slots.get, if_true, if_false, true_and, ↓ap_fieldAddr, pop_fieldAddr, fa44_5, Nat.zero_add]
  refine aOps_store (by rfl) (by rfl) (by repeat (first | exact AHeap.set_same _ _ _ | assumption | refine (AHeap.set_ne _ _ (by first | assumption | exact Ne.symm (by assumption))).trans ?_)) sz3 (by rfl) (by rfl) (by first | exact Nat.le_refl _ | decide | (simp; done) | (simp; omega)) (Nat.zero_le _) (by rfl) ?_
  simp only [AHeap.set_set, AVal.cells]
  simp (decide := true) only [aOps_nil, ev, absV, absS, putD, Slots.keep, if_true, if_false, setAt, List.set_cons_zero, List.set_cons_succ]
  apply hK; clear hK K
  refine Awp.keep [1] ?_
  exact l_lives3 w₀ ht10 h _ k1q1 (by repeat (first | exact Sub.refl _ | assumption | refine Sub.set_both ?_ _ _ | refine Sub.trans_set ?_ (by repeat (first | assumption | refine (AHeap.set_ne _ _ (by first | assumption | exact Ne.symm (by assumption))).trans ?_)))) hf_1q1 _ hnT3.symm (by repeat (first | exact AHeap.set_same _ _ _ | assumption | refine (AHeap.set_ne _ _ (by first | assumption | exact Ne.symm (by assumption))).trans ?_))
end Go.Proofs.YtgnebodlkfblcaaDoor

/-
  Rows of the function's own: written at a place, grown.
  Conditions: none.
-/
namespace Go.AM
theorem flat_set1 {α : Type} {es : Nat} (y : α) : ∀ {xs : List (List α)}, (∀ x ∈ xs, x.length = es) → ∀ (i j : Nat), i < xs.length → j < es → xs.flatten.set (i * es + j) y = (xs.set i ((xs.getD i []).set j y)).flatten
  | [], _, i, j, hi, _ => by simp at hi
  | x :: xs, h, 0, j, _, hj => by
    have hx := h x List.mem_cons_self
    rw [List.flatten_cons, Nat.zero_mul, Nat.zero_add, List.set_append_left _ _ (by omega), List.set_cons_zero, List.flatten_cons]
    rfl
  | x :: xs, h, i + 1, j, hi, hj => by
    have hx := h x List.mem_cons_self
    rw [List.flatten_cons, List.set_append_right _ _ (by rw [Nat.succ_mul]; omega), show (i + 1) * es + j - x.length = i * es + j by rw [Nat.succ_mul]; omega, flat_set1 y (fun z hz => h z (List.mem_cons_of_mem _ hz)) i j (by simpa using hi) hj, List.set_cons_succ, List.flatten_cons]
    rfl
theorem flat_setAt {α : Type} {es : Nat} : ∀ (ys : List α) {xs : List (List α)}, (∀ x ∈ xs, x.length = es) → ∀ (i j : Nat), i < xs.length → j + ys.length ≤ es → setAt xs.flatten (i * es + j) ys = (xs.set i (setAt (xs.getD i []) j ys)).flatten
  | [], xs, h, i, j, hi, _ => by
    simp only [setAt]
    congr 1
    rw [List.getD, List.getElem?_eq_getElem hi]
    exact (List.set_getElem_self hi).symm
  | y :: ys, xs, h, i, j, hi, hj => by
    simp only [List.length_cons] at hj
    simp only [setAt]
    have hl : (xs.getD i []).length = es := by
      rw [List.getD, List.getElem?_eq_getElem hi]
      exact h _ (List.getElem_mem hi)
    rw [flat_set1 y h i j hi (by omega), Nat.add_assoc, flat_setAt ys (xs := xs.set i ((xs.getD i []).set j y)) (fun z hz => ?_) i (j + 1) (by rw [List.length_set]; exact hi) (by omega), List.set_set]
    · congr 3
      simp [List.getD, hi]
    · rcases List.mem_or_eq_of_mem_set hz with hz | hz
      · exact h z hz
      · rw [hz, List.length_set]; exact hl
/-- Elements behind a row of the function's own. -/
theorem aOps_appendRow {P : Program} {w₀ : World} {ops rest : List Oper} {s : Slots} {H : AHeap} {K : Slots → AHeap → Prop} {dst : Option Tmp} {ty : TypeId} {pos : String} {af : Array Edge} {ts : Array TypeId} {t u e : TypeId} {d : TypeDesc} {x y : Operand} {v' : AVal} {es by' k : Nat} {c : Cap} {z : Value} {xs ys : List (List AVal)}
    (h0 : ts[0]? = some t) (h1 : ts[1]? = some u) (ht : P.underlying t = some (.slice e)) (hu : P.underlying u = some d) (hd : ∀ k, d ≠ .int k)
    (hs : szOf P e = some es) (hb : byOf P e = some by') (hz : zeOf P e = some z) (hzs : z.cells.size = es) (hes : es ≠ 0)
    (hx : ev s x = .slice (.own k) 0 xs.length c) (hc : c = .exact xs.length ∨ c = .grow es) (hk : H k = some ⟨xs.flatten, 0⟩) (hw : ∀ x ∈ xs, x.length = es) (hal : allLive xs.flatten = true) (hy : ev s y = v') (hv' : IsL w₀ H es v' ys) (hsc : allScal ys.flatten = true) (hne : ys.length ≠ 0)
    (hl : (xs.length + ys.length) * by' ≤ 140737488355328) (hl' : xs.length + ys.length < 4611686018427387904)
    (hkk : ∀ k' H', H' k' = some ⟨(xs ++ ys).flatten, 0⟩ → (H k' = none ∨ k' = k) → (∀ j d, H j = some d → j ≠ k → H' j = some d ∧ j ≠ k') → aOps P w₀ ops rest (putD s dst (.slice (.own k') 0 (xs.length + ys.length) (.grow es))) H' K) :
    aOps P w₀ ops (⟨dst, .call ⟨.builtin .append, [x, y].toArray, ts⟩, ty, pos, af, none⟩ :: rest) s H K := by
  rcases hc with rfl | rfl
  · refine aOps_appendClip (v := .slice (.own k) 0 xs.length (.exact xs.length)) h0 h1 ht hu hd hs hb hz hzs hes hx (IsL.own hk hw rfl hal (.exact _) (Nat.le_refl _)) hy hv' hne hl hl' fun k' hk' _ => ?_
    refine hkk k' _ (AHeap.set_same _ _ _) (.inl hk') fun j d hj _ => ?_
    have hne' : j ≠ k' := fun e => by subst e; rw [hk'] at hj; cases hj
    exact ⟨(AHeap.set_ne _ _ hne').trans hj, hne'⟩
  · have hlen : xs.flatten.length / es = xs.length := by rw [flatten_len hw, Nat.mul_div_cancel _ (Nat.pos_of_ne_zero hes)]
    refine aOps_appendL (zs := xs) (h₀ := H.del k) (b := some ⟨k, xs.flatten⟩) h0 h1 ht hu hd hs hb hz hzs hes (by rw [hx]; simp only [bufV, hlen]) ⟨by simp [AHeap.del], by simp only; rw [flatten_len hw]; exact Nat.mul_mod_left _ _, hal⟩ rfl hw ?_ hy hv' hsc hl hl' fun b' h' o1 o2 o3 => ?_
    · intro j d hj
      by_cases e : j = k
      · subst e
        rw [show bufH (H.del j) (some ⟨j, xs.flatten⟩) = (H.del j).set j ⟨xs.flatten, 0⟩ from rfl, AHeap.set_same] at hj
        rw [← hj]; exact hk
      · rw [show bufH (H.del k) (some ⟨k, xs.flatten⟩) = (H.del k).set k ⟨xs.flatten, 0⟩ from rfl, AHeap.set_ne _ _ e] at hj
        simpa [AHeap.del, e] using hj
    · cases b' with
      | none =>
        exfalso
        have e0 : ((xs ++ ys).flatten).length = 0 := by rw [← o2]; rfl
        have hw2 : ∀ x ∈ xs ++ ys, x.length = es := fun x hx => by
          rcases List.mem_append.1 hx with h | h
          · exact hw x h
          · exact hv'.wide x h
        rw [flatten_len hw2, List.length_append] at e0
        rcases Nat.mul_eq_zero.1 e0 with e | e
        · omega
        · exact hes e
      | some b' =>
        obtain ⟨kb, cells⟩ := b'
        have hcl : cells = (xs ++ ys).flatten := o2
        subst hcl
        have hw2 : ∀ x ∈ xs ++ ys, x.length = es := fun x hx => by
          rcases List.mem_append.1 hx with h | h
          · exact hw x h
          · exact hv'.wide x h
        have hlen2 : (xs ++ ys).flatten.length / es = xs.length + ys.length := by rw [flatten_len hw2, Nat.mul_div_cancel _ (Nat.pos_of_ne_zero hes), List.length_append]
        have hkb : (H.del k) kb = none := o1.1
        have hr := hkk kb h' (o3 _ _ (AHeap.set_same _ _ _)) (by
          by_cases e : kb = k
          · exact .inr e
          · left; simpa [AHeap.del, e] using hkb) (fun j d hj hjk => by
          have hdj : (H.del k) j = some d := by simpa [AHeap.del, hjk] using hj
          have hjb : j ≠ kb := fun e => by subst e; rw [hdj] at hkb; cases hkb
          exact ⟨o3 _ _ ((AHeap.set_ne _ _ hjb).trans hdj), hjb⟩)
        simp only [bufV, hlen2]
        exact hr
end Go.AM

