/-
  Texts of this proof, joined: AmY, LnG, LwO, LwP, LwQ, LnH.
  Conditions: none.
-/
import Derived.Test.YthiiakghjoeikaaGreatDoorMd
import Derived.Test.YthiiakghjoeikaaGreatDoorMe
import Derived.Test.YthiiakghjoeikaaGreatDoorMf
import Derived.Test.YthiiakghjoeikaaGreatDoorMc
import Derived.Test.YthiiakghjoeikaaGreatDoorRows
import Derived.WalkKit
import Derived.ProofKit
import Derived.OpenShut
import Derived.ShutString
import Derived.ChangeOld
import Derived.Below
import Derived.Deep.Strs
import Derived.Lib.LaidTab
import Derived.MakeChecks
import Derived.Stop.LaidErr
import Derived.FnData
set_option linter.unusedSimpArgs false
set_option linter.unnecessarySimpa false
set_option linter.unusedVariables false
/-
  An assertion layer over the model's wp, part Y: statements of open order whose calls are chained and leave the told heap, with reading operations between them (rule H).
  Conditions: none. Nothing here is about a particular program.
-/
namespace Go.AM
open Go.RowKit (Below)
section
variable {P : Program} {w₀ : World} {n : Nat}

/-- Operations in an order of our own; the first m leave what is told of the heap. -/
def hOps (P : Program) (w₀ : World) (l : List Oper) : Nat → List Oper → Slots → AHeap → (Slots → AHeap → Prop) → Prop
  | _, [], s, h, K => K s h
  | 0, o :: r, s, h, K => aOps P w₀ l (o :: r) s h K
  | m + 1, o :: r, s, h, K => aOps P w₀ l [o] s h fun s' h' => Sub h h' ∧ hOps P w₀ l m r s' h' K
theorem hOps_nil {l : List Oper} {m : Nat} {s : Slots} {h : AHeap} {K : Slots → AHeap → Prop} : hOps P w₀ l m [] s h K = K s h := by cases m <;> rfl
theorem hOps_cons {l : List Oper} {m : Nat} {o : Oper} {r : List Oper} {s : Slots} {h : AHeap} {K : Slots → AHeap → Prop} : hOps P w₀ l (m + 1) (o :: r) s h K = aOps P w₀ l [o] s h fun s' h' => Sub h h' ∧ hOps P w₀ l m r s' h' K := rfl
theorem hOps_zero {l : List Oper} {o : Oper} {r : List Oper} {s : Slots} {h : AHeap} {K : Slots → AHeap → Prop} : hOps P w₀ l 0 (o :: r) s h K = aOps P w₀ l (o :: r) s h K := rfl
theorem AHeap.ne_some {h : AHeap} {k j : Nat} {b : Blk} (hk : h k = none) (hj : h j = some b) : k ≠ j := fun e => by subst e; rw [hk] at hj; cases hj
theorem Sub_self (h : AHeap) : Sub h h = True := eq_true (Sub.refl h)

theorem aOps_one {l : List Oper} {o : Oper} {r : List Oper} {s : Slots} {h : AHeap} {K : Slots → AHeap → Prop} (ha : aOps P w₀ l (o :: r) s h K) : aOps P w₀ l [o] s h fun s' h' => aOps P w₀ l r s' h' K := by
  simp only [aOps] at ha ⊢
  exact ha
theorem aOps1_mono {l : List Oper} {o : Oper} {s : Slots} {h : AHeap} {K K' : Slots → AHeap → Prop} (hk : ∀ s h, K s h → K' s h) (ha : aOps P w₀ l [o] s h K) : aOps P w₀ l [o] s h K' := by
  simp only [aOps] at ha ⊢
  split
  · rename_i hg
    rw [hg] at ha
    exact eop_mono ha fun x h' hx => hk _ _ hx
  · rename_i j want hg
    rw [hg] at ha
    simp only at ha
    split
    · rename_i hj
      rw [hj] at ha
      exact hk _ _ ha
    · rename_i d hj
      rw [hj] at ha
      refine ⟨ha.1, ?_⟩
      have h2 := ha.2
      split
      · rename_i hp
        rw [if_pos hp] at h2
        exact ⟨h2.1, hk _ _ h2.2⟩
      · rename_i hp
        rw [if_neg hp] at h2
        exact ⟨fun e => eop_mono (h2.1 e) fun x h' hx => hk _ _ hx, fun e => hk _ _ (h2.2 e)⟩
theorem hOps_mono {l : List Oper} {K K' : Slots → AHeap → Prop} (hk : ∀ s h, K s h → K' s h) : ∀ {r : List Oper} {m : Nat} {s : Slots} {h : AHeap}, hOps P w₀ l m r s h K → hOps P w₀ l m r s h K'
  | [], m, s, h, ha => by rw [hOps_nil] at ha ⊢; exact hk _ _ ha
  | o :: r, 0, s, h, ha => awp_rseq.aOps_mono hk ha
  | o :: r, m + 1, s, h, ha => aOps1_mono (fun s' h' hx => ⟨hx.1, hOps_mono hk hx.2⟩) ha

/-- What the looked-at slots hold. -/
def LookOk (ψ : PMap) (n : Nat) (l : List Oper) (o : Oper) (S : Slots) (a : Act) : Prop := a.tmps.size = n ∧ a.defers = [] ∧ ∀ t ∈ looksL l o, VR ψ (S.get t) (a.tmps.getD t undef)
theorem LookOk.rel {ψ : PMap} {l : List Oper} {o : Oper} {S : Slots} {a : Act} (h : LookOk ψ n l o S a) : SRel ψ n (S.keep (looksL l o)) a := by
  refine ⟨h.1, h.2.1, fun t => ?_⟩
  rw [Slots.get_keep]
  by_cases ht : (looksL l o).contains t = true
  · rw [if_pos ht]; exact h.2.2 t (by simpa using ht)
  · rw [if_neg ht]; trivial
theorem guard_look {ψ : PMap} {l : List Oper} (hall : dstsOk n l = true) {o : Oper} {S : Slots} {a : Act} (h : LookOk ψ n l o S a) {j d : Nat} {want : Bool} (hg : o.guard = some (j, want)) (hj : nthDst l j = some d) (hk : gKnown (S.get d) = true) :
    Region.wanted o (yielded l.toArray a.tmps) = guardB (S.get d) want := by
  have hd : (S.keep (looksL l o)).get d = S.get d := by
    rw [Slots.get_keep, if_pos]
    simp [looksL, hg, hj]
  have := guard_ok h.rel l j d hj (nth_lt l j d hall hj) (by rw [hd]; exact hk) want
  rw [hd] at this
  simp only [Region.wanted, hg]
  exact this
theorem guard_never {l : List Oper} {o : Oper} {j : Nat} {want : Bool} {a : Act} (hg : o.guard = some (j, want)) (hj : nthDst l j = none) : Region.wanted o (yielded l.toArray a.tmps) = false := by
  have hd : (l.toArray[j]?).bind (·.dst) = none := by rw [← hj, nthDst_eq]; simp
  simp only [Region.wanted, hg, yielded, hd]
  rfl

/-- One operation is run. -/
theorem one_ok {l : List Oper} (hall : dstsOk n l = true) {o : Oper} {S : Slots} {g : AHeap} {K : Slots → AHeap → Prop} (ha : aOps P w₀ l [o] S g K) {ψ : PMap} {w : World} {a : Act} (hr : HRel w₀ ψ g w) (hl : LookOk ψ n l o S a)
    {next : Act → World → Prop} {Q : Exit → Act → World → Prop} (hn : ∀ ψ' x h' v w', ψ.le ψ' → HRel w₀ ψ' h' w' → VR ψ' x v → K (putD S o.dst x) h' → next (a.put o.dst v) w') :
    if Region.wanted o (yielded l.toArray a.tmps) = true then o.wp P a w next Q else next (a.put o.dst undef) w := by
  have hs := hl.rel
  have run : ∀ (K' : AVal → AHeap → Prop), eop P w₀ g S o.op K' → (∀ x h', K' x h' → K (putD S o.dst x) h') → o.wp P a w next Q := fun K' he hk => by
    rw [← eop_congr (s' := S.keep (looksL l o)) o.op (ev_mem fun t ht => by unfold looksL; exact List.mem_append_left _ ht)] at he
    exact eop_ok o he hr hs fun ψ' x h' v w' e1 e2 e3 e4 => hn ψ' x h' v w' e1 e2 e3 (hk x h' e4)
  have skip : K (putD S o.dst (.tuple [])) g → next (a.put o.dst undef) w := fun hk => hn ψ _ g undef w ψ.le_refl hr (VR_undef ψ) hk
  simp only [aOps] at ha
  cases hg : o.guard with
  | none =>
    simp only [hg] at ha
    have hw : Region.wanted o (yielded l.toArray a.tmps) = true := by simp [Region.wanted, hg]
    rw [if_pos hw]
    exact run _ ha fun _ _ hk => hk
  | some gw =>
    obtain ⟨j, want⟩ := gw
    simp only [hg] at ha
    cases hj : nthDst l j with
    | none =>
      simp only [hj] at ha
      rw [if_neg (by rw [guard_never hg hj]; decide)]
      exact skip ha
    | some d =>
      simp only [hj] at ha
      obtain ⟨hk, ha⟩ := ha
      rw [guard_look hall hl hg hj hk]
      split at ha
      · rename_i hp
        obtain ⟨h1, h2⟩ := ha
        cases hb : guardB (S.get d) want with
        | true =>
          simp only [hb, condV, cond_true] at h2
          simp only [if_true]
          exact run (fun x h' => x = (pop P w₀ g S o.op).val ∧ h' = g) ((eop_pure hp).2 ⟨h1 hb, rfl, rfl⟩) fun x h' ⟨e1, e2⟩ => by subst e1 e2; exact h2
        | false =>
          simp only [hb, condV, cond_false] at h2
          simp only [Bool.false_eq_true, if_false]
          exact skip h2
      · obtain ⟨h1, h2⟩ := ha
        cases hb : guardB (S.get d) want with
        | true =>
          simp only [if_true]
          exact run _ (h1 hb) fun _ _ hk => hk
        | false =>
          simp only [Bool.false_eq_true, if_false]
          exact skip (h2 hb)

/-- A reading operation gives the same wherever the told heap lies, and whenever it is run. -/
def FactR (P : Program) (w₀ : World) (n : Nat) (l : List Oper) (g : AHeap) (S : Slots) (o : Oper) (V : AVal) : Prop :=
  ∀ (ψ : PMap) (w : World) (a : Act) (g' : AHeap) (next : Act → World → Prop) (Q : Exit → Act → World → Prop), Sub g g' → HRel w₀ ψ g' w → LookOk ψ n l o S a → (∀ v, VR ψ V v → next (a.put o.dst v) w) →
    if Region.wanted o (yielded l.toArray a.tmps) = true then o.wp P a w next Q else next (a.put o.dst undef) w
theorem FactR.sub {l : List Oper} {g g' : AHeap} {S : Slots} {o : Oper} {V : AVal} (h : FactR P w₀ n l g S o V) (hs : Sub g g') : FactR P w₀ n l g' S o V :=
  fun ψ w a g₂ next Q h1 h2 h3 h4 => h ψ w a g₂ next Q (Sub.trans hs h1) h2 h3 h4
theorem FactR.slots {l : List Oper} {g : AHeap} {S S' : Slots} {o : Oper} {V : AVal} (h : FactR P w₀ n l g S o V) (hs : ∀ t ∈ looksL l o, S'.get t = S.get t) : FactR P w₀ n l g S' o V :=
  fun ψ w a g₂ next Q h1 h2 h3 h4 => h ψ w a g₂ next Q h1 h2 ⟨h3.1, h3.2.1, fun t ht => by rw [← hs t ht]; exact h3.2.2 t ht⟩ h4
theorem fact_of {l : List Oper} (hall : dstsOk n l = true) {o : Oper} (hk2 : kindF P o.op = 2) {S : Slots} {g : AHeap} {K : Slots → AHeap → Prop} (ha : aOps P w₀ l [o] S g K) : ∃ V, K (putD S o.dst V) g ∧ FactR P w₀ n l g S o V := by
  have hp := kindF_pure hk2
  have same : pop P w₀ g (S.keep (looksL l o)) o.op = pop P w₀ g S o.op := pop_congr o.op (ev_mem fun t ht => by unfold looksL; exact List.mem_append_left _ ht)
  have run : (pop P w₀ g S o.op).pre → ∀ (ψ : PMap) (w : World) (a : Act) (g' : AHeap) (next : Act → World → Prop) (Q : Exit → Act → World → Prop), Sub g g' → HRel w₀ ψ g' w → LookOk ψ n l o S a → (∀ v, VR ψ (pop P w₀ g S o.op).val v → next (a.put o.dst v) w) → o.wp P a w next Q := by
    intro hpre ψ w a g' next Q h1 h2 h3 h4
    rw [← same] at hpre h4
    have up := pop_up (g := g') hk2 (fun k b hb _ => h1 k b hb) h3.rel hpre
    rw [← up] at hpre h4
    obtain ⟨r, e1, e2⟩ := pop_ok o hpre h2 h3.rel
    exact wp_value (e1 w (Same.refl w)) (h4 r e2)
  simp only [aOps] at ha
  cases hg : o.guard with
  | none =>
    simp only [hg] at ha
    rw [eop_pure hp] at ha
    refine ⟨_, ha.2, fun ψ w a g' next Q h1 h2 h3 h4 => ?_⟩
    have hw : Region.wanted o (yielded l.toArray a.tmps) = true := by simp [Region.wanted, hg]
    rw [if_pos hw]
    exact run ha.1 ψ w a g' next Q h1 h2 h3 h4
  | some gw =>
    obtain ⟨j, want⟩ := gw
    simp only [hg] at ha
    cases hj : nthDst l j with
    | none =>
      simp only [hj] at ha
      refine ⟨_, ha, fun ψ w a g' next Q h1 h2 h3 h4 => ?_⟩
      rw [if_neg (by rw [guard_never hg hj]; decide)]
      exact h4 _ (VR_undef ψ)
    | some d =>
      simp only [hj] at ha
      obtain ⟨hk, ha⟩ := ha
      rw [if_pos hp] at ha
      obtain ⟨h1, h2⟩ := ha
      refine ⟨_, h2, fun ψ w a g' next Q q1 q2 q3 q4 => ?_⟩
      rw [guard_look hall q3 hg hj hk]
      cases hb : guardB (S.get d) want with
      | true =>
        simp only [hb, condV, cond_true] at q4
        simp only [if_true]
        exact run (h1 hb) ψ w a g' next Q q1 q2 q3 q4
      | false =>
        simp only [hb, condV, cond_false] at q4
        simp only [Bool.false_eq_true, if_false]
        exact q4 _ (VR_undef ψ)

/-! ### The static conditions -/
def permL (l : List Oper) (π : List Nat) : List Oper := π.filterMap fun i => l[i]?
def isF (P : Program) (l : List Oper) (i : Nat) : Bool := match l[i]? with
  | some o => kindF P o.op == 2
  | none => true
def floatH (P : Program) (l : List Oper) (π : List Nat) (ws : List (Option Nat)) (m : Nat) : Bool :=
  orderB l && (π.all fun i => decide (i < l.length)) && ((List.range l.length).all fun i => π.contains i) &&
  ((List.range π.length).all fun q => (List.range π.length).all fun r => decide (q = r) || !(π.getD q 0 == π.getD r 0)) &&
  ((List.range π.length).all fun q => match ws.getD q none with
    | none => (List.range q).all fun c => isF P l (π.getD c 0)
    | some r => decide (r < q) && Region.waitsFor .any l.toArray (π.getD q 0) (π.getD r 0) && (List.range q).all fun c => decide (c ≤ r) || isF P l (π.getD c 0)) &&
  ((List.range π.length).all fun q => match l[π.getD q 0]? with
    | none => true
    | some o => (List.range π.length).all fun r => match l[π.getD r 0]? with
      | none => true
      | some oj => (match oj.dst with
        | none => true
        | some t => !(looksL l o).contains t || (decide (r < q) && Region.waitsFor .any l.toArray (π.getD q 0) (π.getD r 0)))) &&
  decide (m ≤ π.length) && ((List.range π.length).all fun q => decide (q < m) || !isF P l (π.getD q 0)) &&
  (decide (m = π.length) || (List.range m).all fun q => (List.range (m + 1)).any fun r => decide (q < r) && Region.waitsFor .any l.toArray (π.getD r 0) (π.getD q 0))

structure FloatP (P : Program) (l : List Oper) (π : List Nat) (m : Nat) : Prop where
  order : orderB l = true
  inr : ∀ q, q < π.length → π.getD q 0 < l.length
  onto : ∀ i, i < l.length → ∃ q, q < π.length ∧ π.getD q 0 = i
  inj : ∀ q r, q < π.length → r < π.length → π.getD q 0 = π.getD r 0 → q = r
  wait : ∀ q c, q < π.length → c < q → isF P l (π.getD c 0) = false → ∃ r, c ≤ r ∧ r < q ∧ Region.waitsFor .any l.toArray (π.getD q 0) (π.getD r 0) = true
  data : ∀ q r o oj t, q < π.length → r < π.length → l[π.getD q 0]? = some o → l[π.getD r 0]? = some oj → oj.dst = some t → t ∈ looksL l o → r < q ∧ Region.waitsFor .any l.toArray (π.getD q 0) (π.getD r 0) = true
  mle : m ≤ π.length
  tail : ∀ q, m ≤ q → q < π.length → isF P l (π.getD q 0) = false
  sink : m < π.length → ∀ q, q < m → ∃ r, q < r ∧ r ≤ m ∧ Region.waitsFor .any l.toArray (π.getD r 0) (π.getD q 0) = true

theorem floatH_spec {l : List Oper} {π : List Nat} {ws : List (Option Nat)} {m : Nat} (h : floatH P l π ws m = true) : FloatP P l π m := by
  unfold floatH at h
  simp only [Bool.and_eq_true] at h
  obtain ⟨⟨⟨⟨⟨⟨⟨⟨h1, h2⟩, h3⟩, h4⟩, h5⟩, h6⟩, h7⟩, h8⟩, h9⟩ := h
  simp only [List.all_eq_true, List.mem_range] at h2 h3 h4 h5 h6 h8
  refine ⟨h1, fun q hq => ?_, fun i hi => ?_, fun q r hq hr e => ?_, fun q c hq hc hf => ?_, fun q r o oj t hq hr ho hoj hd ht => ?_, by simpa using h7, fun q hm hq => ?_, fun hm q hq => ?_⟩
  · have := h2 (π.getD q 0) (by rw [List.getD, List.getElem?_eq_getElem hq]; exact List.getElem_mem hq)
    simpa using this
  · have := h3 i hi
    rw [List.contains_iff_mem] at this
    obtain ⟨q, hq, e⟩ := List.getElem_of_mem this
    exact ⟨q, hq, by rw [List.getD, List.getElem?_eq_getElem hq]; exact e⟩
  · have := h4 q hq r hr
    rw [Bool.or_eq_true, decide_eq_true_eq] at this
    rcases this with e' | e'
    · exact e'
    · rw [e] at e'; simp at e'
  · have := h5 q hq
    split at this
    · rw [List.all_eq_true] at this
      rw [this c (List.mem_range.2 hc)] at hf
      cases hf
    · rename_i r _
      simp only [Bool.and_eq_true, decide_eq_true_eq, List.all_eq_true, List.mem_range, Bool.or_eq_true] at this
      obtain ⟨⟨t1, t2⟩, t3⟩ := this
      rcases t3 c hc with e | e
      · exact ⟨r, e, t1, t2⟩
      · rw [e] at hf; cases hf
  · have := h6 q hq
    rw [ho] at this
    simp only [List.all_eq_true, List.mem_range] at this
    have := this r hr
    rw [hoj] at this
    simp only [hd, Bool.or_eq_true, Bool.and_eq_true, decide_eq_true_eq, Bool.not_eq_true'] at this
    rcases this with e | e
    · have hm : (looksL l o).contains t = true := by simpa using ht
      rw [hm] at e; cases e
    · exact e
  · have := h8 q hq
    simp only [Bool.or_eq_true, decide_eq_true_eq, Bool.not_eq_true'] at this
    rcases this with e | e
    · omega
    · exact e
  · rw [Bool.or_eq_true, decide_eq_true_eq] at h9
    rcases h9 with e | e
    · omega
    · rw [List.all_eq_true] at e
      have := e q (List.mem_range.2 hq)
      rw [List.any_eq_true] at this
      obtain ⟨r, hr, hw⟩ := this
      rw [List.mem_range] at hr
      simp only [Bool.and_eq_true, decide_eq_true_eq] at hw
      exact ⟨r, hw.1, by omega, hw.2⟩

theorem permL_at {l : List Oper} : ∀ {π : List Nat}, (∀ q, q < π.length → π.getD q 0 < l.length) → ∀ q, q < π.length → (permL l π)[q]? = l[π.getD q 0]?
  | i :: π, h, q, hq => by
    have h0 : i < l.length := h 0 (by simp)
    have e : permL l (i :: π) = l[i] :: permL l π := by
      unfold permL
      rw [List.filterMap_cons, List.getElem?_eq_getElem h0]
    rw [e]
    cases q with
    | zero => simp [List.getElem?_eq_getElem h0]
    | succ q =>
      rw [List.getElem?_cons_succ, permL_at (π := π) (fun q hq => h (q + 1) (by simpa using hq)) q (by simpa using hq)]
      rfl
theorem permL_length {l : List Oper} : ∀ {π : List Nat}, (∀ q, q < π.length → π.getD q 0 < l.length) → (permL l π).length = π.length
  | [], _ => rfl
  | i :: π, h => by
    have h0 : i < l.length := h 0 (by simp)
    unfold permL
    rw [List.filterMap_cons, List.getElem?_eq_getElem h0]
    simp only [List.length_cons]
    exact congrArg (· + 1) (permL_length (π := π) fun q hq => h (q + 1) (by simpa using hq))
theorem permL_drop {l : List Oper} {π : List Nat} (h : ∀ q, q < π.length → π.getD q 0 < l.length) {p : Nat} (hp : p < π.length) {o : Oper} (ho : l[π.getD p 0]? = some o) : (permL l π).drop p = o :: (permL l π).drop (p + 1) := by
  have e := permL_at h p hp
  rw [ho] at e
  have hl := (List.getElem?_eq_some_iff.1 e).1
  rw [List.drop_eq_getElem_cons hl]
  congr 1
  exact (List.getElem?_eq_some_iff.1 e).2

/-- Over the reading operations, up to the next call. -/
theorem advance {l : List Oper} (hall : dstsOk n l = true) {π : List Nat} {m : Nat} (F : FloatP P l π m) {K : Slots → AHeap → Prop} {g : AHeap} : ∀ (d p : Nat) (S : Slots), π.length - p = d → p ≤ π.length → hOps P w₀ l (m - p) ((permL l π).drop p) S g K →
    ∃ p' S', p ≤ p' ∧ p' ≤ π.length ∧ (p' < π.length → isF P l (π.getD p' 0) = false) ∧ (∀ q, p ≤ q → q < p' → isF P l (π.getD q 0) = true) ∧ hOps P w₀ l (m - p') ((permL l π).drop p') S' g K ∧
      (∀ q o, p ≤ q → q < p' → l[π.getD q 0]? = some o → ∃ V, (∀ t, o.dst = some t → S'.get t = V) ∧ FactR P w₀ n l g S' o V) ∧
      (∀ t, (∀ q o, p ≤ q → q < p' → l[π.getD q 0]? = some o → o.dst ≠ some t) → S'.get t = S.get t) := by
  intro d
  induction d with
  | zero =>
    intro p S hd hp ha
    exact ⟨p, S, Nat.le_refl _, hp, fun h => by omega, fun q h1 h2 => by omega, ha, fun q o h1 h2 => by omega, fun t _ => rfl⟩
  | succ d ih =>
    intro p S hd hp ha
    have hpl : p < π.length := by omega
    cases hf : isF P l (π.getD p 0) with
    | false => exact ⟨p, S, Nat.le_refl _, hp, fun _ => hf, fun q h1 h2 => by omega, ha, fun q o h1 h2 => by omega, fun t _ => rfl⟩
    | true =>
      have hpm : p < m := by
        refine Nat.lt_of_not_le fun h => ?_
        rw [F.tail p h hpl] at hf
        cases hf
      obtain ⟨o, ho⟩ : ∃ o, l[π.getD p 0]? = some o := ⟨_, List.getElem?_eq_getElem (F.inr p hpl)⟩
      have hk2 : kindF P o.op = 2 := by
        unfold isF at hf
        rw [ho] at hf
        simpa using hf
      rw [permL_drop F.inr hpl ho, show m - p = (m - (p + 1)) + 1 by omega, hOps_cons] at ha
      obtain ⟨V, ⟨_, hv⟩, hfact⟩ := fact_of hall hk2 ha
      obtain ⟨p', S', a1, a2, a3, a4, a5, a6, a7⟩ := ih (p + 1) (putD S o.dst V) (by omega) (by omega) hv
      have notlook : ∀ q oq t, p ≤ q → q < π.length → l[π.getD q 0]? = some oq → oq.dst = some t → t ∉ looksL l o := fun q oq t h1 h2 h3 h4 ht => by
        have := (F.data p q o oq t hpl h2 ho h3 h4 ht).1
        omega
      have uniq : ∀ q oq t, p < q → q < π.length → l[π.getD q 0]? = some oq → oq.dst = some t → o.dst ≠ some t := fun q oq t h1 h2 h3 h4 e => by
        have := ((orderB_spec F.order ho).2 _ oq t h3 h4).1 e
        have := F.inj p q hpl h2 this
        omega
      refine ⟨p', S', by omega, a2, a3, fun q h1 h2 => ?_, a5, fun q oq h1 h2 hq => ?_, fun t ht => ?_⟩
      · rcases Nat.eq_or_lt_of_le h1 with e | e
        · rw [← e]; exact hf
        · exact a4 q e h2
      · rcases Nat.eq_or_lt_of_le h1 with e | e
        · subst e
          rw [ho] at hq
          obtain rfl := Option.some.inj hq
          refine ⟨V, fun t ht => ?_, hfact.slots fun t ht => ?_⟩
          · rw [a7 t fun q oq h3 h4 h5 h6 => uniq q oq t h3 (by omega) h5 h6 ht, put_get, if_pos ht]
          · rw [a7 t fun q oq h3 h4 h5 h6 => notlook q oq t (by omega) (by omega) h5 h6 ht, put_get, if_neg fun e => notlook p o t (Nat.le_refl _) hpl ho e ht]
        · exact a6 q oq e h2 hq
      · rw [a7 t fun q oq h3 h4 h5 => ht q oq (by omega) h4 h5, put_get, if_neg (ht p o (Nat.le_refl _) (by omega) ho)]

/-- Where a run of the statement stands. -/
def PhaseP (P : Program) (w₀ : World) (n : Nat) (l : List Oper) (π : List Nat) (m : Nat) (K : Slots → AHeap → Prop) (listed : Array Bool) (ψ : PMap) (a : Act) (w : World) : Prop :=
  listed.size = l.length ∧ (∀ j oj, l[j]? = some oj → listed.getD j false = true → ∀ e ∈ oj.after, Region.binds .any e = true → listed.getD e.on false = true) ∧ a.tmps.size = n ∧ a.defers = [] ∧
  ∃ p S g, p ≤ π.length ∧ (p < π.length → isF P l (π.getD p 0) = false) ∧ (∀ q, p ≤ q → q < π.length → listed.getD (π.getD q 0) false = false) ∧ (∀ q, q < p → isF P l (π.getD q 0) = false → listed.getD (π.getD q 0) false = true) ∧
    (m < p → ∀ q, q < p → listed.getD (π.getD q 0) false = true) ∧ HRel w₀ ψ g w ∧ hOps P w₀ l (m - p) ((permL l π).drop p) S g K ∧
    (∀ q o, q < p → l[π.getD q 0]? = some o → listed.getD (π.getD q 0) false = false → ∃ V, (∀ t, o.dst = some t → S.get t = V) ∧ FactR P w₀ n l g S o V) ∧
    ∀ t, (∃ q o, q < p ∧ l[π.getD q 0]? = some o ∧ o.dst = some t ∧ listed.getD (π.getD q 0) false = false) ∨ VR ψ (S.get t) (a.tmps.getD t undef)

theorem waits_listed {l : List Oper} {listed : Array Bool} {i j : Nat} {o : Oper} (ho : l[i]? = some o) (hedges : ∀ e ∈ o.after, Region.binds .any e = true → listed.getD e.on false = true) (hw : Region.waitsFor .any l.toArray i j = true) : listed.getD j false = true := by
  obtain ⟨oi, g1, e, g2, g3, g4⟩ := Region.waitsFor_spec hw
  have g1' : l[i]? = some oi := by simpa using g1
  rw [ho] at g1'
  obtain rfl := Option.some.inj g1'
  rw [← g4]
  exact hedges e g2 g3

theorem any_okP {l : List Oper} (hall : dstsOk n l = true) {π : List Nat} {m : Nat} (F : FloatP P l π m) {K : Slots → AHeap → Prop} {φ : PMap} {Q : Exit → Act → World → Prop}
    (hq : ∀ ψ S g a w, φ.le ψ → HRel w₀ ψ g w → SRel ψ n S a → K S g → Q .normal a w) : ∀ (fuel : Nat) (listed : Array Bool) (a : Act) (w : World) (ψ : PMap), φ.le ψ → PhaseP P w₀ n l π m K listed ψ a w →
    (listed.toList.filter (!·)).length ≤ fuel → wpAny P .any l.toArray Q fuel listed a w := by
  have hB := F.order
  have fin : ∀ (listed : Array Bool) (a : Act) (w : World) (ψ : PMap), φ.le ψ → PhaseP P w₀ n l π m K listed ψ a w → Region.ready .any l.toArray listed = [] → Q .normal a w := by
    rintro listed a w ψ hle ⟨i1, i2, i3, i4, p, S, g, p1, p2, p3, p4, p5, p6, p7, p8, p9⟩ hrd
    have hal := all_listed hB i1 hrd
    have hp : p = π.length := by
      rcases Nat.eq_or_lt_of_le p1 with e | e
      · exact e
      · have := p3 p (Nat.le_refl _) e
        rw [hal _ (F.inr p e)] at this
        cases this
    subst hp
    rw [show (permL l π).drop π.length = [] by rw [← permL_length F.inr]; simp, hOps_nil] at p7
    refine hq ψ S g a w hle p6 ⟨i3, i4, fun t => ?_⟩ p7
    rcases p9 t with ⟨q, o, c1, c2, c3, c4⟩ | c
    · rw [hal _ (F.inr q c1)] at c4; cases c4
    · exact c
  intro fuel
  induction fuel with
  | zero =>
    intro listed a w ψ hle inv hc
    have hrd : Region.ready .any l.toArray listed = [] := by
      cases hrd : Region.ready .any l.toArray listed with
      | nil => rfl
      | cons i r =>
        exfalso
        have hm : i ∈ Region.ready .any l.toArray listed := by rw [hrd]; exact List.mem_cons_self
        obtain ⟨h1, o, ho, _⟩ := mem_ready.1 hm
        have hi : i < listed.size := by
          have : l[i]? = some o := by simpa using ho
          rw [inv.1]; exact (List.getElem?_eq_some_iff.1 this).1
        have h2 : listed.toList[i]? = some false := by
          simp [Array.getD, hi] at h1
          simp [hi, h1]
        have := List.mem_of_getElem? h2
        have hmem : false ∈ listed.toList.filter (!·) := by simp [List.mem_filter, this]
        have := List.length_pos_of_mem hmem
        omega
    exact ⟨hrd, fin listed a w ψ hle inv hrd⟩
  | succ fuel ih =>
    intro listed a w ψ hle inv hc
    refine ⟨fun hrd => fin listed a w ψ hle inv hrd, fun i hi => ?_⟩
    obtain ⟨i1, i2, i3, i4, p, S, g, p1, p2, p3, p4, p5, p6, p7, p8, p9⟩ := inv
    obtain ⟨h1, o, ho, hedges⟩ := mem_ready.1 hi
    have hol : l[i]? = some o := by simpa using ho
    have hilt : i < l.length := (List.getElem?_eq_some_iff.1 hol).1
    have hisz : i < listed.size := by rw [i1]; exact hilt
    have hif : listed.getD i false = false := by simp [Array.getD, hisz] at h1 ⊢; exact h1
    have hcount : ((listed.setIfInBounds i true).toList.filter (!·)).length ≤ fuel := by
      have h2 : listed.toList[i]? = some false := by
        simp [Array.getD, hisz] at h1
        simp [hisz, h1]
      have := count_set listed.toList i h2
      have e : (listed.setIfInBounds i true).toList = listed.toList.set i true := by simp
      rw [e]
      omega
    have hdn : ∀ d, o.dst = some d → d < n := fun d hd => nth_lt l i d hall (by rw [nthDst_eq, hol]; exact hd)
    obtain ⟨q, hql, hqi⟩ := F.onto i hilt
    have hoq : l[π.getD q 0]? = some o := by rw [hqi]; exact hol
    have looks : LookOk ψ n l o S a := ⟨i3, i4, fun t ht => by
      rcases p9 t with ⟨r, oj, c1, c2, c3, c4⟩ | c
      · exfalso
        have := (F.data q r o oj t hql (by omega) hoq c2 c3 ht).2
        rw [hqi] at this
        rw [waits_listed hol hedges this] at c4
        cases c4
      · exact c⟩
    have closed' : ∀ j oj, l[j]? = some oj → (listed.setIfInBounds i true).getD j false = true → ∀ e ∈ oj.after, Region.binds .any e = true → (listed.setIfInBounds i true).getD e.on false = true := fun j oj hj hl e he hb => by
      by_cases e1 : e.on = i
      · rw [e1]; exact set_self hisz
      · rw [set_other e1]
        by_cases e2 : j = i
        · subst e2
          rw [hol] at hj
          obtain rfl := Option.some.inj hj
          exact hedges e he hb
        · rw [set_other e2] at hl
          exact i2 j oj hj hl e he hb
    have other : ∀ r, r < π.length → r ≠ q → (listed.setIfInBounds i true).getD (π.getD r 0) false = listed.getD (π.getD r 0) false := fun r hr hne => set_other fun e => hne (F.inj r q hr hql (by rw [e, hqi]))
    have nobehind : p < q → False := fun hpq => by
      obtain ⟨r, r1, r2, r3⟩ := F.wait q p hql hpq (p2 (by omega))
      rw [hqi] at r3
      have := waits_listed hol hedges r3
      rw [p3 r r1 (by omega)] at this
      cases this
    have goal : (if Region.wanted o (yielded l.toArray a.tmps) = true then o.wp P a w (wpAny P .any l.toArray Q fuel (listed.setIfInBounds i true)) Q else wpAny P .any l.toArray Q fuel (listed.setIfInBounds i true) (a.put o.dst undef) w) := by
      rcases Nat.lt_or_ge q p with hqp | hqp
      · -- a reading operation
        obtain ⟨V, v1, v2⟩ := p8 q o hqp hoq (by rw [hqi]; exact hif)
        refine v2 ψ w a g _ Q (Sub.refl g) p6 looks fun v hv => ?_
        refine ih _ _ _ ψ hle ⟨by simp [i1], closed', by rw [put_size]; exact i3, by rw [put_defers]; exact i4, p, S, g, p1, p2, fun r r1 r2 => ?_, fun r r1 r2 => ?_, fun hm r r1 => ?_, p6, p7, fun r oj r1 r2 r3 => ?_, fun t => ?_⟩ hcount
        · rw [other r r2 (by omega)]; exact p3 r r1 r2
        · by_cases e : r = q
          · rw [e, hqi]; exact set_self hisz
          · rw [other r (by omega) e]; exact p4 r r1 r2
        · by_cases e : r = q
          · rw [e, hqi]; exact set_self hisz
          · rw [other r (by omega) e]; exact p5 hm r r1
        · by_cases e : r = q
          · rw [e, hqi, set_self hisz] at r3; cases r3
          · rw [other r (by omega) e] at r3
            exact p8 r oj r1 r2 r3
        · by_cases hod : o.dst = some t
          · right
            rw [v1 t hod, put_get_eq a hod (by rw [i3]; exact hdn t hod)]
            exact hv
          · rcases p9 t with ⟨r, oj, c1, c2, c3, c4⟩ | c
            · refine .inl ⟨r, oj, c1, c2, c3, ?_⟩
              rw [other r (by omega) fun e => by subst e; rw [hoq] at c2; obtain rfl := Option.some.inj c2; exact hod c3]
              exact c4
            · right
              rw [put_get_ne a hod]
              exact c
      · have hqe : q = p := by
          rcases Nat.eq_or_lt_of_le hqp with e | e
          · exact e.symm
          · exact (nobehind e).elim
        subst hqe
        -- a call
        have all_m : m ≤ q → ∀ r, r < q → listed.getD (π.getD r 0) false = true := fun hm r hr => by
          rcases Nat.eq_or_lt_of_le hm with e | e
          · subst e
            have key : ∀ d r, r + d = m → r < m → listed.getD (π.getD r 0) false = true := by
              intro d
              induction d using Nat.strongRecOn with
              | ind d ihd =>
                intro r hd hr
                obtain ⟨r', s1, s2, s3⟩ := F.sink hql r hr
                rcases Nat.eq_or_lt_of_le s2 with e | e
                · subst e
                  rw [hqi] at s3
                  exact waits_listed hol hedges s3
                · have hl := ihd (m - r') (by omega) r' (by omega) e
                  obtain ⟨oj, hoj⟩ : ∃ oj, l[π.getD r' 0]? = some oj := ⟨_, List.getElem?_eq_getElem (F.inr r' (by omega))⟩
                  exact waits_listed hoj (i2 _ oj hoj hl) s3
            exact key (m - r) r (by omega) hr
          · exact p5 e r hr
        obtain ⟨K', ha, hnext⟩ : ∃ K' : Slots → AHeap → Prop, aOps P w₀ l [o] S g K' ∧ ∀ s' h', K' s' h' → (q < m → Sub g h') ∧ hOps P w₀ l (m - (q + 1)) ((permL l π).drop (q + 1)) s' h' K := by
          rw [permL_drop F.inr hql hoq] at p7
          by_cases c : q < m
          · rw [show m - q = (m - (q + 1)) + 1 by omega, hOps_cons] at p7
            exact ⟨_, p7, fun s' h' hx => ⟨fun _ => hx.1, hx.2⟩⟩
          · rw [show m - q = 0 by omega, hOps_zero] at p7
            refine ⟨_, aOps_one p7, fun s' h' hx => ⟨fun hc => absurd hc c, ?_⟩⟩
            rw [show m - (q + 1) = 0 by omega]
            cases hdr : (permL l π).drop (q + 1) with
            | nil => rw [hdr] at hx; rw [hOps_nil]; exact hx
            | cons o' r' => rw [hdr] at hx; exact hx
        refine one_ok hall ha p6 looks fun ψ' x h' v w' e1 e2 e3 hk => ?_
        obtain ⟨k1, k2⟩ := hnext _ _ hk
        obtain ⟨p', S', a1, a2, a3, a4, a5, a6, a7⟩ := advance hall F (π.length - (q + 1)) (q + 1) (putD S o.dst x) rfl (by omega) k2
        have keep : ∀ r or t, r < q → l[π.getD r 0]? = some or → (or.dst = some t ∨ t ∈ looksL l or) → S'.get t = S.get t := fun r or t hr hor ht => by
          have nd : ∀ u ou, q ≤ u → u < π.length → l[π.getD u 0]? = some ou → ou.dst ≠ some t := fun u ou h1 h2 h3 h4 => by
            rcases ht with ht | ht
            · have := ((orderB_spec hB hor).2 _ ou t h3 h4).1 ht
              have := F.inj r u (by omega) h2 this
              omega
            · have := (F.data r u or ou t (by omega) h2 hor h3 h4 ht).1
              omega
          rw [a7 t fun u ou h1 h2 h3 => nd u ou (by omega) (by omega) h3, put_get, if_neg (nd q o (Nat.le_refl _) hql hoq)]
        refine ih _ _ _ ψ' (PMap.le_trans hle e1) ⟨by simp [i1], closed', by rw [put_size]; exact i3, by rw [put_defers]; exact i4, p', S', h', a2, a3, fun r r1 r2 => ?_, fun r r1 r2 => ?_, fun hm r r1 => ?_, e2, a5, fun r oj r1 r2 r3 => ?_, fun t => ?_⟩ hcount
        · rw [other r r2 (by omega)]; exact p3 r (by omega) r2
        · by_cases e : r = q
          · rw [e, hqi]; exact set_self hisz
          · rw [other r (by omega) e]
            rcases Nat.lt_or_ge r q with c | c
            · exact p4 r c r2
            · rw [a4 r (by omega) r1] at r2; cases r2
        · have hmq : m ≤ q := by
            refine Nat.le_of_not_lt fun hc => ?_
            have hmp : m < π.length := by omega
            have := a4 m (by omega) hm
            rw [F.tail m (Nat.le_refl _) hmp] at this
            cases this
          by_cases e : r = q
          · rw [e, hqi]; exact set_self hisz
          · rw [other r (by omega) e]
            rcases Nat.lt_or_ge r q with c | c
            · exact all_m hmq r c
            · have := a4 r (by omega) r1
              rw [F.tail r (by omega) (by omega)] at this
              cases this
        · by_cases e : r = q
          · rw [e, hqi, set_self hisz] at r3; cases r3
          · rw [other r (by omega) e] at r3
            rcases Nat.lt_or_ge r q with c | c
            · obtain ⟨V, v1, v2⟩ := p8 r oj c r2 r3
              have hqm : q < m := by
                refine Nat.lt_of_not_le fun hm => ?_
                rw [all_m hm r c] at r3
                cases r3
              exact ⟨V, fun t ht => (keep r oj t c r2 (.inl ht)).trans (v1 t ht), (v2.sub (k1 hqm)).slots fun t ht => keep r oj t c r2 (.inr ht)⟩
            · exact a6 r oj (by omega) r1 r2
        · by_cases hod : o.dst = some t
          · right
            rw [a7 t fun u ou h1 h2 h3 h4 => by
              have := ((orderB_spec hB hoq).2 _ ou t h3 h4).1 hod
              have := F.inj q u hql (by omega) this
              omega, put_get, if_pos hod, put_get_eq a hod (by rw [i3]; exact hdn t hod)]
            exact e3
          · by_cases hw : ∃ r or, q + 1 ≤ r ∧ r < p' ∧ l[π.getD r 0]? = some or ∧ or.dst = some t
            · obtain ⟨r, or, w1, w2, w3, w4⟩ := hw
              exact .inl ⟨r, or, w2, w3, w4, by rw [other r (by omega) (by omega)]; exact p3 r (by omega) (by omega)⟩
            · have hS : S'.get t = S.get t := by
                rw [a7 t fun u ou h1 h2 h3 h4 => hw ⟨u, ou, h1, h2, h3, h4⟩, put_get, if_neg hod]
              rcases p9 t with ⟨r, oj, c1, c2, c3, c4⟩ | c
              · exact .inl ⟨r, oj, by omega, c2, c3, by rw [other r (by omega) (by omega)]; exact c4⟩
              · right
                rw [hS, put_get_ne a hod]
                exact VR_mono e1 _ _ c
    simp only [wpOp, ho]
    split
    · rename_i hw
      rw [if_pos hw] at goal
      exact .inl goal
    · rename_i hw
      rw [if_neg hw] at goal
      exact goal

/-- A statement of open order: reading operations in any order, the others chained; of these the first leave what is told of the heap. -/
theorem awp_draw_H {Q : Exit → Slots → AHeap → Prop} {s : Slots} {h : AHeap} {id : Nat} {l : List Oper} (π : List Nat) (ws : List (Option Nat)) (m : Nat) (hm : P.follows .mixedOrders = true) (hB : floatH P l π ws m = true) (hd : dstsOk n l = true)
    (hc : hOps P w₀ l m (permL l π) s h fun s' h' => Q .normal s' h') : Awp P w₀ n (.region id l.toArray true) Q s h := by
  intro φ a w hr hs
  have F := floatH_spec hB
  refine wp_region_any hm ?_
  have hf : ∀ j, (Array.replicate l.toArray.size false).getD j false = false := fun j => by simp [Array.getD]
  obtain ⟨p', S', a1, a2, a3, a4, a5, a6, a7⟩ := advance hd F π.length 0 s rfl (Nat.zero_le _) (by rw [Nat.sub_zero, List.drop_zero]; exact hc)
  refine any_okP (φ := φ) hd F (K := fun s' h' => Q .normal s' h') (fun ψ S g a' w' hle h1 h2 h3 => ⟨ψ, S, g, hle, h1, h2, h3⟩) _ _ _ _ φ φ.le_refl
    ⟨by simp, fun j oj _ hl => (by rw [hf] at hl; cases hl), hs.size, hs.defers, p', S', h, a2, a3, fun r _ _ => hf _, fun r r1 r2 => ?_, fun hm' r r1 => ?_, hr.drew, a5, fun r oj r1 r2 _ => a6 r oj (Nat.zero_le _) r1 r2, fun t => ?_⟩ ?_
  · rw [a4 r (Nat.zero_le _) r1] at r2; cases r2
  · have := a4 m (Nat.zero_le _) hm'
    rw [F.tail m (Nat.le_refl _) (by omega)] at this
    cases this
  · by_cases hw : ∃ r or, r < p' ∧ l[π.getD r 0]? = some or ∧ or.dst = some t
    · obtain ⟨r, or, w2, w3, w4⟩ := hw
      exact .inl ⟨r, or, w2, w3, w4, hf _⟩
    · right
      rw [a7 t fun u ou _ h2 h3 h4 => hw ⟨u, ou, h2, h3, h4⟩]
      exact hs.val t
  · have := List.length_filter_le (!·) (Array.replicate l.toArray.size false).toList
    simpa using this

theorem awp_dseq_H {Q : Exit → Slots → AHeap → Prop} {s : Slots} {h : AHeap} {id : Nat} {l : List Oper} {y : Code} (π : List Nat) (ws : List (Option Nat)) (m : Nat) (L : List Nat) (hm : P.follows .mixedOrders = true) (hB : floatH P l π ws m = true) (hd : dstsOk n l = true)
    (hc : ∀ K : Slots → AHeap → Prop, (∀ s h, Awp P w₀ n y Q s h → K s h) → hOps P w₀ l m (permL l π) s h fun s' h' => K (s'.keep L) h') : Awp P w₀ n (.seq (.region id l.toArray true) y) Q s h :=
  awp_seq (awp_draw_H π ws m hm hB hd (hOps_mono (fun _ _ hk => Awp.keep L hk) (hc (fun s h => Awp P w₀ n y Q s h) (fun _ _ hk => hk))))
end
end Go.AM

/-
  The statement DecimalsSums, walked.
  Conditions: none.
-/
namespace Go.Proofs.YthiiakghjoeikaaGreatDoor
open Go.AM
open Go.Proofs
open Go.Dec
open Go.Lib (decDigits)
set_option maxRecDepth 100000

theorem whole_digZ {d : D} (cd : checkE d = 0) (n : Nat) : digZ (List.replicate n 0 ++ digs d.dig) := by
  intro x hx
  rw [List.mem_append] at hx
  rcases hx with hx | hx
  · rw [List.eq_of_mem_replicate hx]
    exact ⟨by decide, by decide⟩
  · exact digs_digZ (Small_of_check cd).2.1 x hx
theorem whole_leV (d : D) (n : Nat) : leV (List.replicate n 0 ++ digs d.dig) = ((natOf d.dig * 10 ^ n : Nat) : Int) := by
  rw [leV_zeros, leV_digs]
  push_cast
  rfl
theorem whole_len {d : D} (cd : checkE d = 0) (n : Nat) : (List.replicate n 0 ++ digs d.dig).length ≤ n + 62 := by
  rw [List.length_append, List.length_replicate, digs_length]
  have := (Small_of_check cd).1.l
  omega
theorem toNat_leV {n : Nat} {x : Int} (h : x = (n : Int)) : x.toNat = n := by omega
set_option maxHeartbeats 1000000 in
theorem l_DecimalsSums (w₀ : World) (ht : Tab10 w₀) (he : Errs w₀) (h : AHeap) (neg : Bool) (v : AVal) (bs : List UInt8) (sc : UInt8) (hb : IsB w₀ h v bs) (hl : bs.length ≤ 9223372036854775807)
    (neg' : Bool) (v' : AVal) (bs' : List UInt8) (sc' : UInt8) (hb' : IsB w₀ h v' bs') (hl' : bs'.length ≤ 9223372036854775807) :
    ACall Tryz.prog w₀ 9 [.agg [.bool neg, v, .int .u8 sc.toNat], .agg [.bool neg', v', .int .u8 sc'.toNat]] h (fun x _ => x = .bool true) := by
  refine ACall.mono (R := fun x h' => x = .bool true ∧ h' = h) ?_ fun x h' hx => hx.1
  have hlv := hb.live
  have hlv' := hb'.live
  obtain ⟨x, hx⟩ : ∃ d, d = ofN neg bs sc := ⟨_, rfl⟩
  have xv : checkE x = 0 := by rw [hx]; exact ofN_check _ _ _
  obtain ⟨y, hy⟩ : ∃ d, d = ofN neg' bs' sc' := ⟨_, rfl⟩
  have yv : checkE y = 0 := by rw [hy]; exact ofN_check _ _ _
  obtain ⟨x0, x1⟩ : 0 ≤ x.scale ∧ x.scale ≤ 62 := ⟨(Small_of_check xv).1.s0, (Small_of_check xv).1.s1⟩
  obtain ⟨y0, y1⟩ : 0 ≤ y.scale ∧ y.scale ≤ 62 := ⟨(Small_of_check yv).1.s0, (Small_of_check yv).1.s1⟩
  obtain ⟨S, hmx, sx, sy, s62⟩ : ∃ S, (∀ _ : Unit, max x.scale y.scale = S) ∧ x.scale ≤ S ∧ y.scale ≤ S ∧ S ≤ 62 := ⟨_, fun _ => rfl, by omega, by omega, by omega⟩
  obtain ⟨s, e, hse⟩ : ∃ s e, addE x y = (s, e) := ⟨_, _, rfl⟩
  obtain ⟨d, f, hdf⟩ : ∃ s e, subE x y = (s, e) := ⟨_, _, rfl⟩
  have hyo := (other_vI yv).1
  have hsx : ∀ _ : Unit, S.toNat - x.scale.toNat = (S - x.scale).toNat := fun _ => by omega
  have hsy : ∀ _ : Unit, S.toNat - y.scale.toNat = (S - y.scale).toNat := fun _ => by omega
  refine acall_intro (n := 120) (rs := [.tmp 4]) Tryz.func9 rfl rfl rfl rfl (Nat.le_of_ble_eq_true rfl) ?_
  simp only [initSlots]
  -- region 0  law.go:252
  refine awp_rseq [2, 3] (by rfl) fun K hK => ?_
  refine aOps_box (by rfl) (by rfl) (by rfl) fun k0q0 hk0q0 => ?_
  try have hf_0q0 : h k0q0 = none := by first | assumption | (simp only [AHeap.set_none] at hk0q0; simp only [hk0q0])
  skip
  refine aOps_box (by rfl) (by rfl) (by rfl) fun k0q1 hk0q1 => ?_
  have ne_0q1_0q0 : k0q1 ≠ k0q0 := by simp only [AHeap.set_none] at hk0q1; simp only [hk0q1, ne_eq, not_false_eq_true]
  try have hf_0q1 : h k0q1 = none := by first | assumption | (simp only [AHeap.set_none] at hk0q1; simp only [hk0q1])
  skip
  simp (decide := true) only [aOps_nil, ev, absV, absS, putD, Slots.put, Slots.get, Slots.keep, if_true, if_false, true_and, ↓ap_assign, pop_assign, AVal.cells, Nat.zero_add]
  repeat (with_reducible refine And.intro ?_ ?_; · first | trivial | omega | (intro hg; simp only [Bool.and_eq_true, Bool.or_eq_true, Bool.not_eq_true', Bool.and_eq_false_iff, Bool.or_eq_false_iff, Bool.not_eq_false', decide_eq_true_eq, decide_eq_false_iff_not, eqNil] at hg; omega) )
  apply hK; clear hK K
  -- region 1  law.go:253
  refine awp_rseq [3, 5] (by rfl) fun K hK => ?_
  simp (decide := true) only [ev, putD, Slots.put, Slots.get, if_true, if_false, true_and, ↓ap_loadL, apL_mk, pLoad_agg ag24 sz24, rd_ne', ne_eq, not_false_eq_true, ne_0q1_0q0.symm, rd_any, cellsAt, List.getD_cons_zero, List.getD_cons_succ, Nat.zero_add, Nat.reduceAdd, lv_bool, lv_int, allLive, Bool.and_true, hlv]
  repeat (with_reducible refine And.intro ?_ ?_; · first | trivial | omega | (intro hg; simp only [Bool.and_eq_true, Bool.or_eq_true, Bool.not_eq_true', Bool.and_eq_false_iff, Bool.or_eq_false_iff, Bool.not_eq_false', decide_eq_true_eq, decide_eq_false_iff_not, eqNil] at hg; omega) )
  refine aOps_callV (V := decA x) (by rfl) (by rfl) ((c_ofN w₀ _ neg v bs sc (hb.mono (by repeat (first | exact Sub.refl _ | refine Sub.trans_set ?_ (by assumption)))) hl).val (by rw [hx])) ?_
  refine aOps_alloc ze27 (cs := [.bool false, .str [], .int .i64 0]) (by rfl) fun k1q2 hk1q2 => ?_
  have ne_1q2_0q0 : k1q2 ≠ k0q0 := by simp only [AHeap.set_none] at hk1q2; simp only [hk1q2, ne_eq, not_false_eq_true]
  have ne_1q2_0q1 : k1q2 ≠ k0q1 := by simp only [AHeap.set_none] at hk1q2; simp only [hk1q2, ne_eq, not_false_eq_true]
  try have hf_1q2 : h k1q2 = none := by first | assumption | (simp only [AHeap.set_none] at hk1q2; simp only [hk1q2])
  refine aOps_store (by rfl) (by rfl) (by repeat (first | exact AHeap.set_same _ _ _ | assumption | refine (AHeap.set_ne _ _ (by first | assumption | exact Ne.symm (by assumption))).trans ?_)) sz27 (by rfl) (by rfl) (by first | exact Nat.le_refl _ | decide | (simp; done) | (simp; omega)) (Nat.zero_le _) (by rfl) ?_
  simp only [AHeap.set_set, AVal.cells]
  simp (decide := true) only [aOps_nil, ev, putD, Slots.put, Slots.get, Slots.keep, if_true, if_false, setAt, List.set_cons_zero, List.set_cons_succ, Nat.zero_add, Nat.reduceAdd, decA]
  repeat (with_reducible refine And.intro ?_ ?_; · first | trivial | omega | (intro hg; simp only [Bool.and_eq_true, Bool.or_eq_true, Bool.not_eq_true', Bool.and_eq_false_iff, Bool.or_eq_false_iff, Bool.not_eq_false', decide_eq_true_eq, decide_eq_false_iff_not, eqNil] at hg; omega) )
  apply hK; clear hK K
  -- region 2  law.go:254
  refine awp_rseq [5, 6] (by rfl) fun K hK => ?_
  simp (decide := true) only [ev, putD, Slots.put, Slots.get, if_true, if_false, true_and, ↓ap_loadL, apL_mk, pLoad_agg ag24 sz24, rd_ne', ne_eq, not_false_eq_true, ne_1q2_0q1.symm, rd_any, cellsAt, List.getD_cons_zero, List.getD_cons_succ, Nat.zero_add, Nat.reduceAdd, lv_bool, lv_int, allLive, Bool.and_true, hlv']
  repeat (with_reducible refine And.intro ?_ ?_; · first | trivial | omega | (intro hg; simp only [Bool.and_eq_true, Bool.or_eq_true, Bool.not_eq_true', Bool.and_eq_false_iff, Bool.or_eq_false_iff, Bool.not_eq_false', decide_eq_true_eq, decide_eq_false_iff_not, eqNil] at hg; omega) )
  refine aOps_callV (V := decA y) (by rfl) (by rfl) ((c_ofN w₀ _ neg' v' bs' sc' (hb'.mono (by repeat (first | exact Sub.refl _ | refine Sub.trans_set ?_ (by assumption)))) hl').val (by rw [hy])) ?_
  refine aOps_alloc ze27 (cs := [.bool false, .str [], .int .i64 0]) (by rfl) fun k2q2 hk2q2 => ?_
  have ne_2q2_0q0 : k2q2 ≠ k0q0 := by simp only [AHeap.set_none] at hk2q2; simp only [hk2q2, ne_eq, not_false_eq_true]
  have ne_2q2_0q1 : k2q2 ≠ k0q1 := by simp only [AHeap.set_none] at hk2q2; simp only [hk2q2, ne_eq, not_false_eq_true]
  have ne_2q2_1q2 : k2q2 ≠ k1q2 := by simp only [AHeap.set_none] at hk2q2; simp only [hk2q2, ne_eq, not_false_eq_true]
  try have hf_2q2 : h k2q2 = none := by first | assumption | (simp only [AHeap.set_none] at hk2q2; simp only [hk2q2])
  refine aOps_store (by rfl) (by rfl) (by repeat (first | exact AHeap.set_same _ _ _ | assumption | refine (AHeap.set_ne _ _ (by first | assumption | exact Ne.symm (by assumption))).trans ?_)) sz27 (by rfl) (by rfl) (by first | exact Nat.le_refl _ | decide | (simp; done) | (simp; omega)) (Nat.zero_le _) (by rfl) ?_
  simp only [AHeap.set_set, AVal.cells]
  simp (decide := true) only [aOps_nil, ev, putD, Slots.put, Slots.get, Slots.keep, if_true, if_false, setAt, List.set_cons_zero, List.set_cons_succ, Nat.zero_add, Nat.reduceAdd, decA]
  repeat (with_reducible refine And.intro ?_ ?_; · first | trivial | omega | (intro hg; simp only [Bool.and_eq_true, Bool.or_eq_true, Bool.not_eq_true', Bool.and_eq_false_iff, Bool.or_eq_false_iff, Bool.not_eq_false', decide_eq_true_eq, decide_eq_false_iff_not, eqNil] at hg; omega) )
  apply hK; clear hK K
  -- region 3  law.go:255
  refine awp_rseq [5, 6, 7] (by rfl) fun K hK => ?_
  simp (decide := true) only [aOps_nil, ev, putD, Slots.put, Slots.get, Slots.keep, if_true, if_false, true_and, ↓ap_fieldAddr, pop_fieldAddr, fa27_2, ↓ap_loadL, apL_mk, pLoad_one ag3, ↓ap_max, pop_max, pMax_int, evs, List.map_cons, List.map_nil, ↓ap_assign, pop_assign, rd_ne', ne_eq, not_false_eq_true, ne_2q2_1q2.symm, rd_any, List.getD_cons_zero, List.getD_cons_succ, Nat.zero_add, lv_int, hmx ()]
  repeat (with_reducible refine And.intro ?_ ?_; · first | trivial | omega | (intro hg; simp only [Bool.and_eq_true, Bool.or_eq_true, Bool.not_eq_true', Bool.and_eq_false_iff, Bool.or_eq_false_iff, Bool.not_eq_false', decide_eq_true_eq, decide_eq_false_iff_not, eqNil] at hg; omega) )
  apply hK; clear hK K
  -- region 4  law.go:256
  refine awp_rseq [5, 6, 7, 8] (by rfl) fun K hK => ?_
  simp (decide := true) only [ev, putD, Slots.put, Slots.get, if_true, if_false, true_and, ↓ap_loadL, apL_mk, pLoad_agg ag27 sz27, ↓ap_move, pop_move, rd_ne', ne_eq, not_false_eq_true, ne_2q2_1q2.symm, rd_any, cellsAt, List.getD_cons_zero, List.getD_cons_succ, Nat.zero_add, Nat.reduceAdd, lv_bool, lv_int, lv_str, allLive, Bool.and_true]
  repeat (with_reducible refine And.intro ?_ ?_; · first | trivial | omega | (intro hg; simp only [Bool.and_eq_true, Bool.or_eq_true, Bool.not_eq_true', Bool.and_eq_false_iff, Bool.or_eq_false_iff, Bool.not_eq_false', decide_eq_true_eq, decide_eq_false_iff_not, eqNil] at hg; omega) )
  refine aOps_call (by rfl) (by rfl) (c_whole w₀ _ x xv S (by omega) (by omega)) fun x4q2 h4q2 hx4q2 => ?_
  obtain ⟨⟨z4, rfl, hz4⟩, hs4⟩ := hx4q2
  have lz4 := hz4.live
  have hr_h4q2 : Sub h h4q2 := Sub.trans (by repeat (first | exact Sub.refl _ | assumption | refine Sub.trans_set ?_ (by assumption))) hs4
  have hs_h4q2 : Sub h h4q2 := hr_h4q2
  have eb_0q0 := hs4 k0q0 _ (by repeat (first | exact AHeap.set_same _ _ _ | assumption | refine (AHeap.set_ne _ _ (by first | assumption | exact Ne.symm (by assumption))).trans ?_))
  have eb_0q1 := hs4 k0q1 _ (by repeat (first | exact AHeap.set_same _ _ _ | assumption | refine (AHeap.set_ne _ _ (by first | assumption | exact Ne.symm (by assumption))).trans ?_))
  have eb_1q2 := hs4 k1q2 _ (by repeat (first | exact AHeap.set_same _ _ _ | assumption | refine (AHeap.set_ne _ _ (by first | assumption | exact Ne.symm (by assumption))).trans ?_))
  have eb_2q2 := hs4 k2q2 _ (by repeat (first | exact AHeap.set_same _ _ _ | assumption | refine (AHeap.set_ne _ _ (by first | assumption | exact Ne.symm (by assumption))).trans ?_))
  refine aOps_alloc ze40 (cs := [.bool false, .nilSlice]) (by rfl) fun k4q3 hk4q3 => ?_
  have hn_4q3 : h4q2 k4q3 = none := by first | assumption | (simp only [AHeap.set_none] at hk4q3; simp only [hk4q3])
  have hf_4q3 : h k4q3 = none := Sub.none hs_h4q2 hn_4q3
  have ne_4q3_0q0 : k4q3 ≠ k0q0 := AHeap.ne_some hn_4q3 eb_0q0
  have ne_4q3_0q1 : k4q3 ≠ k0q1 := AHeap.ne_some hn_4q3 eb_0q1
  have ne_4q3_1q2 : k4q3 ≠ k1q2 := AHeap.ne_some hn_4q3 eb_1q2
  have ne_4q3_2q2 : k4q3 ≠ k2q2 := AHeap.ne_some hn_4q3 eb_2q2
  refine aOps_store (v := .agg [.bool x.neg, z4]) (by rfl) (by rfl) (AHeap.set_same _ _ _) sz40 (by rfl) (by rfl) (Nat.le_refl _) (Nat.zero_le _) (scal_big hz4.scal) ?_
  simp only [setAt, AVal.cells, List.length_nil, List.set_cons_zero, List.set_cons_succ, Nat.zero_add]
  simp (decide := true) only [aOps_nil, putD, Slots.put, Slots.keep, if_true, if_false]
  repeat (with_reducible refine And.intro ?_ ?_; · first | trivial | omega | (intro hg; simp only [Bool.and_eq_true, Bool.or_eq_true, Bool.not_eq_true', Bool.and_eq_false_iff, Bool.or_eq_false_iff, Bool.not_eq_false', decide_eq_true_eq, decide_eq_false_iff_not, eqNil] at hg; omega) )
  apply hK; clear hK K
  -- region 5  law.go:257
  refine awp_rseq [5, 6, 7, 8, 9] (by rfl) fun K hK => ?_
  simp (decide := true) only [ev, putD, Slots.put, Slots.get, if_true, if_false, true_and, ↓ap_loadL, apL_mk, pLoad_agg ag27 sz27, ↓ap_move, pop_move, rd_ne', ne_eq, not_false_eq_true, ne_4q3_2q2.symm, rd_own w₀ eb_2q2, cellsAt, List.getD_cons_zero, List.getD_cons_succ, Nat.zero_add, Nat.reduceAdd, lv_bool, lv_int, lv_str, allLive, Bool.and_true]
  repeat (with_reducible refine And.intro ?_ ?_; · first | trivial | omega | (intro hg; simp only [Bool.and_eq_true, Bool.or_eq_true, Bool.not_eq_true', Bool.and_eq_false_iff, Bool.or_eq_false_iff, Bool.not_eq_false', decide_eq_true_eq, decide_eq_false_iff_not, eqNil] at hg; omega) )
  refine aOps_call (by rfl) (by rfl) (c_whole w₀ _ y yv S (by omega) (by omega)) fun x5q2 h5q2 hx5q2 => ?_
  obtain ⟨⟨z5, rfl, hz5⟩, hs5⟩ := hx5q2
  have lz5 := hz5.live
  have hr_h5q2 : Sub h4q2 h5q2 := Sub.trans (by repeat (first | exact Sub.refl _ | assumption | refine Sub.trans_set ?_ (by assumption))) hs5
  have hs_h5q2 : Sub h h5q2 := Sub.trans hs_h4q2 hr_h5q2
  have eb_4q3 := hs5 k4q3 _ (by repeat (first | exact AHeap.set_same _ _ _ | assumption | refine (AHeap.set_ne _ _ (by first | assumption | exact Ne.symm (by assumption))).trans ?_))
  replace eb_0q0 := hs5 k0q0 _ (by repeat (first | exact AHeap.set_same _ _ _ | assumption | refine (AHeap.set_ne _ _ (by first | assumption | exact Ne.symm (by assumption))).trans ?_))
  replace eb_0q1 := hs5 k0q1 _ (by repeat (first | exact AHeap.set_same _ _ _ | assumption | refine (AHeap.set_ne _ _ (by first | assumption | exact Ne.symm (by assumption))).trans ?_))
  replace eb_1q2 := hs5 k1q2 _ (by repeat (first | exact AHeap.set_same _ _ _ | assumption | refine (AHeap.set_ne _ _ (by first | assumption | exact Ne.symm (by assumption))).trans ?_))
  replace eb_2q2 := hs5 k2q2 _ (by repeat (first | exact AHeap.set_same _ _ _ | assumption | refine (AHeap.set_ne _ _ (by first | assumption | exact Ne.symm (by assumption))).trans ?_))
  refine aOps_alloc ze40 (cs := [.bool false, .nilSlice]) (by rfl) fun k5q3 hk5q3 => ?_
  have hn_5q3 : h5q2 k5q3 = none := by first | assumption | (simp only [AHeap.set_none] at hk5q3; simp only [hk5q3])
  have hf_5q3 : h k5q3 = none := Sub.none hs_h5q2 hn_5q3
  have ne_5q3_0q0 : k5q3 ≠ k0q0 := AHeap.ne_some hn_5q3 eb_0q0
  have ne_5q3_0q1 : k5q3 ≠ k0q1 := AHeap.ne_some hn_5q3 eb_0q1
  have ne_5q3_1q2 : k5q3 ≠ k1q2 := AHeap.ne_some hn_5q3 eb_1q2
  have ne_5q3_2q2 : k5q3 ≠ k2q2 := AHeap.ne_some hn_5q3 eb_2q2
  have ne_5q3_4q3 : k5q3 ≠ k4q3 := AHeap.ne_some hn_5q3 eb_4q3
  have hz4 := hz4.sub hr_h5q2
  refine aOps_store (v := .agg [.bool y.neg, z5]) (by rfl) (by rfl) (AHeap.set_same _ _ _) sz40 (by rfl) (by rfl) (Nat.le_refl _) (Nat.zero_le _) (scal_big hz5.scal) ?_
  simp only [setAt, AVal.cells, List.length_nil, List.set_cons_zero, List.set_cons_succ, Nat.zero_add]
  simp (decide := true) only [aOps_nil, putD, Slots.put, Slots.keep, if_true, if_false]
  repeat (with_reducible refine And.intro ?_ ?_; · first | trivial | omega | (intro hg; simp only [Bool.and_eq_true, Bool.or_eq_true, Bool.not_eq_true', Bool.and_eq_false_iff, Bool.or_eq_false_iff, Bool.not_eq_false', decide_eq_true_eq, decide_eq_false_iff_not, eqNil] at hg; omega) )
  apply hK; clear hK K
  -- region 6  law.go:258
  refine awp_rseq [5, 6, 7, 8, 9, 10] (by rfl) fun K hK => ?_
  simp (decide := true) only [ev, putD, Slots.put, Slots.get, if_true, if_false, true_and, ↓ap_loadL, apL_mk, pLoad_agg ag40 sz40, rd_any, cellsAt, List.getD_cons_zero, List.getD_cons_succ, Nat.zero_add, lv_bool, allLive, Bool.and_true, lz5]
  repeat (with_reducible refine And.intro ?_ ?_; · first | trivial | omega | (intro hg; simp only [Bool.and_eq_true, Bool.or_eq_true, Bool.not_eq_true', Bool.and_eq_false_iff, Bool.or_eq_false_iff, Bool.not_eq_false', decide_eq_true_eq, decide_eq_false_iff_not, eqNil] at hg; omega) )
  refine aOps_alloc ze40 (cs := [.bool false, .nilSlice]) (by rfl) fun k6q1 hk6q1 => ?_
  have ne_6q1_5q3 : k6q1 ≠ k5q3 := by simp only [AHeap.set_none] at hk6q1; simp only [hk6q1, ne_eq, not_false_eq_true]
  have hn_6q1 : h5q2 k6q1 = none := by first | assumption | (simp only [AHeap.set_none] at hk6q1; simp only [hk6q1])
  have hf_6q1 : h k6q1 = none := Sub.none hs_h5q2 hn_6q1
  have ne_6q1_0q0 : k6q1 ≠ k0q0 := AHeap.ne_some hn_6q1 eb_0q0
  have ne_6q1_0q1 : k6q1 ≠ k0q1 := AHeap.ne_some hn_6q1 eb_0q1
  have ne_6q1_1q2 : k6q1 ≠ k1q2 := AHeap.ne_some hn_6q1 eb_1q2
  have ne_6q1_2q2 : k6q1 ≠ k2q2 := AHeap.ne_some hn_6q1 eb_2q2
  have ne_6q1_4q3 : k6q1 ≠ k4q3 := AHeap.ne_some hn_6q1 eb_4q3
  refine aOps_store (v := .agg [.bool y.neg, z5]) (by rfl) (by rfl) (AHeap.set_same _ _ _) sz40 (by rfl) (by rfl) (Nat.le_refl _) (Nat.zero_le _) (scal_big hz5.scal) ?_
  simp only [setAt, AVal.cells, List.length_nil, List.set_cons_zero, List.set_cons_succ, Nat.zero_add]
  simp (decide := true) only [aOps_nil, putD, Slots.put, Slots.keep, if_true, if_false]
  repeat (with_reducible refine And.intro ?_ ?_; · first | trivial | omega | (intro hg; simp only [Bool.and_eq_true, Bool.or_eq_true, Bool.not_eq_true', Bool.and_eq_false_iff, Bool.or_eq_false_iff, Bool.not_eq_false', decide_eq_true_eq, decide_eq_false_iff_not, eqNil] at hg; omega) )
  apply hK; clear hK K
  -- region 7  law.go:259
  refine awp_rseq [5, 6, 7, 8, 9, 10] (by rfl) fun K hK => ?_
  simp (decide := true) only [ev, putD, Slots.put, Slots.get, if_true, if_false, true_and, ↓ap_fieldAddr, pop_fieldAddr, fa40_0, ↓ap_loadL, apL_mk, pLoad_one ag4, ↓ap_unOp, pop_unOp, pU_not, rd_ne', ne_eq, not_false_eq_true, ne_6q1_5q3.symm, rd_any, List.getD_cons_zero, Nat.zero_add, lv_bool]
  try simp (disch := omega) only [wrap_i64, wrap_u8]
  repeat (with_reducible refine And.intro ?_ ?_; · first | trivial | omega | (intro hg; simp only [Bool.and_eq_true, Bool.or_eq_true, Bool.not_eq_true', Bool.and_eq_false_iff, Bool.or_eq_false_iff, Bool.not_eq_false', decide_eq_true_eq, decide_eq_false_iff_not, eqNil] at hg; omega) )
  refine aOps_store (by rfl) (by rfl) (by repeat (first | exact AHeap.set_same _ _ _ | assumption | refine (AHeap.set_ne _ _ (by first | assumption | exact Ne.symm (by assumption))).trans ?_)) sz4 (by rfl) (by rfl) (by first | exact Nat.le_refl _ | decide | (simp; done) | (simp; omega)) (Nat.zero_le _) (by rfl) ?_
  simp only [AHeap.set_set, AVal.cells]
  simp (decide := true) only [aOps_nil, ev, putD, Slots.get, Slots.keep, if_true, if_false, setAt, List.set_cons_zero]
  repeat (with_reducible refine And.intro ?_ ?_; · first | trivial | omega | (intro hg; simp only [Bool.and_eq_true, Bool.or_eq_true, Bool.not_eq_true', Bool.and_eq_false_iff, Bool.or_eq_false_iff, Bool.not_eq_false', decide_eq_true_eq, decide_eq_false_iff_not, eqNil] at hg; omega) )
  apply hK; clear hK K
  -- region 8  law.go:260
  refine awp_rseq [5, 6, 7, 8, 9, 10, 11, 12] (by rfl) fun K hK => ?_
  simp (decide := true) only [ev, putD, Slots.put, Slots.get, if_true, if_false, true_and, ↓ap_loadL, apL_mk, pLoad_agg ag27 sz27, rd_ne', ne_eq, not_false_eq_true, ne_5q3_1q2.symm, ne_5q3_2q2.symm, ne_6q1_1q2.symm, ne_6q1_2q2.symm, rd_own w₀ eb_1q2, rd_own w₀ eb_2q2, cellsAt, List.getD_cons_zero, List.getD_cons_succ, Nat.zero_add, Nat.reduceAdd, lv_bool, lv_int, lv_str, allLive, Bool.and_true]
  repeat (with_reducible refine And.intro ?_ ?_; · first | trivial | omega | (intro hg; simp only [Bool.and_eq_true, Bool.or_eq_true, Bool.not_eq_true', Bool.and_eq_false_iff, Bool.or_eq_false_iff, Bool.not_eq_false', decide_eq_true_eq, decide_eq_false_iff_not, eqNil] at hg; omega) )
  refine aOps_callV (V := .tuple [decA s, .int .i64 e]) (by rfl) (by rfl) ((c_Add w₀ _ x y (check_len xv) (check_len yv)).val (by rw [hse])) ?_
  simp (decide := true) only [ev, putD, Slots.put, Slots.get, if_true, if_false, true_and, ↓ap_move, pop_move, ↓ap_extract, pop_extract, pExt_tuple, List.length_cons, List.length_nil, List.getD_cons_zero, List.getD_cons_succ, List.getD_cons_zero, List.getD_cons_succ, Nat.zero_add, Nat.reduceAdd, decA]
  repeat (with_reducible refine And.intro ?_ ?_; · first | trivial | omega | (intro hg; simp only [Bool.and_eq_true, Bool.or_eq_true, Bool.not_eq_true', Bool.and_eq_false_iff, Bool.or_eq_false_iff, Bool.not_eq_false', decide_eq_true_eq, decide_eq_false_iff_not, eqNil] at hg; omega) )
  refine aOps_alloc ze27 (cs := [.bool false, .str [], .int .i64 0]) (by rfl) fun k8q6 hk8q6 => ?_
  have ne_8q6_5q3 : k8q6 ≠ k5q3 := by simp only [AHeap.set_none] at hk8q6; simp only [hk8q6, ne_eq, not_false_eq_true]
  have ne_8q6_6q1 : k8q6 ≠ k6q1 := by simp only [AHeap.set_none] at hk8q6; simp only [hk8q6, ne_eq, not_false_eq_true]
  have hn_8q6 : h5q2 k8q6 = none := by first | assumption | (simp only [AHeap.set_none] at hk8q6; simp only [hk8q6])
  have hf_8q6 : h k8q6 = none := Sub.none hs_h5q2 hn_8q6
  have ne_8q6_0q0 : k8q6 ≠ k0q0 := AHeap.ne_some hn_8q6 eb_0q0
  have ne_8q6_0q1 : k8q6 ≠ k0q1 := AHeap.ne_some hn_8q6 eb_0q1
  have ne_8q6_1q2 : k8q6 ≠ k1q2 := AHeap.ne_some hn_8q6 eb_1q2
  have ne_8q6_2q2 : k8q6 ≠ k2q2 := AHeap.ne_some hn_8q6 eb_2q2
  have ne_8q6_4q3 : k8q6 ≠ k4q3 := AHeap.ne_some hn_8q6 eb_4q3
  refine aOps_store (by rfl) (by rfl) (by repeat (first | exact AHeap.set_same _ _ _ | assumption | refine (AHeap.set_ne _ _ (by first | assumption | exact Ne.symm (by assumption))).trans ?_)) sz27 (by rfl) (by rfl) (by first | exact Nat.le_refl _ | decide | (simp; done) | (simp; omega)) (Nat.zero_le _) (by rfl) ?_
  simp only [AHeap.set_set, AVal.cells]
  simp (decide := true) only [aOps_nil, ev, putD, Slots.put, Slots.get, Slots.keep, if_true, if_false, true_and, ↓ap_assign, pop_assign, setAt, List.set_cons_zero, List.set_cons_succ, Nat.zero_add, Nat.reduceAdd]
  repeat (with_reducible refine And.intro ?_ ?_; · first | trivial | omega | (intro hg; simp only [Bool.and_eq_true, Bool.or_eq_true, Bool.not_eq_true', Bool.and_eq_false_iff, Bool.or_eq_false_iff, Bool.not_eq_false', decide_eq_true_eq, decide_eq_false_iff_not, eqNil] at hg; omega) )
  apply hK; clear hK K
  -- region 9  law.go:261
  refine awp_rseq [5, 6, 7, 8, 9, 10, 11, 12, 13, 14] (by rfl) fun K hK => ?_
  simp (decide := true) only [ev, putD, Slots.put, Slots.get, if_true, if_false, true_and, ↓ap_loadL, apL_mk, pLoad_agg ag27 sz27, rd_ne', ne_eq, not_false_eq_true, ne_5q3_1q2.symm, ne_5q3_2q2.symm, ne_6q1_1q2.symm, ne_6q1_2q2.symm, ne_8q6_1q2.symm, ne_8q6_2q2.symm, rd_own w₀ eb_1q2, rd_own w₀ eb_2q2, cellsAt, List.getD_cons_zero, List.getD_cons_succ, Nat.zero_add, Nat.reduceAdd, lv_bool, lv_int, lv_str, allLive, Bool.and_true]
  repeat (with_reducible refine And.intro ?_ ?_; · first | trivial | omega | (intro hg; simp only [Bool.and_eq_true, Bool.or_eq_true, Bool.not_eq_true', Bool.and_eq_false_iff, Bool.or_eq_false_iff, Bool.not_eq_false', decide_eq_true_eq, decide_eq_false_iff_not, eqNil] at hg; omega) )
  refine aOps_callV (V := .tuple [decA s, .int .i64 e]) (by rfl) (by rfl) ((c_Add w₀ _ y x (check_len yv) (check_len xv)).val (by rw [add_comm_vI xv yv, hse])) ?_
  simp (decide := true) only [ev, putD, Slots.put, Slots.get, if_true, if_false, true_and, ↓ap_move, pop_move, ↓ap_extract, pop_extract, pExt_tuple, List.length_cons, List.length_nil, List.getD_cons_zero, List.getD_cons_succ, List.getD_cons_zero, List.getD_cons_succ, Nat.zero_add, Nat.reduceAdd, decA]
  repeat (with_reducible refine And.intro ?_ ?_; · first | trivial | omega | (intro hg; simp only [Bool.and_eq_true, Bool.or_eq_true, Bool.not_eq_true', Bool.and_eq_false_iff, Bool.or_eq_false_iff, Bool.not_eq_false', decide_eq_true_eq, decide_eq_false_iff_not, eqNil] at hg; omega) )
  refine aOps_alloc ze27 (cs := [.bool false, .str [], .int .i64 0]) (by rfl) fun k9q6 hk9q6 => ?_
  have ne_9q6_5q3 : k9q6 ≠ k5q3 := by simp only [AHeap.set_none] at hk9q6; simp only [hk9q6, ne_eq, not_false_eq_true]
  have ne_9q6_6q1 : k9q6 ≠ k6q1 := by simp only [AHeap.set_none] at hk9q6; simp only [hk9q6, ne_eq, not_false_eq_true]
  have ne_9q6_8q6 : k9q6 ≠ k8q6 := by simp only [AHeap.set_none] at hk9q6; simp only [hk9q6, ne_eq, not_false_eq_true]
  have hn_9q6 : h5q2 k9q6 = none := by first | assumption | (simp only [AHeap.set_none] at hk9q6; simp only [hk9q6])
  have hf_9q6 : h k9q6 = none := Sub.none hs_h5q2 hn_9q6
  have ne_9q6_0q0 : k9q6 ≠ k0q0 := AHeap.ne_some hn_9q6 eb_0q0
  have ne_9q6_0q1 : k9q6 ≠ k0q1 := AHeap.ne_some hn_9q6 eb_0q1
  have ne_9q6_1q2 : k9q6 ≠ k1q2 := AHeap.ne_some hn_9q6 eb_1q2
  have ne_9q6_2q2 : k9q6 ≠ k2q2 := AHeap.ne_some hn_9q6 eb_2q2
  have ne_9q6_4q3 : k9q6 ≠ k4q3 := AHeap.ne_some hn_9q6 eb_4q3
  refine aOps_store (by rfl) (by rfl) (by repeat (first | exact AHeap.set_same _ _ _ | assumption | refine (AHeap.set_ne _ _ (by first | assumption | exact Ne.symm (by assumption))).trans ?_)) sz27 (by rfl) (by rfl) (by first | exact Nat.le_refl _ | decide | (simp; done) | (simp; omega)) (Nat.zero_le _) (by rfl) ?_
  simp only [AHeap.set_set, AVal.cells]
  simp (decide := true) only [aOps_nil, ev, putD, Slots.put, Slots.get, Slots.keep, if_true, if_false, true_and, ↓ap_assign, pop_assign, setAt, List.set_cons_zero, List.set_cons_succ, Nat.zero_add, Nat.reduceAdd]
  repeat (with_reducible refine And.intro ?_ ?_; · first | trivial | omega | (intro hg; simp only [Bool.and_eq_true, Bool.or_eq_true, Bool.not_eq_true', Bool.and_eq_false_iff, Bool.or_eq_false_iff, Bool.not_eq_false', decide_eq_true_eq, decide_eq_false_iff_not, eqNil] at hg; omega) )
  apply hK; clear hK K
  -- region 10  law.go:262
  refine awp_rseq [5, 6, 7, 8, 9, 10, 11, 12, 13, 14, 15, 16] (by rfl) fun K hK => ?_
  simp (decide := true) only [ev, putD, Slots.put, Slots.get, if_true, if_false, true_and, ↓ap_loadL, apL_mk, pLoad_agg ag27 sz27, rd_ne', ne_eq, not_false_eq_true, ne_5q3_1q2.symm, ne_5q3_2q2.symm, ne_6q1_1q2.symm, ne_6q1_2q2.symm, ne_8q6_1q2.symm, ne_8q6_2q2.symm, ne_9q6_1q2.symm, ne_9q6_2q2.symm, rd_own w₀ eb_1q2, rd_own w₀ eb_2q2, cellsAt, List.getD_cons_zero, List.getD_cons_succ, Nat.zero_add, Nat.reduceAdd, lv_bool, lv_int, lv_str, allLive, Bool.and_true]
  repeat (with_reducible refine And.intro ?_ ?_; · first | trivial | omega | (intro hg; simp only [Bool.and_eq_true, Bool.or_eq_true, Bool.not_eq_true', Bool.and_eq_false_iff, Bool.or_eq_false_iff, Bool.not_eq_false', decide_eq_true_eq, decide_eq_false_iff_not, eqNil] at hg; omega) )
  refine aOps_callV (V := .tuple [decA d, .int .i64 f]) (by rfl) (by rfl) ((c_Sub w₀ _ x y (check_len xv) (check_len yv)).val (by rw [hdf])) ?_
  simp (decide := true) only [ev, putD, Slots.put, Slots.get, if_true, if_false, true_and, ↓ap_move, pop_move, ↓ap_extract, pop_extract, pExt_tuple, List.length_cons, List.length_nil, List.getD_cons_zero, List.getD_cons_succ, List.getD_cons_zero, List.getD_cons_succ, Nat.zero_add, Nat.reduceAdd, decA]
  repeat (with_reducible refine And.intro ?_ ?_; · first | trivial | omega | (intro hg; simp only [Bool.and_eq_true, Bool.or_eq_true, Bool.not_eq_true', Bool.and_eq_false_iff, Bool.or_eq_false_iff, Bool.not_eq_false', decide_eq_true_eq, decide_eq_false_iff_not, eqNil] at hg; omega) )
  refine aOps_alloc ze27 (cs := [.bool false, .str [], .int .i64 0]) (by rfl) fun k10q6 hk10q6 => ?_
  have ne_10q6_5q3 : k10q6 ≠ k5q3 := by simp only [AHeap.set_none] at hk10q6; simp only [hk10q6, ne_eq, not_false_eq_true]
  have ne_10q6_6q1 : k10q6 ≠ k6q1 := by simp only [AHeap.set_none] at hk10q6; simp only [hk10q6, ne_eq, not_false_eq_true]
  have ne_10q6_8q6 : k10q6 ≠ k8q6 := by simp only [AHeap.set_none] at hk10q6; simp only [hk10q6, ne_eq, not_false_eq_true]
  have ne_10q6_9q6 : k10q6 ≠ k9q6 := by simp only [AHeap.set_none] at hk10q6; simp only [hk10q6, ne_eq, not_false_eq_true]
  have hn_10q6 : h5q2 k10q6 = none := by first | assumption | (simp only [AHeap.set_none] at hk10q6; simp only [hk10q6])
  have hf_10q6 : h k10q6 = none := Sub.none hs_h5q2 hn_10q6
  have ne_10q6_0q0 : k10q6 ≠ k0q0 := AHeap.ne_some hn_10q6 eb_0q0
  have ne_10q6_0q1 : k10q6 ≠ k0q1 := AHeap.ne_some hn_10q6 eb_0q1
  have ne_10q6_1q2 : k10q6 ≠ k1q2 := AHeap.ne_some hn_10q6 eb_1q2
  have ne_10q6_2q2 : k10q6 ≠ k2q2 := AHeap.ne_some hn_10q6 eb_2q2
  have ne_10q6_4q3 : k10q6 ≠ k4q3 := AHeap.ne_some hn_10q6 eb_4q3
  refine aOps_store (by rfl) (by rfl) (by repeat (first | exact AHeap.set_same _ _ _ | assumption | refine (AHeap.set_ne _ _ (by first | assumption | exact Ne.symm (by assumption))).trans ?_)) sz27 (by rfl) (by rfl) (by first | exact Nat.le_refl _ | decide | (simp; done) | (simp; omega)) (Nat.zero_le _) (by rfl) ?_
  simp only [AHeap.set_set, AVal.cells]
  simp (decide := true) only [aOps_nil, ev, putD, Slots.put, Slots.get, Slots.keep, if_true, if_false, true_and, ↓ap_assign, pop_assign, setAt, List.set_cons_zero, List.set_cons_succ, Nat.zero_add, Nat.reduceAdd]
  repeat (with_reducible refine And.intro ?_ ?_; · first | trivial | omega | (intro hg; simp only [Bool.and_eq_true, Bool.or_eq_true, Bool.not_eq_true', Bool.and_eq_false_iff, Bool.or_eq_false_iff, Bool.not_eq_false', decide_eq_true_eq, decide_eq_false_iff_not, eqNil] at hg; omega) )
  apply hK; clear hK K
  -- region 11  law.go:263
  refine awp_rseq [5, 7, 8, 9, 10, 11, 12, 13, 14, 15, 16, 17, 18] (by rfl) fun K hK => ?_
  simp (decide := true) only [ev, putD, Slots.put, Slots.get, if_true, if_false, true_and, ↓ap_loadL, apL_mk, pLoad_agg ag27 sz27, rd_ne', ne_eq, not_false_eq_true, ne_5q3_2q2.symm, ne_6q1_2q2.symm, ne_8q6_2q2.symm, ne_9q6_2q2.symm, ne_10q6_2q2.symm, rd_own w₀ eb_2q2, cellsAt, List.getD_cons_zero, List.getD_cons_succ, Nat.zero_add, Nat.reduceAdd, lv_bool, lv_int, lv_str, allLive, Bool.and_true]
  repeat (with_reducible refine And.intro ?_ ?_; · first | trivial | omega | (intro hg; simp only [Bool.and_eq_true, Bool.or_eq_true, Bool.not_eq_true', Bool.and_eq_false_iff, Bool.or_eq_false_iff, Bool.not_eq_false', decide_eq_true_eq, decide_eq_false_iff_not, eqNil] at hg; omega) )
  refine aOps_callV (V := .tuple [decA (otherD y), .int .i64 0]) (by rfl) (by rfl) ((c_Neg w₀ _ y (check_len yv)).val (by rw [negE, if_pos yv])) ?_
  simp (decide := true) only [ev, putD, Slots.put, Slots.get, if_true, if_false, true_and, ↓ap_move, pop_move, ↓ap_extract, pop_extract, pExt_tuple, List.length_cons, List.length_nil, List.getD_cons_zero, List.getD_cons_succ, List.getD_cons_zero, List.getD_cons_succ, Nat.zero_add, Nat.reduceAdd, decA]
  repeat (with_reducible refine And.intro ?_ ?_; · first | trivial | omega | (intro hg; simp only [Bool.and_eq_true, Bool.or_eq_true, Bool.not_eq_true', Bool.and_eq_false_iff, Bool.or_eq_false_iff, Bool.not_eq_false', decide_eq_true_eq, decide_eq_false_iff_not, eqNil] at hg; omega) )
  refine aOps_alloc ze27 (cs := [.bool false, .str [], .int .i64 0]) (by rfl) fun k11q5 hk11q5 => ?_
  have ne_11q5_5q3 : k11q5 ≠ k5q3 := by simp only [AHeap.set_none] at hk11q5; simp only [hk11q5, ne_eq, not_false_eq_true]
  have ne_11q5_6q1 : k11q5 ≠ k6q1 := by simp only [AHeap.set_none] at hk11q5; simp only [hk11q5, ne_eq, not_false_eq_true]
  have ne_11q5_8q6 : k11q5 ≠ k8q6 := by simp only [AHeap.set_none] at hk11q5; simp only [hk11q5, ne_eq, not_false_eq_true]
  have ne_11q5_9q6 : k11q5 ≠ k9q6 := by simp only [AHeap.set_none] at hk11q5; simp only [hk11q5, ne_eq, not_false_eq_true]
  have ne_11q5_10q6 : k11q5 ≠ k10q6 := by simp only [AHeap.set_none] at hk11q5; simp only [hk11q5, ne_eq, not_false_eq_true]
  have hn_11q5 : h5q2 k11q5 = none := by first | assumption | (simp only [AHeap.set_none] at hk11q5; simp only [hk11q5])
  have hf_11q5 : h k11q5 = none := Sub.none hs_h5q2 hn_11q5
  have ne_11q5_0q0 : k11q5 ≠ k0q0 := AHeap.ne_some hn_11q5 eb_0q0
  have ne_11q5_0q1 : k11q5 ≠ k0q1 := AHeap.ne_some hn_11q5 eb_0q1
  have ne_11q5_1q2 : k11q5 ≠ k1q2 := AHeap.ne_some hn_11q5 eb_1q2
  have ne_11q5_2q2 : k11q5 ≠ k2q2 := AHeap.ne_some hn_11q5 eb_2q2
  have ne_11q5_4q3 : k11q5 ≠ k4q3 := AHeap.ne_some hn_11q5 eb_4q3
  refine aOps_store (by rfl) (by rfl) (by repeat (first | exact AHeap.set_same _ _ _ | assumption | refine (AHeap.set_ne _ _ (by first | assumption | exact Ne.symm (by assumption))).trans ?_)) sz27 (by rfl) (by rfl) (by first | exact Nat.le_refl _ | decide | (simp; done) | (simp; omega)) (Nat.zero_le _) (by rfl) ?_
  simp only [AHeap.set_set, AVal.cells]
  simp (decide := true) only [aOps_nil, ev, putD, Slots.put, Slots.get, Slots.keep, if_true, if_false, true_and, ↓ap_assign, pop_assign, setAt, List.set_cons_zero, List.set_cons_succ, Nat.zero_add, Nat.reduceAdd]
  repeat (with_reducible refine And.intro ?_ ?_; · first | trivial | omega | (intro hg; simp only [Bool.and_eq_true, Bool.or_eq_true, Bool.not_eq_true', Bool.and_eq_false_iff, Bool.or_eq_false_iff, Bool.not_eq_false', decide_eq_true_eq, decide_eq_false_iff_not, eqNil] at hg; omega) )
  apply hK; clear hK K
  -- region 12  law.go:264
  refine awp_rseq [7, 8, 9, 10, 11, 12, 13, 14, 15, 16, 17, 18, 19, 20] (by rfl) fun K hK => ?_
  simp (decide := true) only [ev, putD, Slots.put, Slots.get, if_true, if_false, true_and, ↓ap_loadL, apL_mk, pLoad_agg ag27 sz27, rd_ne', ne_eq, not_false_eq_true, ne_5q3_1q2.symm, ne_6q1_1q2.symm, ne_8q6_1q2.symm, ne_9q6_1q2.symm, ne_10q6_1q2.symm, ne_11q5_1q2.symm, rd_own w₀ eb_1q2, rd_any, cellsAt, List.getD_cons_zero, List.getD_cons_succ, Nat.zero_add, Nat.reduceAdd, lv_bool, lv_int, lv_str, allLive, Bool.and_true]
  repeat (with_reducible refine And.intro ?_ ?_; · first | trivial | omega | (intro hg; simp only [Bool.and_eq_true, Bool.or_eq_true, Bool.not_eq_true', Bool.and_eq_false_iff, Bool.or_eq_false_iff, Bool.not_eq_false', decide_eq_true_eq, decide_eq_false_iff_not, eqNil] at hg; omega) )
  refine aOps_callV (V := .tuple [decA d, .int .i64 f]) (by rfl) (by rfl) ((c_Add w₀ _ x (otherD y) (check_len xv) (check_len hyo)).val (by rw [add_other xv yv, hdf])) ?_
  simp (decide := true) only [ev, putD, Slots.put, Slots.get, if_true, if_false, true_and, ↓ap_move, pop_move, ↓ap_extract, pop_extract, pExt_tuple, List.length_cons, List.length_nil, List.getD_cons_zero, List.getD_cons_succ, List.getD_cons_zero, List.getD_cons_succ, Nat.zero_add, Nat.reduceAdd, decA]
  repeat (with_reducible refine And.intro ?_ ?_; · first | trivial | omega | (intro hg; simp only [Bool.and_eq_true, Bool.or_eq_true, Bool.not_eq_true', Bool.and_eq_false_iff, Bool.or_eq_false_iff, Bool.not_eq_false', decide_eq_true_eq, decide_eq_false_iff_not, eqNil] at hg; omega) )
  refine aOps_alloc ze27 (cs := [.bool false, .str [], .int .i64 0]) (by rfl) fun k12q6 hk12q6 => ?_
  have ne_12q6_5q3 : k12q6 ≠ k5q3 := by simp only [AHeap.set_none] at hk12q6; simp only [hk12q6, ne_eq, not_false_eq_true]
  have ne_12q6_6q1 : k12q6 ≠ k6q1 := by simp only [AHeap.set_none] at hk12q6; simp only [hk12q6, ne_eq, not_false_eq_true]
  have ne_12q6_8q6 : k12q6 ≠ k8q6 := by simp only [AHeap.set_none] at hk12q6; simp only [hk12q6, ne_eq, not_false_eq_true]
  have ne_12q6_9q6 : k12q6 ≠ k9q6 := by simp only [AHeap.set_none] at hk12q6; simp only [hk12q6, ne_eq, not_false_eq_true]
  have ne_12q6_10q6 : k12q6 ≠ k10q6 := by simp only [AHeap.set_none] at hk12q6; simp only [hk12q6, ne_eq, not_false_eq_true]
  have ne_12q6_11q5 : k12q6 ≠ k11q5 := by simp only [AHeap.set_none] at hk12q6; simp only [hk12q6, ne_eq, not_false_eq_true]
  have hn_12q6 : h5q2 k12q6 = none := by first | assumption | (simp only [AHeap.set_none] at hk12q6; simp only [hk12q6])
  have hf_12q6 : h k12q6 = none := Sub.none hs_h5q2 hn_12q6
  have ne_12q6_0q0 : k12q6 ≠ k0q0 := AHeap.ne_some hn_12q6 eb_0q0
  have ne_12q6_0q1 : k12q6 ≠ k0q1 := AHeap.ne_some hn_12q6 eb_0q1
  have ne_12q6_1q2 : k12q6 ≠ k1q2 := AHeap.ne_some hn_12q6 eb_1q2
  have ne_12q6_2q2 : k12q6 ≠ k2q2 := AHeap.ne_some hn_12q6 eb_2q2
  have ne_12q6_4q3 : k12q6 ≠ k4q3 := AHeap.ne_some hn_12q6 eb_4q3
  refine aOps_store (by rfl) (by rfl) (by repeat (first | exact AHeap.set_same _ _ _ | assumption | refine (AHeap.set_ne _ _ (by first | assumption | exact Ne.symm (by assumption))).trans ?_)) sz27 (by rfl) (by rfl) (by first | exact Nat.le_refl _ | decide | (simp; done) | (simp; omega)) (Nat.zero_le _) (by rfl) ?_
  simp only [AHeap.set_set, AVal.cells]
  simp (decide := true) only [aOps_nil, ev, putD, Slots.put, Slots.get, Slots.keep, if_true, if_false, true_and, ↓ap_assign, pop_assign, setAt, List.set_cons_zero, List.set_cons_succ, Nat.zero_add, Nat.reduceAdd]
  repeat (with_reducible refine And.intro ?_ ?_; · first | trivial | omega | (intro hg; simp only [Bool.and_eq_true, Bool.or_eq_true, Bool.not_eq_true', Bool.and_eq_false_iff, Bool.or_eq_false_iff, Bool.not_eq_false', decide_eq_true_eq, decide_eq_false_iff_not, eqNil] at hg; omega) )
  apply hK; clear hK K
  refine awp_seq ?_
  -- region 13  law.go:265
  refine awp_dseq_H [0, 1, 2, 3, 4, 5, 6, 7, 8, 9, 10, 11, 12, 13, 14, 15, 16, 17, 18, 19, 20, 21, 22, 23, 24, 25, 26, 27, 28] [none, none, none, none, none, none, none, some 6, some 7, some 8, some 9, some 9, some 10, some 9, some 13, some 14, some 14, some 15, some 14, some 18, some 19, some 19, some 20, some 19, some 23, some 24, some 24, some 25, some 24] 29 [7, 8, 9, 10, 11, 12, 15, 16, 98] mixed (by kernel_rfl) (by rfl) fun K hK => ?_
  simp only [permL, List.filterMap_cons, List.filterMap_nil, List.getElem?_cons_zero, List.getElem?_cons_succ]
  simp (decide := true) only [aOps_nil, ev, absV, absS, putD, Slots.put, Slots.get, if_true, if_false, true_and, hOps_cons, hOps_nil, Sub_self, ↓ap_move, pop_move, ↓ap_binOp, pop_binOp, isNilC_int, cond_false, pBinX_int, pI_neq, ↓ag_loadL, agQL_some, agL_mk, agP, agQ_some, nthDst, gKnown_bool, guardB_bool_false, implies_true, decide_true, Bool.not_false, Bool.not_true, condV_true, Bool.and_true, pLoad_agg ag27 sz27, pLoad_agg ag40 sz40, ↓ag_move, rd_ne', ne_eq, not_false_eq_true, ne_8q6_6q1.symm, ne_9q6_6q1.symm, ne_10q6_6q1.symm, ne_11q5_6q1.symm, ne_12q6_6q1.symm, ne_12q6_11q5.symm, rd_any, cellsAt, List.getD_cons_zero, List.getD_cons_succ, Nat.zero_add, Nat.reduceAdd, lv_bool, lv_int, lv_str, allLive, Bool.and_true, lz5, decide_true, Bool.and_true, Bool.not_true]
  repeat (with_reducible refine And.intro ?_ ?_; · first | trivial | omega | (intro hg; simp only [Bool.and_eq_true, Bool.or_eq_true, Bool.not_eq_true', Bool.and_eq_false_iff, Bool.or_eq_false_iff, Bool.not_eq_false', decide_eq_true_eq, decide_eq_false_iff_not, eqNil] at hg; omega) )
  first
  | (refine aOps_yes (by rfl) ?_; refine aOps_callV (V := decA (otherD y)) (by rfl) (by rfl) ((c_number12 w₀ _ (!y.neg) z5 (List.replicate (S - y.scale).toNat 0 ++ digs y.dig) (hz5.sub (by repeat (first | exact Sub.refl _ | assumption | refine Sub.trans_set ?_ (by assumption)))) (whole_digZ yv _) (by have := whole_len yv (S - y.scale).toNat; omega) S (by omega) (by omega)).val (by rw [toNat_leV (whole_leV y _), ← hsy (), other_number yv (by omega) (by omega)])) ?_)
  | (refine aOps_gcall (V := decA (otherD y)) (f := _) (cap := _) (xs := _) rfl (fun hg => ⟨rfl, ?_⟩) (fun hg => (c_number12 w₀ _ (!y.neg) z5 (List.replicate (S - y.scale).toNat 0 ++ digs y.dig) (hz5.sub (by repeat (first | exact Sub.refl _ | assumption | refine Sub.trans_set ?_ (by assumption)))) (whole_digZ yv _) (by have := whole_len yv (S - y.scale).toNat; omega) S (by omega) (by omega)).val (by rw [toNat_leV (whole_leV y _), ← hsy (), other_number yv (by omega) (by omega)])) ?_; · (simp (decide := true) only [gv, nthDst, Slots.get, if_true, if_false, guardB_bool_true, guardB_bool_false, guardB_cond, Bool.not_not] at hg; simp (decide := true) only [evs, ev, Slots.get, if_true, if_false, hg, condV_true, List.append_nil, List.map_cons, List.map_nil, absV, absS] <;> try rfl))
  rw [aOps_nil]
  refine And.intro (by first | exact Sub.refl _ | assumption | exact Sub.set (by assumption)) ?_
  simp (decide := true) only [aOps_nil, ev, absV, absS, putD, Slots.put, Slots.get, Slots.keep, if_true, if_false, true_and, Sub_self, nthDst, guardB_bool_false, ↓ag_binOp, pop_binOp, agP, agQ_some, gKnown_bool, implies_true, decide_true, Bool.not_false, Bool.not_true, condV_true, Bool.and_true, isNilC_tmp, cond_false, pBinX_agg, ne27, ↓ap_pick, pop_pick, pPick_bool, pickV_and, agL_mk, pLoad_agg ag27 sz27, pBinX_int, pI_neq, rd_ne', ne_eq, not_false_eq_true, ne_9q6_8q6.symm, ne_10q6_8q6.symm, ne_10q6_9q6.symm, ne_11q5_8q6.symm, ne_11q5_9q6.symm, ne_11q5_10q6.symm, ne_12q6_8q6.symm, ne_12q6_9q6.symm, ne_12q6_10q6.symm, rd_any, cellsAt, List.getD_cons_zero, List.getD_cons_succ, Nat.zero_add, Nat.reduceAdd, lv_bool, lv_int, lv_str, allLive, Bool.and_true, decA, beq_self_eq_true, decide_true, Bool.and_true, Bool.not_true]
  repeat (with_reducible refine And.intro ?_ ?_; · first | trivial | omega | (intro hg; simp only [Bool.and_eq_true, Bool.or_eq_true, Bool.not_eq_true', Bool.and_eq_false_iff, Bool.or_eq_false_iff, Bool.not_eq_false', decide_eq_true_eq, decide_eq_false_iff_not, eqNil] at hg; omega) )
  apply hK; clear hK K
  refine awp_cond (b := _) rfl (fun hb1 => ?_) (fun hb1 => ?_)
  · exact absurd hb1 (by decide)
  · try simp only at hb1
    refine awp_skip ?_
    change Awp _ _ _ _ _ _ _
    -- region 15  law.go:268
    refine awp_dseq_H [0, 1, 2, 3, 5, 4, 6, 7, 8, 9, 10, 11, 12, 14, 13, 15, 16, 17, 18, 19, 20, 21] [none, none, none, none, none, none, some 5, some 6, some 7, some 8, some 8, some 8, some 8, some 8, some 11, some 14, some 15, some 16, some 17, some 18, some 19, some 20] 22 [4] mixed (by kernel_rfl) (by rfl) fun K hK => ?_
    simp only [permL, List.filterMap_cons, List.filterMap_nil, List.getElem?_cons_zero, List.getElem?_cons_succ]
    simp (decide := true) only [aOps_nil, ev, putD, Slots.put, Slots.get, if_true, if_false, true_and, hOps_cons, hOps_nil, Sub_self, ↓ap_loadL, apL_mk, pLoad_agg ag27 sz27, ↓ap_move, pop_move, pLoad_agg ag40 sz40, rd_ne', ne_eq, not_false_eq_true, ne_5q3_4q3.symm, ne_6q1_5q3.symm, ne_6q1_4q3.symm, ne_8q6_5q3.symm, ne_8q6_4q3.symm, ne_9q6_5q3.symm, ne_9q6_8q6.symm, ne_9q6_4q3.symm, ne_10q6_5q3.symm, ne_10q6_8q6.symm, ne_10q6_4q3.symm, ne_11q5_5q3.symm, ne_11q5_8q6.symm, ne_11q5_4q3.symm, ne_12q6_5q3.symm, ne_12q6_8q6.symm, ne_12q6_4q3.symm, rd_own w₀ eb_4q3, rd_any, cellsAt, List.getD_cons_zero, List.getD_cons_succ, Nat.zero_add, Nat.reduceAdd, lv_bool, lv_int, lv_str, allLive, Bool.and_true, lz4, lz5, Bool.and_true]
    repeat (with_reducible refine And.intro ?_ ?_; · first | trivial | omega | (intro hg; simp only [Bool.and_eq_true, Bool.or_eq_true, Bool.not_eq_true', Bool.and_eq_false_iff, Bool.or_eq_false_iff, Bool.not_eq_false', decide_eq_true_eq, decide_eq_false_iff_not, eqNil] at hg; omega) )
    refine aOps_call (by rfl) (by rfl) (c_add w₀ _ x.neg y.neg z4 z5 (List.replicate (S - x.scale).toNat 0 ++ digs x.dig) (List.replicate (S - y.scale).toNat 0 ++ digs y.dig) (hz4.sub (by repeat (first | exact Sub.refl _ | assumption | refine Sub.trans_set ?_ (by assumption)))) (hz5.sub (by repeat (first | exact Sub.refl _ | assumption | refine Sub.trans_set ?_ (by assumption)))) (whole_digZ xv _) (whole_digZ yv _) 200 (by decide) (by have := whole_len xv (S - x.scale).toNat; omega) (by have := whole_len yv (S - y.scale).toNat; omega)) fun x15q4 h15q4 hx15q4 => ?_
    obtain ⟨⟨n1, z1, o1, rfl, hz1, hd1, hv1, hl1⟩, hs1⟩ := hx15q4
    have lz1 := hz1.live
    have hr_h15q4 : Sub h5q2 h15q4 := Sub.trans (by repeat (first | exact Sub.refl _ | assumption | refine Sub.trans_set ?_ (by assumption))) hs1
    have hs_h15q4 : Sub h h15q4 := Sub.trans hs_h5q2 hr_h15q4
    have eb_5q3 := hs1 k5q3 _ (by repeat (first | exact AHeap.set_same _ _ _ | assumption | refine (AHeap.set_ne _ _ (by first | assumption | exact Ne.symm (by assumption))).trans ?_))
    have eb_6q1 := hs1 k6q1 _ (by repeat (first | exact AHeap.set_same _ _ _ | assumption | refine (AHeap.set_ne _ _ (by first | assumption | exact Ne.symm (by assumption))).trans ?_))
    have eb_8q6 := hs1 k8q6 _ (by repeat (first | exact AHeap.set_same _ _ _ | assumption | refine (AHeap.set_ne _ _ (by first | assumption | exact Ne.symm (by assumption))).trans ?_))
    have eb_9q6 := hs1 k9q6 _ (by repeat (first | exact AHeap.set_same _ _ _ | assumption | refine (AHeap.set_ne _ _ (by first | assumption | exact Ne.symm (by assumption))).trans ?_))
    have eb_10q6 := hs1 k10q6 _ (by repeat (first | exact AHeap.set_same _ _ _ | assumption | refine (AHeap.set_ne _ _ (by first | assumption | exact Ne.symm (by assumption))).trans ?_))
    have eb_11q5 := hs1 k11q5 _ (by repeat (first | exact AHeap.set_same _ _ _ | assumption | refine (AHeap.set_ne _ _ (by first | assumption | exact Ne.symm (by assumption))).trans ?_))
    have eb_12q6 := hs1 k12q6 _ (by repeat (first | exact AHeap.set_same _ _ _ | assumption | refine (AHeap.set_ne _ _ (by first | assumption | exact Ne.symm (by assumption))).trans ?_))
    replace eb_0q0 := hs1 k0q0 _ (by repeat (first | exact AHeap.set_same _ _ _ | assumption | refine (AHeap.set_ne _ _ (by first | assumption | exact Ne.symm (by assumption))).trans ?_))
    replace eb_0q1 := hs1 k0q1 _ (by repeat (first | exact AHeap.set_same _ _ _ | assumption | refine (AHeap.set_ne _ _ (by first | assumption | exact Ne.symm (by assumption))).trans ?_))
    replace eb_1q2 := hs1 k1q2 _ (by repeat (first | exact AHeap.set_same _ _ _ | assumption | refine (AHeap.set_ne _ _ (by first | assumption | exact Ne.symm (by assumption))).trans ?_))
    replace eb_2q2 := hs1 k2q2 _ (by repeat (first | exact AHeap.set_same _ _ _ | assumption | refine (AHeap.set_ne _ _ (by first | assumption | exact Ne.symm (by assumption))).trans ?_))
    replace eb_4q3 := hs1 k4q3 _ (by repeat (first | exact AHeap.set_same _ _ _ | assumption | refine (AHeap.set_ne _ _ (by first | assumption | exact Ne.symm (by assumption))).trans ?_))
    rw [aOps_nil]
    refine And.intro (by first | exact Sub.refl _ | assumption | exact Sub.set (by assumption)) ?_
    simp (decide := true) only [putD, Slots.put, if_true, if_false]
    repeat (with_reducible refine And.intro ?_ ?_; · first | trivial | omega | (intro hg; simp only [Bool.and_eq_true, Bool.or_eq_true, Bool.not_eq_true', Bool.and_eq_false_iff, Bool.or_eq_false_iff, Bool.not_eq_false', decide_eq_true_eq, decide_eq_false_iff_not, eqNil] at hg; omega) )
    refine aOps_callV (V := decA (ofV (vI x + vI y))) (by rfl) (by rfl) ((c_number12 w₀ _ n1 z1 o1 (hz1.sub (by repeat (first | exact Sub.refl _ | assumption | refine Sub.trans_set ?_ (by assumption)))) hd1 (by omega) S (by omega) (by omega)).val (by rw [sum_number xv yv (S := S.toNat) (by omega) (by omega) (by omega) (by rw [Int.toNat_of_nonneg (leV_bound o1 hd1).1, hv1, whole_leV, whole_leV, hsx (), hsy ()])])) ?_
    rw [aOps_nil]
    refine And.intro (by first | exact Sub.refl _ | assumption | exact Sub.set (by assumption)) ?_
    simp (decide := true) only [putD, Slots.put, if_false, decA]
    repeat (with_reducible refine And.intro ?_ ?_; · first | trivial | omega | (intro hg; simp only [Bool.and_eq_true, Bool.or_eq_true, Bool.not_eq_true', Bool.and_eq_false_iff, Bool.or_eq_false_iff, Bool.not_eq_false', decide_eq_true_eq, decide_eq_false_iff_not, eqNil] at hg; omega) )
    refine aOps_callV (V := .bool true) (by rfl) (by rfl) ((c_is w₀ _ s (ofV (vI x + vI y)) e).val (by rw [decide_eq_true (hse.symm.trans (add_vI xv yv))])) ?_
    rw [aOps_nil]
    refine And.intro (by first | exact Sub.refl _ | assumption | exact Sub.set (by assumption)) ?_
    simp (decide := true) only [aOps_nil, ev, putD, Slots.put, Slots.get, if_true, if_false, true_and, Sub_self, pop_move, ↓ag_loadL, agQL_some, agL_mk, agP, agQ_some, nthDst, gKnown_bool, guardB_bool_true, implies_true, condV_true, Bool.and_true, pLoad_agg ag27 sz27, ↓ag_move, pLoad_agg ag40 sz40, rd_own w₀ eb_4q3, rd_own w₀ eb_6q1, rd_own w₀ eb_10q6, cellsAt, List.getD_cons_zero, List.getD_cons_succ, Nat.zero_add, Nat.reduceAdd, lv_bool, lv_int, lv_str, allLive, Bool.and_true, lz4, lz5, Bool.and_true]
    repeat (with_reducible refine And.intro ?_ ?_; · first | trivial | omega | (intro hg; simp only [Bool.and_eq_true, Bool.or_eq_true, Bool.not_eq_true', Bool.and_eq_false_iff, Bool.or_eq_false_iff, Bool.not_eq_false', decide_eq_true_eq, decide_eq_false_iff_not, eqNil] at hg; omega) )
    refine aOps_yes (by rfl) ?_
    refine aOps_call (by rfl) (by rfl) (c_add w₀ _ x.neg (!y.neg) z4 z5 (List.replicate (S - x.scale).toNat 0 ++ digs x.dig) (List.replicate (S - y.scale).toNat 0 ++ digs y.dig) ((hz4.sub hr_h15q4).sub (by repeat (first | exact Sub.refl _ | assumption | refine Sub.trans_set ?_ (by assumption)))) ((hz5.sub hr_h15q4).sub (by repeat (first | exact Sub.refl _ | assumption | refine Sub.trans_set ?_ (by assumption)))) (whole_digZ xv _) (whole_digZ yv _) 200 (by decide) (by have := whole_len xv (S - x.scale).toNat; omega) (by have := whole_len yv (S - y.scale).toNat; omega)) fun x15q13 h15q13 hx15q13 => ?_
    obtain ⟨⟨n2, z2, o2, rfl, hz2, hd2, hv2, hl2⟩, hs2⟩ := hx15q13
    have lz2 := hz2.live
    have hr_h15q13 : Sub h15q4 h15q13 := Sub.trans (by repeat (first | exact Sub.refl _ | assumption | refine Sub.trans_set ?_ (by assumption))) hs2
    have hs_h15q13 : Sub h h15q13 := Sub.trans hs_h15q4 hr_h15q13
    replace eb_0q0 := hs2 k0q0 _ (by repeat (first | exact AHeap.set_same _ _ _ | assumption | refine (AHeap.set_ne _ _ (by first | assumption | exact Ne.symm (by assumption))).trans ?_))
    replace eb_0q1 := hs2 k0q1 _ (by repeat (first | exact AHeap.set_same _ _ _ | assumption | refine (AHeap.set_ne _ _ (by first | assumption | exact Ne.symm (by assumption))).trans ?_))
    replace eb_1q2 := hs2 k1q2 _ (by repeat (first | exact AHeap.set_same _ _ _ | assumption | refine (AHeap.set_ne _ _ (by first | assumption | exact Ne.symm (by assumption))).trans ?_))
    replace eb_2q2 := hs2 k2q2 _ (by repeat (first | exact AHeap.set_same _ _ _ | assumption | refine (AHeap.set_ne _ _ (by first | assumption | exact Ne.symm (by assumption))).trans ?_))
    replace eb_4q3 := hs2 k4q3 _ (by repeat (first | exact AHeap.set_same _ _ _ | assumption | refine (AHeap.set_ne _ _ (by first | assumption | exact Ne.symm (by assumption))).trans ?_))
    replace eb_5q3 := hs2 k5q3 _ (by repeat (first | exact AHeap.set_same _ _ _ | assumption | refine (AHeap.set_ne _ _ (by first | assumption | exact Ne.symm (by assumption))).trans ?_))
    replace eb_6q1 := hs2 k6q1 _ (by repeat (first | exact AHeap.set_same _ _ _ | assumption | refine (AHeap.set_ne _ _ (by first | assumption | exact Ne.symm (by assumption))).trans ?_))
    replace eb_8q6 := hs2 k8q6 _ (by repeat (first | exact AHeap.set_same _ _ _ | assumption | refine (AHeap.set_ne _ _ (by first | assumption | exact Ne.symm (by assumption))).trans ?_))
    replace eb_9q6 := hs2 k9q6 _ (by repeat (first | exact AHeap.set_same _ _ _ | assumption | refine (AHeap.set_ne _ _ (by first | assumption | exact Ne.symm (by assumption))).trans ?_))
    replace eb_10q6 := hs2 k10q6 _ (by repeat (first | exact AHeap.set_same _ _ _ | assumption | refine (AHeap.set_ne _ _ (by first | assumption | exact Ne.symm (by assumption))).trans ?_))
    replace eb_11q5 := hs2 k11q5 _ (by repeat (first | exact AHeap.set_same _ _ _ | assumption | refine (AHeap.set_ne _ _ (by first | assumption | exact Ne.symm (by assumption))).trans ?_))
    replace eb_12q6 := hs2 k12q6 _ (by repeat (first | exact AHeap.set_same _ _ _ | assumption | refine (AHeap.set_ne _ _ (by first | assumption | exact Ne.symm (by assumption))).trans ?_))
    rw [aOps_nil]
    refine And.intro (by first | exact Sub.refl _ | assumption | exact Sub.set (by assumption)) ?_
    simp (decide := true) only [putD, Slots.put, if_true, if_false]
    repeat (with_reducible refine And.intro ?_ ?_; · first | trivial | omega | (intro hg; simp only [Bool.and_eq_true, Bool.or_eq_true, Bool.not_eq_true', Bool.and_eq_false_iff, Bool.or_eq_false_iff, Bool.not_eq_false', decide_eq_true_eq, decide_eq_false_iff_not, eqNil] at hg; omega) )
    first
    | (refine aOps_yes (by rfl) ?_; refine aOps_callV (V := decA (ofV (vI x - vI y))) (by rfl) (by rfl) ((c_number12 w₀ _ n2 z2 o2 (hz2.sub (by repeat (first | exact Sub.refl _ | assumption | refine Sub.trans_set ?_ (by assumption)))) hd2 (by omega) S (by omega) (by omega)).val (by rw [diff_number xv yv (S := S.toNat) (by omega) (by omega) (by omega) (by rw [Int.toNat_of_nonneg (leV_bound o2 hd2).1, hv2, whole_leV, whole_leV, hsx (), hsy ()])])) ?_)
    | (refine aOps_gcall (V := decA (ofV (vI x - vI y))) (f := _) (cap := _) (xs := _) rfl (fun hg => ⟨rfl, ?_⟩) (fun hg => (c_number12 w₀ _ n2 z2 o2 (hz2.sub (by repeat (first | exact Sub.refl _ | assumption | refine Sub.trans_set ?_ (by assumption)))) hd2 (by omega) S (by omega) (by omega)).val (by rw [diff_number xv yv (S := S.toNat) (by omega) (by omega) (by omega) (by rw [Int.toNat_of_nonneg (leV_bound o2 hd2).1, hv2, whole_leV, whole_leV, hsx (), hsy ()])])) ?_; · (simp (decide := true) only [gv, nthDst, Slots.get, if_true, if_false, guardB_bool_true, guardB_bool_false, guardB_cond, Bool.not_not] at hg; simp (decide := true) only [evs, ev, Slots.get, if_true, if_false, hg, condV_true, List.append_nil, List.map_cons, List.map_nil, absV, absS] <;> try rfl))
    rw [aOps_nil]
    refine And.intro (by first | exact Sub.refl _ | assumption | exact Sub.set (by assumption)) ?_
    simp (decide := true) only [putD, Slots.put, if_false, decA]
    repeat (with_reducible refine And.intro ?_ ?_; · first | trivial | omega | (intro hg; simp only [Bool.and_eq_true, Bool.or_eq_true, Bool.not_eq_true', Bool.and_eq_false_iff, Bool.or_eq_false_iff, Bool.not_eq_false', decide_eq_true_eq, decide_eq_false_iff_not, eqNil] at hg; omega) )
    first
    | (refine aOps_yes (by rfl) ?_; refine aOps_callV (V := .bool true) (by rfl) (by rfl) ((c_is w₀ _ d (ofV (vI x - vI y)) f).val (by rw [decide_eq_true (hdf.symm.trans (sub_vI xv yv))])) ?_)
    | (refine aOps_gcall (V := .bool true) (f := _) (cap := _) (xs := _) rfl (fun hg => ⟨rfl, ?_⟩) (fun hg => (c_is w₀ _ d (ofV (vI x - vI y)) f).val (by rw [decide_eq_true (hdf.symm.trans (sub_vI xv yv))])) ?_; · (simp (decide := true) only [gv, nthDst, Slots.get, if_true, if_false, guardB_bool_true, guardB_bool_false, guardB_cond, Bool.not_not] at hg; simp (decide := true) only [evs, ev, Slots.get, if_true, if_false, hg, condV_true, List.append_nil, List.map_cons, List.map_nil, absV, absS] <;> try rfl))
    rw [aOps_nil]
    refine And.intro (by first | exact Sub.refl _ | assumption | exact Sub.set (by assumption)) ?_
    simp (decide := true) only [aOps_nil, ev, absV, absS, putD, Slots.put, Slots.get, if_true, if_false, true_and, Sub_self, ↓ap_pick, pop_pick, pPick_bool, pickV_and, Bool.and_true, Bool.and_true]
    repeat (with_reducible refine And.intro ?_ ?_; · first | trivial | omega | (intro hg; simp only [Bool.and_eq_true, Bool.or_eq_true, Bool.not_eq_true', Bool.and_eq_false_iff, Bool.or_eq_false_iff, Bool.not_eq_false', decide_eq_true_eq, decide_eq_false_iff_not, eqNil] at hg; omega) )
    first
    | (refine aOps_yes (by rfl) ?_; refine aOps_callV (V := .bool true) (by rfl) (by rfl) (c_lives12 w₀ ht he _) ?_)
    | (refine aOps_gcall (V := .bool true) (f := _) (cap := _) (xs := _) rfl (fun hg => ⟨rfl, ?_⟩) (fun hg => c_lives12 w₀ ht he _) ?_; · (simp (decide := true) only [gv, nthDst, Slots.get, if_true, if_false, guardB_bool_true, guardB_bool_false, guardB_cond, Bool.not_not] at hg; simp (decide := true) only [evs, ev, Slots.get, if_true, if_false, hg, condV_true, List.append_nil, List.map_cons, List.map_nil, absV, absS] <;> try rfl))
    rw [aOps_nil]
    refine And.intro (by first | exact Sub.refl _ | assumption | exact Sub.set (by assumption)) ?_
    simp (decide := true) only [aOps_nil, ev, putD, Slots.put, Slots.get, Slots.keep, if_true, if_false, true_and, Sub_self, pPick_bool, pickV_and, ↓ap_assign, pop_assign, Bool.and_true, Bool.and_true]
    repeat (with_reducible refine And.intro ?_ ?_; · first | trivial | omega | (intro hg; simp only [Bool.and_eq_true, Bool.or_eq_true, Bool.not_eq_true', Bool.and_eq_false_iff, Bool.or_eq_false_iff, Bool.not_eq_false', decide_eq_true_eq, decide_eq_false_iff_not, eqNil] at hg; omega) )
    apply hK; clear hK K
    refine awp_ret ?_
    try simp only [thenA_ret, inBlockA_ret]
    refine retA_ret h (by repeat (first | exact Sub.refl _ | assumption | refine Sub.trans_set ?_ (by assumption))) (resPre_tmp (resPre_nil)) ?_
    simp (decide := true) only [Slots.get, if_true, and_true, resOf_one]
    all_goals first | rfl | exact ⟨rfl, rfl⟩ | (simp (decide := true) only [if_true, if_false, *]; done) | (trace_state; fail)
end Go.Proofs.YthiiakghjoeikaaGreatDoor

/-
  The arguments of the statements, opened: numbers as plain data, grids, decimals, pairs; the listed table.
  Conditions: none.
-/
namespace Go.Proofs.YthiiakghjoeikaaGreatDoor
open Go.AM
open Go.ChangeShapes Go.WideShapes Go.ChangeAt Go.RowKit
set_option maxRecDepth 100000

section
variable {H : Type} {enc : TypeId × Value → H} {W : World} {base : Nat} {v : Value} {x : DataW H × List MemPlace}

theorem u8_of {n : Int} (h : (Lit.int .u8 n).wf = true) : ∃ b : UInt8, (b.toNat : Int) = n := by
  have := wf_u8 h
  exact ⟨UInt8.ofNat n.toNat, by rw [UInt8.toNat_ofNat']; omega⟩

theorem arg_N (h : ∃ fuel, DataW.trod enc Tryz.prog W 0 (fun _ => true) true fuel 24 v.cells.toList = some x) (hv : Value.okWide Tryz.prog W .any base 24 v) :
    ∃ (neg : Bool) (y : AVal) (bs : List UInt8) (sc : UInt8), VR (fun _ => none) (.agg [.bool neg, y, .int .u8 sc.toNat]) v ∧ IsB W (fun _ => none) y bs ∧ bs.length ≤ 9223372036854775807 := by
  obtain ⟨cs, rfl, hsz⟩ := okWide_struct Tryz.underlying24 hv
  obtain ⟨fuel, hf⟩ := h
  obtain ⟨y0, y1, y2, n, _, hl, h0, h1, h2⟩ := Go.Deep.trod_struct3 Tryz.underlying24 hf
  rw [show Tryz.prog.cellsOf 24 = 3 by kernel_rfl] at hsz hl
  obtain ⟨l⟩ := cs
  match l, hsz with
  | [c0, c1, c2], _ =>
    simp only [show Tryz.prog.cellsOf 4 = 1 by kernel_rfl, show Tryz.prog.cellsOf 22 = 1 by kernel_rfl, show Tryz.prog.cellsOf 5 = 1 by kernel_rfl, Value.cells, List.drop_zero, List.drop_succ_cons, List.take_succ_cons, List.take_zero] at h0 h1 h2
    obtain ⟨b, e0, _⟩ := DataW.trod_bool Tryz.underlying4 h0
    obtain ⟨m, e2, _, hw⟩ := DataW.trod_int Tryz.underlying5 h2
    obtain ⟨sc, hs⟩ := u8_of hw
    simp only [List.cons.injEq, and_true] at e0 e2
    subst e0 e2
    have fin : ∀ (a : Option Addr) (len cap : Nat) (zs : List Int), c1 = .slice a len cap → IsRow .u8 W a len cap zs → ∃ (neg : Bool) (y : AVal) (bs : List UInt8) (sc : UInt8), VR (fun _ => none) (.agg [.bool neg, y, .int .u8 sc.toNat]) (.agg #[.bool b, c1, .int .u8 m]) ∧ IsB W (fun _ => none) y bs ∧ bs.length ≤ 9223372036854775807 := by
      rintro a len cap zs rfl hr
      obtain ⟨y, bs, hy, hb, hlen, hmx, _⟩ := isB_of_row hr
      refine ⟨b, y, bs, sc, ?_, hb, by omega⟩
      simp only [VR]
      refine ⟨_, rfl, ?_⟩
      simp only [VRs]
      exact ⟨_, _, rfl, by simp only [VR], _, _, rfl, hy, _, _, rfl, by simp only [VR, hs], rfl⟩
    rcases open_ints Tryz.underlying22 Tryz.underlying5 (by kernel_rfl) h1 with ⟨hcs, _⟩ | ⟨x', l', c', zs, hcs, _, hl', hm', hz, _, hcell, hwz⟩
    · simp only [List.cons.injEq, and_true] at hcs
      exact fin _ _ _ [] hcs (.inl ⟨rfl, rfl, rfl, rfl⟩)
    · simp only [List.cons.injEq, and_true] at hcs
      exact fin _ _ _ zs hcs (.inr ⟨_, rfl, hl', hm', by simpa using hz, hcell, hwz⟩)
end
/-- The listed table of powers of ten. -/
theorem tab_of {W : World} {rest : List (String × DataW Unit)} (h : laidMet Tryz.prog (("internal/strconv.uint64pow10", Rows.laid_internal_strconv_uint64pow10) :: rest) W) : Tab10 W :=
  Lib.tabIs_of_head (g := 0) (by kernel_rfl) (by kernel_rfl) (show Tryz.prog.underlying 134 = _ from Tryz.underlying134) Tryz.underlying111 (by kernel_rfl) (by kernel_rfl) h
end Go.Proofs.YthiiakghjoeikaaGreatDoor

/-
  The arguments of the statements, opened: decimals, pairs of integers.
  Conditions: none.
-/
namespace Go.Proofs.YthiiakghjoeikaaGreatDoor
open Go.AM
open Go.Dec
open Go.ChangeShapes Go.WideShapes Go.ChangeAt Go.RowKit
set_option maxRecDepth 100000

section
variable {H : Type} {enc : TypeId × Value → H} {W : World} {base : Nat} {v : Value} {x : DataW H × List MemPlace}

end
end Go.Proofs.YthiiakghjoeikaaGreatDoor

/-
  The arguments of the statements, opened: booleans, texts, integers; the errors of the library that a row lists.
  Conditions: none.
-/
namespace Go.Proofs.YthiiakghjoeikaaGreatDoor
open Go.AM
open Go.ChangeShapes Go.WideShapes Go.ChangeAt Go.RowKit
set_option maxRecDepth 100000

section
variable {H : Type} {enc : TypeId × Value → H} {W : World} {base : Nat} {v : Value} {x : DataW H × List MemPlace}
end
theorem star_err : "*" ++ "errors.errorString" = "*errors.errorString" := by decide
theorem row_err (u : TypeId) (h : Tryz.prog.typeName? 3 u = some "*errors.errorString") : u = 155 :=
  typeName_ptr_named (nm := "errors.errorString") (by rw [star_err]; kernel_rfl) (by kernel_rfl) (by decide) u (by rw [star_err]; exact h)
/-- The listed error. -/
theorem errs_of {W : World} {rest : List (String × DataW Unit)} (h : laidMet Tryz.prog (("strconv.ErrRange", Rows.laid_strconv_ErrRange) :: rest) W) : Errs W := by
  obtain ⟨a, s, hv, _⟩ := laid_sentinel (g := 3) (tp := 155) h (by kernel_rfl) (by kernel_rfl) Tryz.underlying82 row_err Tryz.underlying155 Tryz.underlying157 (by kernel_rfl) (by kernel_rfl) Tryz.underlying9 (by kernel_rfl) (by kernel_rfl)
  exact ⟨_, by rw [World.var?_cell (g := 3) (by kernel_rfl) hv 0]; rfl, .inr ⟨_, _, rfl⟩⟩
end Go.Proofs.YthiiakghjoeikaaGreatDoor

/-
  The statement DecimalsProducts, walked.
  Conditions: none.
-/
namespace Go.Proofs.YthiiakghjoeikaaGreatDoor
open Go.AM
open Go.Proofs
open Go.Dec
open Go.Lib (decDigits)
set_option maxRecDepth 100000

theorem res_len {c : D} {neg : Bool} {n k : Nat} (hc : c = canon neg n k) {d : D} {e : Int} (h : resE c = (d, e)) : d.dig.length ≤ 9223372036854775807 := by
  by_cases hl : 62 < long c
  · rw [resE_long hl] at h
    rw [← (Prod.mk.inj h).1]
    decide
  · rw [resE_ok hl] at h
    rw [← (Prod.mk.inj h).1]
    exact check_len (by rw [hc]; exact check_canon _ _ _ (by rw [← hc]; omega))
theorem whole_self (d : D) : leV (List.replicate (d.scale - d.scale).toNat 0 ++ digs d.dig) = (natOf d.dig : Int) := by
  rw [whole_leV, Int.sub_self]
  simp
set_option maxHeartbeats 1000000 in
theorem l_DecimalsProducts (w₀ : World) (ht : Tab10 w₀) (he : Errs w₀) (h : AHeap) (neg : Bool) (v : AVal) (bs : List UInt8) (sc : UInt8) (hb : IsB w₀ h v bs) (hl : bs.length ≤ 9223372036854775807)
    (neg' : Bool) (v' : AVal) (bs' : List UInt8) (sc' : UInt8) (hb' : IsB w₀ h v' bs') (hl' : bs'.length ≤ 9223372036854775807)
    (neg'' : Bool) (v'' : AVal) (bs'' : List UInt8) (sc'' : UInt8) (hb'' : IsB w₀ h v'' bs'') (hl'' : bs''.length ≤ 9223372036854775807) :
    ACall Tryz.prog w₀ 4 [.agg [.bool neg, v, .int .u8 sc.toNat], .agg [.bool neg', v', .int .u8 sc'.toNat], .agg [.bool neg'', v'', .int .u8 sc''.toNat]] h (fun x _ => x = .bool true) := by
  refine ACall.mono (R := fun x h' => x = .bool true ∧ h' = h) ?_ fun x h' hx => hx.1
  have hlv := hb.live
  have hlv' := hb'.live
  have hlv'' := hb''.live
  obtain ⟨x, hx⟩ : ∃ d, d = ofN neg bs sc := ⟨_, rfl⟩
  have xv : checkE x = 0 := by rw [hx]; exact ofN_check _ _ _
  obtain ⟨y, hy⟩ : ∃ d, d = ofN neg' bs' sc' := ⟨_, rfl⟩
  have yv : checkE y = 0 := by rw [hy]; exact ofN_check _ _ _
  obtain ⟨z, hz⟩ : ∃ d, d = ofN neg'' bs'' sc'' := ⟨_, rfl⟩
  have zv : checkE z = 0 := by rw [hz]; exact ofN_check _ _ _
  obtain ⟨x0, x1⟩ : 0 ≤ x.scale ∧ x.scale ≤ 62 := ⟨(Small_of_check xv).1.s0, (Small_of_check xv).1.s1⟩
  obtain ⟨y0, y1⟩ : 0 ≤ y.scale ∧ y.scale ≤ 62 := ⟨(Small_of_check yv).1.s0, (Small_of_check yv).1.s1⟩
  obtain ⟨p, e, hp⟩ : ∃ a b, mulE x y = (a, b) := ⟨_, _, rfl⟩
  obtain ⟨s, g, hs⟩ : ∃ a b, addE y z = (a, b) := ⟨_, _, rfl⟩
  obtain ⟨l, i, hm⟩ : ∃ a b, mulE x s = (a, b) := ⟨_, _, rfl⟩
  obtain ⟨r, j, hr⟩ : ∃ a b, mulE x z = (a, b) := ⟨_, _, rfl⟩
  obtain ⟨t, k, ht'⟩ : ∃ a b, addE p r = (a, b) := ⟨_, _, rfl⟩
  have pn := mul_number xv yv
  have rn := mul_number xv zv
  have sn := add_vI yv zv
  have pl : p.dig.length ≤ 9223372036854775807 := res_len rfl (pn.symm.trans hp)
  have rl : r.dig.length ≤ 9223372036854775807 := res_len rfl (rn.symm.trans hr)
  have sl : s.dig.length ≤ 9223372036854775807 := res_len (c := ofV (vI y + vI z)) rfl (sn.symm.trans hs)
  have hend : ∀ _ : Unit, e = 0 → g = 0 → i = 0 → j = 0 → k = 0 ∧ t = l := fun _ e1 e2 e3 e4 => mul_add_law xv yv zv (by rw [hp, e1]) (by rw [hs, e2]) (by rw [hm, e3]) (by rw [hr, e4]) ht'
  clear sn
  refine acall_intro (n := 118) (rs := [.tmp 6]) Tryz.func4 rfl rfl rfl rfl (Nat.le_of_ble_eq_true rfl) ?_
  simp only [initSlots]
  -- region 0  law.go:273
  refine awp_rseq [3, 4, 5] (by rfl) fun K hK => ?_
  refine aOps_box (by rfl) (by rfl) (by rfl) fun k0q0 hk0q0 => ?_
  try have hf_0q0 : h k0q0 = none := by first | assumption | (simp only [AHeap.set_none] at hk0q0; simp only [hk0q0])
  skip
  refine aOps_box (by rfl) (by rfl) (by rfl) fun k0q1 hk0q1 => ?_
  have ne_0q1_0q0 : k0q1 ≠ k0q0 := by simp only [AHeap.set_none] at hk0q1; simp only [hk0q1, ne_eq, not_false_eq_true]
  try have hf_0q1 : h k0q1 = none := by first | assumption | (simp only [AHeap.set_none] at hk0q1; simp only [hk0q1])
  skip
  refine aOps_box (by rfl) (by rfl) (by rfl) fun k0q2 hk0q2 => ?_
  have ne_0q2_0q0 : k0q2 ≠ k0q0 := by simp only [AHeap.set_none] at hk0q2; simp only [hk0q2, ne_eq, not_false_eq_true]
  have ne_0q2_0q1 : k0q2 ≠ k0q1 := by simp only [AHeap.set_none] at hk0q2; simp only [hk0q2, ne_eq, not_false_eq_true]
  try have hf_0q2 : h k0q2 = none := by first | assumption | (simp only [AHeap.set_none] at hk0q2; simp only [hk0q2])
  skip
  simp (decide := true) only [aOps_nil, ev, absV, absS, putD, Slots.put, Slots.get, Slots.keep, if_true, if_false, true_and, ↓ap_assign, pop_assign, AVal.cells, Nat.zero_add, Nat.reduceAdd]
  repeat (with_reducible refine And.intro ?_ ?_; · first | trivial | omega | (intro hg; simp only [Bool.and_eq_true, Bool.or_eq_true, Bool.not_eq_true', Bool.and_eq_false_iff, Bool.or_eq_false_iff, Bool.not_eq_false', decide_eq_true_eq, decide_eq_false_iff_not, eqNil] at hg; omega) )
  apply hK; clear hK K
  -- region 1  law.go:274
  refine awp_rseq [4, 5, 7] (by rfl) fun K hK => ?_
  simp (decide := true) only [ev, putD, Slots.put, Slots.get, if_true, if_false, true_and, ↓ap_loadL, apL_mk, pLoad_agg ag24 sz24, rd_ne', ne_eq, not_false_eq_true, ne_0q1_0q0.symm, ne_0q2_0q0.symm, rd_any, cellsAt, List.getD_cons_zero, List.getD_cons_succ, Nat.zero_add, Nat.reduceAdd, lv_bool, lv_int, allLive, Bool.and_true, hlv]
  repeat (with_reducible refine And.intro ?_ ?_; · first | trivial | omega | (intro hg; simp only [Bool.and_eq_true, Bool.or_eq_true, Bool.not_eq_true', Bool.and_eq_false_iff, Bool.or_eq_false_iff, Bool.not_eq_false', decide_eq_true_eq, decide_eq_false_iff_not, eqNil] at hg; omega) )
  refine aOps_callV (V := decA x) (by rfl) (by rfl) ((c_ofN w₀ _ neg v bs sc (hb.mono (by repeat (first | exact Sub.refl _ | refine Sub.trans_set ?_ (by assumption)))) hl).val (by rw [hx])) ?_
  refine aOps_alloc ze27 (cs := [.bool false, .str [], .int .i64 0]) (by rfl) fun k1q2 hk1q2 => ?_
  have ne_1q2_0q0 : k1q2 ≠ k0q0 := by simp only [AHeap.set_none] at hk1q2; simp only [hk1q2, ne_eq, not_false_eq_true]
  have ne_1q2_0q1 : k1q2 ≠ k0q1 := by simp only [AHeap.set_none] at hk1q2; simp only [hk1q2, ne_eq, not_false_eq_true]
  have ne_1q2_0q2 : k1q2 ≠ k0q2 := by simp only [AHeap.set_none] at hk1q2; simp only [hk1q2, ne_eq, not_false_eq_true]
  try have hf_1q2 : h k1q2 = none := by first | assumption | (simp only [AHeap.set_none] at hk1q2; simp only [hk1q2])
  refine aOps_store (by rfl) (by rfl) (by repeat (first | exact AHeap.set_same _ _ _ | assumption | refine (AHeap.set_ne _ _ (by first | assumption | exact Ne.symm (by assumption))).trans ?_)) sz27 (by rfl) (by rfl) (by first | exact Nat.le_refl _ | decide | (simp; done) | (simp; omega)) (Nat.zero_le _) (by rfl) ?_
  simp only [AHeap.set_set, AVal.cells]
  simp (decide := true) only [aOps_nil, ev, putD, Slots.put, Slots.get, Slots.keep, if_true, if_false, setAt, List.set_cons_zero, List.set_cons_succ, Nat.zero_add, Nat.reduceAdd, decA]
  repeat (with_reducible refine And.intro ?_ ?_; · first | trivial | omega | (intro hg; simp only [Bool.and_eq_true, Bool.or_eq_true, Bool.not_eq_true', Bool.and_eq_false_iff, Bool.or_eq_false_iff, Bool.not_eq_false', decide_eq_true_eq, decide_eq_false_iff_not, eqNil] at hg; omega) )
  apply hK; clear hK K
  -- region 2  law.go:275
  refine awp_rseq [5, 7, 8] (by rfl) fun K hK => ?_
  simp (decide := true) only [ev, putD, Slots.put, Slots.get, if_true, if_false, true_and, ↓ap_loadL, apL_mk, pLoad_agg ag24 sz24, rd_ne', ne_eq, not_false_eq_true, ne_0q2_0q1.symm, ne_1q2_0q1.symm, rd_any, cellsAt, List.getD_cons_zero, List.getD_cons_succ, Nat.zero_add, Nat.reduceAdd, lv_bool, lv_int, allLive, Bool.and_true, hlv']
  repeat (with_reducible refine And.intro ?_ ?_; · first | trivial | omega | (intro hg; simp only [Bool.and_eq_true, Bool.or_eq_true, Bool.not_eq_true', Bool.and_eq_false_iff, Bool.or_eq_false_iff, Bool.not_eq_false', decide_eq_true_eq, decide_eq_false_iff_not, eqNil] at hg; omega) )
  refine aOps_callV (V := decA y) (by rfl) (by rfl) ((c_ofN w₀ _ neg' v' bs' sc' (hb'.mono (by repeat (first | exact Sub.refl _ | refine Sub.trans_set ?_ (by assumption)))) hl').val (by rw [hy])) ?_
  refine aOps_alloc ze27 (cs := [.bool false, .str [], .int .i64 0]) (by rfl) fun k2q2 hk2q2 => ?_
  have ne_2q2_0q0 : k2q2 ≠ k0q0 := by simp only [AHeap.set_none] at hk2q2; simp only [hk2q2, ne_eq, not_false_eq_true]
  have ne_2q2_0q1 : k2q2 ≠ k0q1 := by simp only [AHeap.set_none] at hk2q2; simp only [hk2q2, ne_eq, not_false_eq_true]
  have ne_2q2_0q2 : k2q2 ≠ k0q2 := by simp only [AHeap.set_none] at hk2q2; simp only [hk2q2, ne_eq, not_false_eq_true]
  have ne_2q2_1q2 : k2q2 ≠ k1q2 := by simp only [AHeap.set_none] at hk2q2; simp only [hk2q2, ne_eq, not_false_eq_true]
  try have hf_2q2 : h k2q2 = none := by first | assumption | (simp only [AHeap.set_none] at hk2q2; simp only [hk2q2])
  refine aOps_store (by rfl) (by rfl) (by repeat (first | exact AHeap.set_same _ _ _ | assumption | refine (AHeap.set_ne _ _ (by first | assumption | exact Ne.symm (by assumption))).trans ?_)) sz27 (by rfl) (by rfl) (by first | exact Nat.le_refl _ | decide | (simp; done) | (simp; omega)) (Nat.zero_le _) (by rfl) ?_
  simp only [AHeap.set_set, AVal.cells]
  simp (decide := true) only [aOps_nil, ev, putD, Slots.put, Slots.get, Slots.keep, if_true, if_false, setAt, List.set_cons_zero, List.set_cons_succ, Nat.zero_add, Nat.reduceAdd, decA]
  repeat (with_reducible refine And.intro ?_ ?_; · first | trivial | omega | (intro hg; simp only [Bool.and_eq_true, Bool.or_eq_true, Bool.not_eq_true', Bool.and_eq_false_iff, Bool.or_eq_false_iff, Bool.not_eq_false', decide_eq_true_eq, decide_eq_false_iff_not, eqNil] at hg; omega) )
  apply hK; clear hK K
  -- region 3  law.go:276
  refine awp_rseq [7, 8, 9] (by rfl) fun K hK => ?_
  simp (decide := true) only [ev, putD, Slots.put, Slots.get, if_true, if_false, true_and, ↓ap_loadL, apL_mk, pLoad_agg ag24 sz24, rd_ne', ne_eq, not_false_eq_true, ne_1q2_0q2.symm, ne_2q2_0q2.symm, rd_any, cellsAt, List.getD_cons_zero, List.getD_cons_succ, Nat.zero_add, Nat.reduceAdd, lv_bool, lv_int, allLive, Bool.and_true, hlv'']
  repeat (with_reducible refine And.intro ?_ ?_; · first | trivial | omega | (intro hg; simp only [Bool.and_eq_true, Bool.or_eq_true, Bool.not_eq_true', Bool.and_eq_false_iff, Bool.or_eq_false_iff, Bool.not_eq_false', decide_eq_true_eq, decide_eq_false_iff_not, eqNil] at hg; omega) )
  refine aOps_callV (V := decA z) (by rfl) (by rfl) ((c_ofN w₀ _ neg'' v'' bs'' sc'' (hb''.mono (by repeat (first | exact Sub.refl _ | refine Sub.trans_set ?_ (by assumption)))) hl'').val (by rw [hz])) ?_
  refine aOps_alloc ze27 (cs := [.bool false, .str [], .int .i64 0]) (by rfl) fun k3q2 hk3q2 => ?_
  have ne_3q2_0q0 : k3q2 ≠ k0q0 := by simp only [AHeap.set_none] at hk3q2; simp only [hk3q2, ne_eq, not_false_eq_true]
  have ne_3q2_0q1 : k3q2 ≠ k0q1 := by simp only [AHeap.set_none] at hk3q2; simp only [hk3q2, ne_eq, not_false_eq_true]
  have ne_3q2_0q2 : k3q2 ≠ k0q2 := by simp only [AHeap.set_none] at hk3q2; simp only [hk3q2, ne_eq, not_false_eq_true]
  have ne_3q2_1q2 : k3q2 ≠ k1q2 := by simp only [AHeap.set_none] at hk3q2; simp only [hk3q2, ne_eq, not_false_eq_true]
  have ne_3q2_2q2 : k3q2 ≠ k2q2 := by simp only [AHeap.set_none] at hk3q2; simp only [hk3q2, ne_eq, not_false_eq_true]
  try have hf_3q2 : h k3q2 = none := by first | assumption | (simp only [AHeap.set_none] at hk3q2; simp only [hk3q2])
  refine aOps_store (by rfl) (by rfl) (by repeat (first | exact AHeap.set_same _ _ _ | assumption | refine (AHeap.set_ne _ _ (by first | assumption | exact Ne.symm (by assumption))).trans ?_)) sz27 (by rfl) (by rfl) (by first | exact Nat.le_refl _ | decide | (simp; done) | (simp; omega)) (Nat.zero_le _) (by rfl) ?_
  simp only [AHeap.set_set, AVal.cells]
  simp (decide := true) only [aOps_nil, ev, putD, Slots.put, Slots.get, Slots.keep, if_true, if_false, setAt, List.set_cons_zero, List.set_cons_succ, Nat.zero_add, Nat.reduceAdd, decA]
  repeat (with_reducible refine And.intro ?_ ?_; · first | trivial | omega | (intro hg; simp only [Bool.and_eq_true, Bool.or_eq_true, Bool.not_eq_true', Bool.and_eq_false_iff, Bool.or_eq_false_iff, Bool.not_eq_false', decide_eq_true_eq, decide_eq_false_iff_not, eqNil] at hg; omega) )
  apply hK; clear hK K
  -- region 4  law.go:277
  refine awp_rseq [7, 8, 9, 10, 11] (by rfl) fun K hK => ?_
  simp (decide := true) only [ev, putD, Slots.put, Slots.get, if_true, if_false, true_and, ↓ap_loadL, apL_mk, pLoad_agg ag27 sz27, rd_ne', ne_eq, not_false_eq_true, ne_2q2_1q2.symm, ne_3q2_1q2.symm, ne_3q2_2q2.symm, rd_any, cellsAt, List.getD_cons_zero, List.getD_cons_succ, Nat.zero_add, Nat.reduceAdd, lv_bool, lv_int, lv_str, allLive, Bool.and_true]
  repeat (with_reducible refine And.intro ?_ ?_; · first | trivial | omega | (intro hg; simp only [Bool.and_eq_true, Bool.or_eq_true, Bool.not_eq_true', Bool.and_eq_false_iff, Bool.or_eq_false_iff, Bool.not_eq_false', decide_eq_true_eq, decide_eq_false_iff_not, eqNil] at hg; omega) )
  refine aOps_callV (V := .tuple [decA p, .int .i64 e]) (by rfl) (by rfl) ((c_Mul w₀ _ x y (check_len xv) (check_len yv)).val (by rw [hp])) ?_
  simp (decide := true) only [ev, putD, Slots.put, Slots.get, if_true, if_false, true_and, ↓ap_move, pop_move, ↓ap_extract, pop_extract, pExt_tuple, List.length_cons, List.length_nil, List.getD_cons_zero, List.getD_cons_succ, List.getD_cons_zero, List.getD_cons_succ, Nat.zero_add, Nat.reduceAdd, decA]
  repeat (with_reducible refine And.intro ?_ ?_; · first | trivial | omega | (intro hg; simp only [Bool.and_eq_true, Bool.or_eq_true, Bool.not_eq_true', Bool.and_eq_false_iff, Bool.or_eq_false_iff, Bool.not_eq_false', decide_eq_true_eq, decide_eq_false_iff_not, eqNil] at hg; omega) )
  refine aOps_alloc ze27 (cs := [.bool false, .str [], .int .i64 0]) (by rfl) fun k4q6 hk4q6 => ?_
  have ne_4q6_0q0 : k4q6 ≠ k0q0 := by simp only [AHeap.set_none] at hk4q6; simp only [hk4q6, ne_eq, not_false_eq_true]
  have ne_4q6_0q1 : k4q6 ≠ k0q1 := by simp only [AHeap.set_none] at hk4q6; simp only [hk4q6, ne_eq, not_false_eq_true]
  have ne_4q6_0q2 : k4q6 ≠ k0q2 := by simp only [AHeap.set_none] at hk4q6; simp only [hk4q6, ne_eq, not_false_eq_true]
  have ne_4q6_1q2 : k4q6 ≠ k1q2 := by simp only [AHeap.set_none] at hk4q6; simp only [hk4q6, ne_eq, not_false_eq_true]
  have ne_4q6_2q2 : k4q6 ≠ k2q2 := by simp only [AHeap.set_none] at hk4q6; simp only [hk4q6, ne_eq, not_false_eq_true]
  have ne_4q6_3q2 : k4q6 ≠ k3q2 := by simp only [AHeap.set_none] at hk4q6; simp only [hk4q6, ne_eq, not_false_eq_true]
  try have hf_4q6 : h k4q6 = none := by first | assumption | (simp only [AHeap.set_none] at hk4q6; simp only [hk4q6])
  refine aOps_store (by rfl) (by rfl) (by repeat (first | exact AHeap.set_same _ _ _ | assumption | refine (AHeap.set_ne _ _ (by first | assumption | exact Ne.symm (by assumption))).trans ?_)) sz27 (by rfl) (by rfl) (by first | exact Nat.le_refl _ | decide | (simp; done) | (simp; omega)) (Nat.zero_le _) (by rfl) ?_
  simp only [AHeap.set_set, AVal.cells]
  simp (decide := true) only [aOps_nil, ev, putD, Slots.put, Slots.get, Slots.keep, if_true, if_false, true_and, ↓ap_assign, pop_assign, setAt, List.set_cons_zero, List.set_cons_succ, Nat.zero_add, Nat.reduceAdd]
  repeat (with_reducible refine And.intro ?_ ?_; · first | trivial | omega | (intro hg; simp only [Bool.and_eq_true, Bool.or_eq_true, Bool.not_eq_true', Bool.and_eq_false_iff, Bool.or_eq_false_iff, Bool.not_eq_false', decide_eq_true_eq, decide_eq_false_iff_not, eqNil] at hg; omega) )
  apply hK; clear hK K
  -- region 5  law.go:278
  refine awp_rseq [7, 8, 9, 10, 11, 12, 13] (by rfl) fun K hK => ?_
  simp (decide := true) only [ev, putD, Slots.put, Slots.get, if_true, if_false, true_and, ↓ap_loadL, apL_mk, pLoad_agg ag27 sz27, rd_ne', ne_eq, not_false_eq_true, ne_2q2_1q2.symm, ne_3q2_1q2.symm, ne_3q2_2q2.symm, ne_4q6_1q2.symm, ne_4q6_2q2.symm, rd_any, cellsAt, List.getD_cons_zero, List.getD_cons_succ, Nat.zero_add, Nat.reduceAdd, lv_bool, lv_int, lv_str, allLive, Bool.and_true]
  repeat (with_reducible refine And.intro ?_ ?_; · first | trivial | omega | (intro hg; simp only [Bool.and_eq_true, Bool.or_eq_true, Bool.not_eq_true', Bool.and_eq_false_iff, Bool.or_eq_false_iff, Bool.not_eq_false', decide_eq_true_eq, decide_eq_false_iff_not, eqNil] at hg; omega) )
  refine aOps_callV (V := .tuple [decA p, .int .i64 e]) (by rfl) (by rfl) ((c_Mul w₀ _ y x (check_len yv) (check_len xv)).val (by rw [mul_swap xv yv, hp])) ?_
  simp (decide := true) only [ev, putD, Slots.put, Slots.get, if_true, if_false, true_and, ↓ap_move, pop_move, ↓ap_extract, pop_extract, pExt_tuple, List.length_cons, List.length_nil, List.getD_cons_zero, List.getD_cons_succ, List.getD_cons_zero, List.getD_cons_succ, Nat.zero_add, Nat.reduceAdd, decA]
  repeat (with_reducible refine And.intro ?_ ?_; · first | trivial | omega | (intro hg; simp only [Bool.and_eq_true, Bool.or_eq_true, Bool.not_eq_true', Bool.and_eq_false_iff, Bool.or_eq_false_iff, Bool.not_eq_false', decide_eq_true_eq, decide_eq_false_iff_not, eqNil] at hg; omega) )
  refine aOps_alloc ze27 (cs := [.bool false, .str [], .int .i64 0]) (by rfl) fun k5q6 hk5q6 => ?_
  have ne_5q6_0q0 : k5q6 ≠ k0q0 := by simp only [AHeap.set_none] at hk5q6; simp only [hk5q6, ne_eq, not_false_eq_true]
  have ne_5q6_0q1 : k5q6 ≠ k0q1 := by simp only [AHeap.set_none] at hk5q6; simp only [hk5q6, ne_eq, not_false_eq_true]
  have ne_5q6_0q2 : k5q6 ≠ k0q2 := by simp only [AHeap.set_none] at hk5q6; simp only [hk5q6, ne_eq, not_false_eq_true]
  have ne_5q6_1q2 : k5q6 ≠ k1q2 := by simp only [AHeap.set_none] at hk5q6; simp only [hk5q6, ne_eq, not_false_eq_true]
  have ne_5q6_2q2 : k5q6 ≠ k2q2 := by simp only [AHeap.set_none] at hk5q6; simp only [hk5q6, ne_eq, not_false_eq_true]
  have ne_5q6_3q2 : k5q6 ≠ k3q2 := by simp only [AHeap.set_none] at hk5q6; simp only [hk5q6, ne_eq, not_false_eq_true]
  have ne_5q6_4q6 : k5q6 ≠ k4q6 := by simp only [AHeap.set_none] at hk5q6; simp only [hk5q6, ne_eq, not_false_eq_true]
  try have hf_5q6 : h k5q6 = none := by first | assumption | (simp only [AHeap.set_none] at hk5q6; simp only [hk5q6])
  refine aOps_store (by rfl) (by rfl) (by repeat (first | exact AHeap.set_same _ _ _ | assumption | refine (AHeap.set_ne _ _ (by first | assumption | exact Ne.symm (by assumption))).trans ?_)) sz27 (by rfl) (by rfl) (by first | exact Nat.le_refl _ | decide | (simp; done) | (simp; omega)) (Nat.zero_le _) (by rfl) ?_
  simp only [AHeap.set_set, AVal.cells]
  simp (decide := true) only [aOps_nil, ev, putD, Slots.put, Slots.get, Slots.keep, if_true, if_false, true_and, ↓ap_assign, pop_assign, setAt, List.set_cons_zero, List.set_cons_succ, Nat.zero_add, Nat.reduceAdd]
  repeat (with_reducible refine And.intro ?_ ?_; · first | trivial | omega | (intro hg; simp only [Bool.and_eq_true, Bool.or_eq_true, Bool.not_eq_true', Bool.and_eq_false_iff, Bool.or_eq_false_iff, Bool.not_eq_false', decide_eq_true_eq, decide_eq_false_iff_not, eqNil] at hg; omega) )
  apply hK; clear hK K
  refine awp_seq ?_
  -- region 6  law.go:279
  refine awp_dseq_H [0, 1, 2, 3, 4, 5, 6, 7, 8, 9, 10, 11, 12, 13, 15, 16, 17, 20, 21, 22, 23, 24, 14, 18, 19, 25, 26, 27, 28] [none, none, none, none, none, none, none, none, none, none, none, none, none, none, none, none, none, none, none, none, none, none, none, some 22, some 23, some 24, some 25, some 26, some 27] 29 [7, 8, 9, 10, 11, 68] mixed (by kernel_rfl) (by rfl) fun K hK => ?_
  simp only [permL, List.filterMap_cons, List.filterMap_nil, List.getElem?_cons_zero, List.getElem?_cons_succ]
  simp (decide := true) only [aOps_nil, ev, absV, absS, putD, Slots.put, Slots.get, if_true, if_false, true_and, hOps_cons, hOps_nil, Sub_self, ↓ap_loadL, apL_mk, pLoad_agg ag27 sz27, ↓ap_binOp, pop_binOp, isNilC_tmp, cond_false, pBinX_agg, ne27, ↓ap_move, pop_move, ↓ag_move, agP, agQ_some, nthDst, gKnown_bool, guardB_bool_false, implies_true, decide_true, Bool.not_false, Bool.not_true, condV_true, Bool.and_true, ↓ag_binOp, pBinX_int, pI_neq, ↓ap_pick, pop_pick, pPick_bool, pickV_and, ↓ag_loadL, agQL_some, agL_mk, ↓ag_fieldAddr, pop_fieldAddr, fa27_2, pLoad_one ag3, pI_add, rd_ne', ne_eq, not_false_eq_true, ne_2q2_1q2.symm, ne_3q2_1q2.symm, ne_3q2_2q2.symm, ne_4q6_1q2.symm, ne_4q6_2q2.symm, ne_5q6_1q2.symm, ne_5q6_2q2.symm, ne_5q6_4q6.symm, rd_any, cellsAt, List.getD_cons_zero, List.getD_cons_succ, Nat.zero_add, Nat.reduceAdd, lv_bool, lv_int, lv_str, allLive, Bool.and_true, beq_self_eq_true, decide_true, Bool.and_true, Bool.not_true]
  try simp (disch := omega) only [wrap_i64]
  repeat (with_reducible refine And.intro ?_ ?_; · first | trivial | omega | (intro hg; simp only [Bool.and_eq_true, Bool.or_eq_true, Bool.not_eq_true', Bool.and_eq_false_iff, Bool.or_eq_false_iff, Bool.not_eq_false', decide_eq_true_eq, decide_eq_false_iff_not, eqNil] at hg; omega) )
  refine aOps_yes (by rfl) ?_
  refine aOps_call (by rfl) (by rfl) (c_whole w₀ _ x xv x.scale (by omega) (by omega)) fun x6q14 h6q14 hx6q14 => ?_
  obtain ⟨⟨z4, rfl, hz4⟩, hs4⟩ := hx6q14
  have lz4 := hz4.live
  have hr_h6q14 : Sub h h6q14 := Sub.trans (by repeat (first | exact Sub.refl _ | assumption | refine Sub.trans_set ?_ (by assumption))) hs4
  have hs_h6q14 : Sub h h6q14 := hr_h6q14
  have eb_0q0 := hs4 k0q0 _ (by repeat (first | exact AHeap.set_same _ _ _ | assumption | refine (AHeap.set_ne _ _ (by first | assumption | exact Ne.symm (by assumption))).trans ?_))
  have eb_0q1 := hs4 k0q1 _ (by repeat (first | exact AHeap.set_same _ _ _ | assumption | refine (AHeap.set_ne _ _ (by first | assumption | exact Ne.symm (by assumption))).trans ?_))
  have eb_0q2 := hs4 k0q2 _ (by repeat (first | exact AHeap.set_same _ _ _ | assumption | refine (AHeap.set_ne _ _ (by first | assumption | exact Ne.symm (by assumption))).trans ?_))
  have eb_1q2 := hs4 k1q2 _ (by repeat (first | exact AHeap.set_same _ _ _ | assumption | refine (AHeap.set_ne _ _ (by first | assumption | exact Ne.symm (by assumption))).trans ?_))
  have eb_2q2 := hs4 k2q2 _ (by repeat (first | exact AHeap.set_same _ _ _ | assumption | refine (AHeap.set_ne _ _ (by first | assumption | exact Ne.symm (by assumption))).trans ?_))
  have eb_3q2 := hs4 k3q2 _ (by repeat (first | exact AHeap.set_same _ _ _ | assumption | refine (AHeap.set_ne _ _ (by first | assumption | exact Ne.symm (by assumption))).trans ?_))
  have eb_4q6 := hs4 k4q6 _ (by repeat (first | exact AHeap.set_same _ _ _ | assumption | refine (AHeap.set_ne _ _ (by first | assumption | exact Ne.symm (by assumption))).trans ?_))
  have eb_5q6 := hs4 k5q6 _ (by repeat (first | exact AHeap.set_same _ _ _ | assumption | refine (AHeap.set_ne _ _ (by first | assumption | exact Ne.symm (by assumption))).trans ?_))
  rw [aOps_nil]
  refine And.intro (by first | exact Sub.refl _ | assumption | exact Sub.set (by assumption)) ?_
  simp (decide := true) only [putD, Slots.put, if_true, if_false]
  repeat (with_reducible refine And.intro ?_ ?_; · first | trivial | omega | (intro hg; simp only [Bool.and_eq_true, Bool.or_eq_true, Bool.not_eq_true', Bool.and_eq_false_iff, Bool.or_eq_false_iff, Bool.not_eq_false', decide_eq_true_eq, decide_eq_false_iff_not, eqNil] at hg; omega) )
  refine aOps_yes (by rfl) ?_
  refine aOps_call (by rfl) (by rfl) (c_whole w₀ _ y yv y.scale (by omega) (by omega)) fun x6q18 h6q18 hx6q18 => ?_
  obtain ⟨⟨z5, rfl, hz5⟩, hs5⟩ := hx6q18
  have lz5 := hz5.live
  have hr_h6q18 : Sub h6q14 h6q18 := Sub.trans (by repeat (first | exact Sub.refl _ | assumption | refine Sub.trans_set ?_ (by assumption))) hs5
  have hs_h6q18 : Sub h h6q18 := Sub.trans hs_h6q14 hr_h6q18
  replace eb_0q0 := hs5 k0q0 _ (by repeat (first | exact AHeap.set_same _ _ _ | assumption | refine (AHeap.set_ne _ _ (by first | assumption | exact Ne.symm (by assumption))).trans ?_))
  replace eb_0q1 := hs5 k0q1 _ (by repeat (first | exact AHeap.set_same _ _ _ | assumption | refine (AHeap.set_ne _ _ (by first | assumption | exact Ne.symm (by assumption))).trans ?_))
  replace eb_0q2 := hs5 k0q2 _ (by repeat (first | exact AHeap.set_same _ _ _ | assumption | refine (AHeap.set_ne _ _ (by first | assumption | exact Ne.symm (by assumption))).trans ?_))
  replace eb_1q2 := hs5 k1q2 _ (by repeat (first | exact AHeap.set_same _ _ _ | assumption | refine (AHeap.set_ne _ _ (by first | assumption | exact Ne.symm (by assumption))).trans ?_))
  replace eb_2q2 := hs5 k2q2 _ (by repeat (first | exact AHeap.set_same _ _ _ | assumption | refine (AHeap.set_ne _ _ (by first | assumption | exact Ne.symm (by assumption))).trans ?_))
  replace eb_3q2 := hs5 k3q2 _ (by repeat (first | exact AHeap.set_same _ _ _ | assumption | refine (AHeap.set_ne _ _ (by first | assumption | exact Ne.symm (by assumption))).trans ?_))
  replace eb_4q6 := hs5 k4q6 _ (by repeat (first | exact AHeap.set_same _ _ _ | assumption | refine (AHeap.set_ne _ _ (by first | assumption | exact Ne.symm (by assumption))).trans ?_))
  replace eb_5q6 := hs5 k5q6 _ (by repeat (first | exact AHeap.set_same _ _ _ | assumption | refine (AHeap.set_ne _ _ (by first | assumption | exact Ne.symm (by assumption))).trans ?_))
  rw [aOps_nil]
  refine And.intro (by first | exact Sub.refl _ | assumption | exact Sub.set (by assumption)) ?_
  simp (decide := true) only [putD, Slots.put, if_true, if_false]
  repeat (with_reducible refine And.intro ?_ ?_; · first | trivial | omega | (intro hg; simp only [Bool.and_eq_true, Bool.or_eq_true, Bool.not_eq_true', Bool.and_eq_false_iff, Bool.or_eq_false_iff, Bool.not_eq_false', decide_eq_true_eq, decide_eq_false_iff_not, eqNil] at hg; omega) )
  refine aOps_yes (by rfl) ?_
  refine aOps_call (by rfl) (by rfl) (c_mul w₀ _ x.neg y.neg z4 z5 (List.replicate (x.scale - x.scale).toNat 0 ++ digs x.dig) (List.replicate (y.scale - y.scale).toNat 0 ++ digs y.dig) ((hz4.sub hr_h6q18).sub (by repeat (first | exact Sub.refl _ | assumption | refine Sub.trans_set ?_ (by assumption)))) (hz5.sub (by repeat (first | exact Sub.refl _ | assumption | refine Sub.trans_set ?_ (by assumption)))) (whole_digZ xv _) (whole_digZ yv _) (by have := whole_len xv (x.scale - x.scale).toNat; have := whole_len yv (y.scale - y.scale).toNat; omega)) fun x6q19 h6q19 hx6q19 => ?_
  obtain ⟨⟨z6, o6, rfl, hz6, hd6, hv6, hl6⟩, hs6⟩ := hx6q19
  have lz6 := hz6.live
  have hl6' : o6.length ≤ 1000 := by have := whole_len xv (x.scale - x.scale).toNat; have := whole_len yv (y.scale - y.scale).toNat; omega
  have hr_h6q19 : Sub h6q18 h6q19 := Sub.trans (by repeat (first | exact Sub.refl _ | assumption | refine Sub.trans_set ?_ (by assumption))) hs6
  have hs_h6q19 : Sub h h6q19 := Sub.trans hs_h6q18 hr_h6q19
  replace eb_0q0 := hs6 k0q0 _ (by repeat (first | exact AHeap.set_same _ _ _ | assumption | refine (AHeap.set_ne _ _ (by first | assumption | exact Ne.symm (by assumption))).trans ?_))
  replace eb_0q1 := hs6 k0q1 _ (by repeat (first | exact AHeap.set_same _ _ _ | assumption | refine (AHeap.set_ne _ _ (by first | assumption | exact Ne.symm (by assumption))).trans ?_))
  replace eb_0q2 := hs6 k0q2 _ (by repeat (first | exact AHeap.set_same _ _ _ | assumption | refine (AHeap.set_ne _ _ (by first | assumption | exact Ne.symm (by assumption))).trans ?_))
  replace eb_1q2 := hs6 k1q2 _ (by repeat (first | exact AHeap.set_same _ _ _ | assumption | refine (AHeap.set_ne _ _ (by first | assumption | exact Ne.symm (by assumption))).trans ?_))
  replace eb_2q2 := hs6 k2q2 _ (by repeat (first | exact AHeap.set_same _ _ _ | assumption | refine (AHeap.set_ne _ _ (by first | assumption | exact Ne.symm (by assumption))).trans ?_))
  replace eb_3q2 := hs6 k3q2 _ (by repeat (first | exact AHeap.set_same _ _ _ | assumption | refine (AHeap.set_ne _ _ (by first | assumption | exact Ne.symm (by assumption))).trans ?_))
  replace eb_4q6 := hs6 k4q6 _ (by repeat (first | exact AHeap.set_same _ _ _ | assumption | refine (AHeap.set_ne _ _ (by first | assumption | exact Ne.symm (by assumption))).trans ?_))
  replace eb_5q6 := hs6 k5q6 _ (by repeat (first | exact AHeap.set_same _ _ _ | assumption | refine (AHeap.set_ne _ _ (by first | assumption | exact Ne.symm (by assumption))).trans ?_))
  rw [aOps_nil]
  refine And.intro (by first | exact Sub.refl _ | assumption | exact Sub.set (by assumption)) ?_
  simp (decide := true) only [putD, Slots.put, if_true, if_false]
  repeat (with_reducible refine And.intro ?_ ?_; · first | trivial | omega | (intro hg; simp only [Bool.and_eq_true, Bool.or_eq_true, Bool.not_eq_true', Bool.and_eq_false_iff, Bool.or_eq_false_iff, Bool.not_eq_false', decide_eq_true_eq, decide_eq_false_iff_not, eqNil] at hg; omega) )
  first
  | (refine aOps_yes (by rfl) ?_; refine aOps_callV (V := decA (canon (x.neg != y.neg) (natOf x.dig * natOf y.dig) (x.scale + y.scale).toNat)) (by rfl) (by rfl) ((c_number12 w₀ _ (x.neg != y.neg) z6 o6 (hz6.sub (by repeat (first | exact Sub.refl _ | assumption | refine Sub.trans_set ?_ (by assumption)))) hd6 (by omega) (x.scale + y.scale) (by omega) (by omega)).val (by rw [hv6, whole_self, whole_self]; congr 2)) ?_)
  | (refine aOps_gcall (V := decA (canon (x.neg != y.neg) (natOf x.dig * natOf y.dig) (x.scale + y.scale).toNat)) (f := _) (cap := _) (xs := _) rfl (fun hg => ⟨rfl, ?_⟩) (fun hg => (c_number12 w₀ _ (x.neg != y.neg) z6 o6 (hz6.sub (by repeat (first | exact Sub.refl _ | assumption | refine Sub.trans_set ?_ (by assumption)))) hd6 (by omega) (x.scale + y.scale) (by omega) (by omega)).val (by rw [hv6, whole_self, whole_self]; congr 2)) ?_; · (simp (decide := true) only [gv, nthDst, Slots.get, if_true, if_false, guardB_bool_true, guardB_bool_false, guardB_cond, Bool.not_not] at hg; simp (decide := true) only [evs, ev, Slots.get, if_true, if_false, hg, condV_true, List.append_nil, List.map_cons, List.map_nil, absV, absS] <;> try rfl))
  rw [aOps_nil]
  refine And.intro (by first | exact Sub.refl _ | assumption | exact Sub.set (by assumption)) ?_
  simp (decide := true) only [putD, Slots.put, if_false, decA]
  repeat (with_reducible refine And.intro ?_ ?_; · first | trivial | omega | (intro hg; simp only [Bool.and_eq_true, Bool.or_eq_true, Bool.not_eq_true', Bool.and_eq_false_iff, Bool.or_eq_false_iff, Bool.not_eq_false', decide_eq_true_eq, decide_eq_false_iff_not, eqNil] at hg; omega) )
  first
  | (refine aOps_yes (by rfl) ?_; refine aOps_callV (V := .bool true) (by rfl) (by rfl) ((c_is w₀ _ p _ e).val (by rw [decide_eq_true (hp.symm.trans pn)])) ?_)
  | (refine aOps_gcall (V := .bool true) (f := _) (cap := _) (xs := _) rfl (fun hg => ⟨rfl, ?_⟩) (fun hg => (c_is w₀ _ p _ e).val (by rw [decide_eq_true (hp.symm.trans pn)])) ?_; · (simp (decide := true) only [gv, nthDst, Slots.get, if_true, if_false, guardB_bool_true, guardB_bool_false, guardB_cond, Bool.not_not] at hg; simp (decide := true) only [evs, ev, Slots.get, if_true, if_false, hg, condV_true, List.append_nil, List.map_cons, List.map_nil, absV, absS] <;> try rfl))
  rw [aOps_nil]
  refine And.intro (by first | exact Sub.refl _ | assumption | exact Sub.set (by assumption)) ?_
  simp (decide := true) only [aOps_nil, ev, putD, Slots.put, Slots.get, Slots.keep, if_true, if_false, true_and, Sub_self, nthDst, guardB_bool_false, ↓ag_unOp, pop_unOp, agP, agQ_some, gKnown_bool, implies_true, Bool.not_false, Bool.not_true, condV_true, Bool.and_true, pU_not, pPick_bool, pickV_and, Bool.and_true, Bool.and_true, Bool.not_true]
  try simp (disch := omega) only [wrap_i64, wrap_u8]
  repeat (with_reducible refine And.intro ?_ ?_; · first | trivial | omega | (intro hg; simp only [Bool.and_eq_true, Bool.or_eq_true, Bool.not_eq_true', Bool.and_eq_false_iff, Bool.or_eq_false_iff, Bool.not_eq_false', decide_eq_true_eq, decide_eq_false_iff_not, eqNil] at hg; omega) )
  apply hK; clear hK K
  refine awp_cond (b := _) rfl (fun hb1 => ?_) (fun hb1 => ?_)
  · exact absurd hb1 (by decide)
  · try simp only at hb1
    refine awp_skip ?_
    change Awp _ _ _ _ _ _ _
    -- region 8  law.go:282
    refine awp_rseq [7, 9, 10, 11, 14, 15] (by rfl) fun K hK => ?_
    simp (decide := true) only [ev, putD, Slots.put, Slots.get, if_true, if_false, true_and, ↓ap_loadL, apL_mk, pLoad_agg ag27 sz27, rd_own w₀ eb_2q2, rd_own w₀ eb_3q2, cellsAt, List.getD_cons_zero, List.getD_cons_succ, Nat.zero_add, Nat.reduceAdd, lv_bool, lv_int, lv_str, allLive, Bool.and_true, Bool.and_true]
    repeat (with_reducible refine And.intro ?_ ?_; · first | trivial | omega | (intro hg; simp only [Bool.and_eq_true, Bool.or_eq_true, Bool.not_eq_true', Bool.and_eq_false_iff, Bool.or_eq_false_iff, Bool.not_eq_false', decide_eq_true_eq, decide_eq_false_iff_not, eqNil] at hg; omega) )
    refine aOps_callV (V := .tuple [decA s, .int .i64 g]) (by rfl) (by rfl) ((c_Add w₀ _ y z (check_len yv) (check_len zv)).val (by rw [hs])) ?_
    simp (decide := true) only [ev, putD, Slots.put, Slots.get, if_true, if_false, true_and, ↓ap_move, pop_move, ↓ap_extract, pop_extract, pExt_tuple, List.length_cons, List.length_nil, List.getD_cons_zero, List.getD_cons_succ, List.getD_cons_zero, List.getD_cons_succ, Nat.zero_add, Nat.reduceAdd, decA]
    repeat (with_reducible refine And.intro ?_ ?_; · first | trivial | omega | (intro hg; simp only [Bool.and_eq_true, Bool.or_eq_true, Bool.not_eq_true', Bool.and_eq_false_iff, Bool.or_eq_false_iff, Bool.not_eq_false', decide_eq_true_eq, decide_eq_false_iff_not, eqNil] at hg; omega) )
    refine aOps_alloc ze27 (cs := [.bool false, .str [], .int .i64 0]) (by rfl) fun k8q6 hk8q6 => ?_
    have hn_8q6 : h6q19 k8q6 = none := by first | assumption | (simp only [AHeap.set_none] at hk8q6; simp only [hk8q6])
    have hf_8q6 : h k8q6 = none := Sub.none hs_h6q19 hn_8q6
    have ne_8q6_0q0 : k8q6 ≠ k0q0 := AHeap.ne_some hn_8q6 eb_0q0
    have ne_8q6_0q1 : k8q6 ≠ k0q1 := AHeap.ne_some hn_8q6 eb_0q1
    have ne_8q6_0q2 : k8q6 ≠ k0q2 := AHeap.ne_some hn_8q6 eb_0q2
    have ne_8q6_1q2 : k8q6 ≠ k1q2 := AHeap.ne_some hn_8q6 eb_1q2
    have ne_8q6_2q2 : k8q6 ≠ k2q2 := AHeap.ne_some hn_8q6 eb_2q2
    have ne_8q6_3q2 : k8q6 ≠ k3q2 := AHeap.ne_some hn_8q6 eb_3q2
    have ne_8q6_4q6 : k8q6 ≠ k4q6 := AHeap.ne_some hn_8q6 eb_4q6
    have ne_8q6_5q6 : k8q6 ≠ k5q6 := AHeap.ne_some hn_8q6 eb_5q6
    refine aOps_store (by rfl) (by rfl) (by repeat (first | exact AHeap.set_same _ _ _ | assumption | refine (AHeap.set_ne _ _ (by first | assumption | exact Ne.symm (by assumption))).trans ?_)) sz27 (by rfl) (by rfl) (by first | exact Nat.le_refl _ | decide | (simp; done) | (simp; omega)) (Nat.zero_le _) (by rfl) ?_
    simp only [AHeap.set_set, AVal.cells]
    simp (decide := true) only [aOps_nil, ev, putD, Slots.put, Slots.get, Slots.keep, if_true, if_false, true_and, ↓ap_assign, pop_assign, setAt, List.set_cons_zero, List.set_cons_succ, Nat.zero_add, Nat.reduceAdd]
    repeat (with_reducible refine And.intro ?_ ?_; · first | trivial | omega | (intro hg; simp only [Bool.and_eq_true, Bool.or_eq_true, Bool.not_eq_true', Bool.and_eq_false_iff, Bool.or_eq_false_iff, Bool.not_eq_false', decide_eq_true_eq, decide_eq_false_iff_not, eqNil] at hg; omega) )
    apply hK; clear hK K
    -- region 9  law.go:283
    refine awp_rseq [7, 9, 10, 11, 15, 16, 17] (by rfl) fun K hK => ?_
    simp (decide := true) only [ev, putD, Slots.put, Slots.get, if_true, if_false, true_and, ↓ap_loadL, apL_mk, pLoad_agg ag27 sz27, rd_ne', ne_eq, not_false_eq_true, ne_8q6_1q2.symm, rd_own w₀ eb_1q2, rd_any, cellsAt, List.getD_cons_zero, List.getD_cons_succ, Nat.zero_add, Nat.reduceAdd, lv_bool, lv_int, lv_str, allLive, Bool.and_true, Bool.and_true]
    repeat (with_reducible refine And.intro ?_ ?_; · first | trivial | omega | (intro hg; simp only [Bool.and_eq_true, Bool.or_eq_true, Bool.not_eq_true', Bool.and_eq_false_iff, Bool.or_eq_false_iff, Bool.not_eq_false', decide_eq_true_eq, decide_eq_false_iff_not, eqNil] at hg; omega) )
    refine aOps_callV (V := .tuple [decA l, .int .i64 i]) (by rfl) (by rfl) ((c_Mul w₀ _ x s (check_len xv) sl).val (by rw [hm])) ?_
    simp (decide := true) only [ev, putD, Slots.put, Slots.get, if_true, if_false, true_and, ↓ap_move, pop_move, ↓ap_extract, pop_extract, pExt_tuple, List.length_cons, List.length_nil, List.getD_cons_zero, List.getD_cons_succ, List.getD_cons_zero, List.getD_cons_succ, Nat.zero_add, Nat.reduceAdd, decA]
    repeat (with_reducible refine And.intro ?_ ?_; · first | trivial | omega | (intro hg; simp only [Bool.and_eq_true, Bool.or_eq_true, Bool.not_eq_true', Bool.and_eq_false_iff, Bool.or_eq_false_iff, Bool.not_eq_false', decide_eq_true_eq, decide_eq_false_iff_not, eqNil] at hg; omega) )
    refine aOps_alloc ze27 (cs := [.bool false, .str [], .int .i64 0]) (by rfl) fun k9q6 hk9q6 => ?_
    have ne_9q6_8q6 : k9q6 ≠ k8q6 := by simp only [AHeap.set_none] at hk9q6; simp only [hk9q6, ne_eq, not_false_eq_true]
    have hn_9q6 : h6q19 k9q6 = none := by first | assumption | (simp only [AHeap.set_none] at hk9q6; simp only [hk9q6])
    have hf_9q6 : h k9q6 = none := Sub.none hs_h6q19 hn_9q6
    have ne_9q6_0q0 : k9q6 ≠ k0q0 := AHeap.ne_some hn_9q6 eb_0q0
    have ne_9q6_0q1 : k9q6 ≠ k0q1 := AHeap.ne_some hn_9q6 eb_0q1
    have ne_9q6_0q2 : k9q6 ≠ k0q2 := AHeap.ne_some hn_9q6 eb_0q2
    have ne_9q6_1q2 : k9q6 ≠ k1q2 := AHeap.ne_some hn_9q6 eb_1q2
    have ne_9q6_2q2 : k9q6 ≠ k2q2 := AHeap.ne_some hn_9q6 eb_2q2
    have ne_9q6_3q2 : k9q6 ≠ k3q2 := AHeap.ne_some hn_9q6 eb_3q2
    have ne_9q6_4q6 : k9q6 ≠ k4q6 := AHeap.ne_some hn_9q6 eb_4q6
    have ne_9q6_5q6 : k9q6 ≠ k5q6 := AHeap.ne_some hn_9q6 eb_5q6
    refine aOps_store (by rfl) (by rfl) (by repeat (first | exact AHeap.set_same _ _ _ | assumption | refine (AHeap.set_ne _ _ (by first | assumption | exact Ne.symm (by assumption))).trans ?_)) sz27 (by rfl) (by rfl) (by first | exact Nat.le_refl _ | decide | (simp; done) | (simp; omega)) (Nat.zero_le _) (by rfl) ?_
    simp only [AHeap.set_set, AVal.cells]
    simp (decide := true) only [aOps_nil, ev, putD, Slots.put, Slots.get, Slots.keep, if_true, if_false, true_and, ↓ap_assign, pop_assign, setAt, List.set_cons_zero, List.set_cons_succ, Nat.zero_add, Nat.reduceAdd]
    repeat (with_reducible refine And.intro ?_ ?_; · first | trivial | omega | (intro hg; simp only [Bool.and_eq_true, Bool.or_eq_true, Bool.not_eq_true', Bool.and_eq_false_iff, Bool.or_eq_false_iff, Bool.not_eq_false', decide_eq_true_eq, decide_eq_false_iff_not, eqNil] at hg; omega) )
    apply hK; clear hK K
    -- region 10  law.go:284
    refine awp_rseq [10, 11, 15, 16, 17, 18, 19] (by rfl) fun K hK => ?_
    simp (decide := true) only [ev, putD, Slots.put, Slots.get, if_true, if_false, true_and, ↓ap_loadL, apL_mk, pLoad_agg ag27 sz27, rd_ne', ne_eq, not_false_eq_true, ne_8q6_1q2.symm, ne_8q6_3q2.symm, ne_9q6_1q2.symm, ne_9q6_3q2.symm, rd_own w₀ eb_1q2, rd_own w₀ eb_3q2, cellsAt, List.getD_cons_zero, List.getD_cons_succ, Nat.zero_add, Nat.reduceAdd, lv_bool, lv_int, lv_str, allLive, Bool.and_true, Bool.and_true]
    repeat (with_reducible refine And.intro ?_ ?_; · first | trivial | omega | (intro hg; simp only [Bool.and_eq_true, Bool.or_eq_true, Bool.not_eq_true', Bool.and_eq_false_iff, Bool.or_eq_false_iff, Bool.not_eq_false', decide_eq_true_eq, decide_eq_false_iff_not, eqNil] at hg; omega) )
    refine aOps_callV (V := .tuple [decA r, .int .i64 j]) (by rfl) (by rfl) ((c_Mul w₀ _ x z (check_len xv) (check_len zv)).val (by rw [hr])) ?_
    simp (decide := true) only [ev, putD, Slots.put, Slots.get, if_true, if_false, true_and, ↓ap_move, pop_move, ↓ap_extract, pop_extract, pExt_tuple, List.length_cons, List.length_nil, List.getD_cons_zero, List.getD_cons_succ, List.getD_cons_zero, List.getD_cons_succ, Nat.zero_add, Nat.reduceAdd, decA]
    repeat (with_reducible refine And.intro ?_ ?_; · first | trivial | omega | (intro hg; simp only [Bool.and_eq_true, Bool.or_eq_true, Bool.not_eq_true', Bool.and_eq_false_iff, Bool.or_eq_false_iff, Bool.not_eq_false', decide_eq_true_eq, decide_eq_false_iff_not, eqNil] at hg; omega) )
    refine aOps_alloc ze27 (cs := [.bool false, .str [], .int .i64 0]) (by rfl) fun k10q6 hk10q6 => ?_
    have ne_10q6_8q6 : k10q6 ≠ k8q6 := by simp only [AHeap.set_none] at hk10q6; simp only [hk10q6, ne_eq, not_false_eq_true]
    have ne_10q6_9q6 : k10q6 ≠ k9q6 := by simp only [AHeap.set_none] at hk10q6; simp only [hk10q6, ne_eq, not_false_eq_true]
    have hn_10q6 : h6q19 k10q6 = none := by first | assumption | (simp only [AHeap.set_none] at hk10q6; simp only [hk10q6])
    have hf_10q6 : h k10q6 = none := Sub.none hs_h6q19 hn_10q6
    have ne_10q6_0q0 : k10q6 ≠ k0q0 := AHeap.ne_some hn_10q6 eb_0q0
    have ne_10q6_0q1 : k10q6 ≠ k0q1 := AHeap.ne_some hn_10q6 eb_0q1
    have ne_10q6_0q2 : k10q6 ≠ k0q2 := AHeap.ne_some hn_10q6 eb_0q2
    have ne_10q6_1q2 : k10q6 ≠ k1q2 := AHeap.ne_some hn_10q6 eb_1q2
    have ne_10q6_2q2 : k10q6 ≠ k2q2 := AHeap.ne_some hn_10q6 eb_2q2
    have ne_10q6_3q2 : k10q6 ≠ k3q2 := AHeap.ne_some hn_10q6 eb_3q2
    have ne_10q6_4q6 : k10q6 ≠ k4q6 := AHeap.ne_some hn_10q6 eb_4q6
    have ne_10q6_5q6 : k10q6 ≠ k5q6 := AHeap.ne_some hn_10q6 eb_5q6
    refine aOps_store (by rfl) (by rfl) (by repeat (first | exact AHeap.set_same _ _ _ | assumption | refine (AHeap.set_ne _ _ (by first | assumption | exact Ne.symm (by assumption))).trans ?_)) sz27 (by rfl) (by rfl) (by first | exact Nat.le_refl _ | decide | (simp; done) | (simp; omega)) (Nat.zero_le _) (by rfl) ?_
    simp only [AHeap.set_set, AVal.cells]
    simp (decide := true) only [aOps_nil, ev, putD, Slots.put, Slots.get, Slots.keep, if_true, if_false, true_and, ↓ap_assign, pop_assign, setAt, List.set_cons_zero, List.set_cons_succ, Nat.zero_add, Nat.reduceAdd]
    repeat (with_reducible refine And.intro ?_ ?_; · first | trivial | omega | (intro hg; simp only [Bool.and_eq_true, Bool.or_eq_true, Bool.not_eq_true', Bool.and_eq_false_iff, Bool.or_eq_false_iff, Bool.not_eq_false', decide_eq_true_eq, decide_eq_false_iff_not, eqNil] at hg; omega) )
    apply hK; clear hK K
    refine awp_seq ?_
    -- region 11  law.go:285
    refine awp_rseq [10, 16, 18, 100] (by rfl) fun K hK => ?_
    simp (decide := true) only [aOps_nil, ev, absV, absS, putD, Slots.put, Slots.get, Slots.keep, if_true, if_false, true_and, ↓ap_move, pop_move, ↓ap_binOp, pop_binOp, isNilC_int, cond_false, pBinX_int, pI_neq, ↓ag_move, agP, agQ_some, nthDst, gKnown_bool, guardB_bool_false, implies_true, Bool.not_not, ↓ag_binOp, cv_binl, cp_binl, ↓ap_pick, pop_pick, pPick_bool, pickV_cond_r, pickV_cond_rn, pickV_or]
    repeat (with_reducible refine And.intro ?_ ?_; · first | trivial | omega | (intro hg; simp only [Bool.and_eq_true, Bool.or_eq_true, Bool.not_eq_true', Bool.and_eq_false_iff, Bool.or_eq_false_iff, Bool.not_eq_false', decide_eq_true_eq, decide_eq_false_iff_not, eqNil] at hg; omega) )
    apply hK; clear hK K
    refine awp_cond (b := _) rfl (fun hb2 => ?_) (fun hb2 => ?_)
    · try simp only [decide_eq_false_iff_not, Bool.not_eq_true', Bool.or_eq_true] at hb2
      -- region 12  law.go:286
      refine awp_rseq [6] (by rfl) fun K hK => ?_
      refine aOps_callV (V := .bool true) (by rfl) (by rfl) (c_lives12 w₀ ht he _) ?_
      simp (decide := true) only [aOps_nil, ev, putD, Slots.put, Slots.get, Slots.keep, if_true, if_false, true_and, ↓ap_assign, pop_assign]
      repeat (with_reducible refine And.intro ?_ ?_; · first | trivial | omega | (intro hg; simp only [Bool.and_eq_true, Bool.or_eq_true, Bool.not_eq_true', Bool.and_eq_false_iff, Bool.or_eq_false_iff, Bool.not_eq_false', decide_eq_true_eq, decide_eq_false_iff_not, eqNil] at hg; omega) )
      apply hK; clear hK K
      refine awp_ret ?_
      try simp only [thenA_ret]
      refine retA_ret h (by repeat (first | exact Sub.refl _ | assumption | refine Sub.trans_set ?_ (by assumption))) (resPre_tmp (resPre_nil)) ?_
      simp (decide := true) only [Slots.get, if_true, and_true, resOf_one]
      all_goals first | rfl | exact ⟨rfl, rfl⟩ | (simp (decide := true) only [if_true, if_false, *]; done) | (trace_state; fail)
    · try simp only [decide_eq_true_eq, Bool.not_eq_false', Bool.or_eq_false_iff] at hb2
      obtain ⟨k0, rfl⟩ := hend () (by omega) (by omega) (by omega) (by omega)
      subst k0
      refine awp_skip ?_
      change Awp _ _ _ _ _ _ _
      -- region 13  law.go:288
      refine awp_rseq [16, 20, 21] (by rfl) fun K hK => ?_
      simp (decide := true) only [ev, putD, Slots.put, Slots.get, if_true, if_false, true_and, ↓ap_loadL, apL_mk, pLoad_agg ag27 sz27, rd_ne', ne_eq, not_false_eq_true, ne_8q6_4q6.symm, ne_9q6_4q6.symm, ne_10q6_4q6.symm, rd_own w₀ eb_4q6, rd_any, cellsAt, List.getD_cons_zero, List.getD_cons_succ, Nat.zero_add, Nat.reduceAdd, lv_bool, lv_int, lv_str, allLive, Bool.and_true, Bool.and_true]
      repeat (with_reducible refine And.intro ?_ ?_; · first | trivial | omega | (intro hg; simp only [Bool.and_eq_true, Bool.or_eq_true, Bool.not_eq_true', Bool.and_eq_false_iff, Bool.or_eq_false_iff, Bool.not_eq_false', decide_eq_true_eq, decide_eq_false_iff_not, eqNil] at hg; omega) )
      refine aOps_callV (V := .tuple [decA t, .int .i64 0]) (by rfl) (by rfl) ((c_Add w₀ _ p r pl rl).val (by rw [ht'])) ?_
      simp (decide := true) only [ev, putD, Slots.put, Slots.get, if_true, if_false, true_and, ↓ap_move, pop_move, ↓ap_extract, pop_extract, pExt_tuple, List.length_cons, List.length_nil, List.getD_cons_zero, List.getD_cons_succ, List.getD_cons_zero, List.getD_cons_succ, Nat.zero_add, Nat.reduceAdd, decA]
      repeat (with_reducible refine And.intro ?_ ?_; · first | trivial | omega | (intro hg; simp only [Bool.and_eq_true, Bool.or_eq_true, Bool.not_eq_true', Bool.and_eq_false_iff, Bool.or_eq_false_iff, Bool.not_eq_false', decide_eq_true_eq, decide_eq_false_iff_not, eqNil] at hg; omega) )
      refine aOps_alloc ze27 (cs := [.bool false, .str [], .int .i64 0]) (by rfl) fun k13q6 hk13q6 => ?_
      have ne_13q6_8q6 : k13q6 ≠ k8q6 := by simp only [AHeap.set_none] at hk13q6; simp only [hk13q6, ne_eq, not_false_eq_true]
      have ne_13q6_9q6 : k13q6 ≠ k9q6 := by simp only [AHeap.set_none] at hk13q6; simp only [hk13q6, ne_eq, not_false_eq_true]
      have ne_13q6_10q6 : k13q6 ≠ k10q6 := by simp only [AHeap.set_none] at hk13q6; simp only [hk13q6, ne_eq, not_false_eq_true]
      have hn_13q6 : h6q19 k13q6 = none := by first | assumption | (simp only [AHeap.set_none] at hk13q6; simp only [hk13q6])
      have hf_13q6 : h k13q6 = none := Sub.none hs_h6q19 hn_13q6
      have ne_13q6_0q0 : k13q6 ≠ k0q0 := AHeap.ne_some hn_13q6 eb_0q0
      have ne_13q6_0q1 : k13q6 ≠ k0q1 := AHeap.ne_some hn_13q6 eb_0q1
      have ne_13q6_0q2 : k13q6 ≠ k0q2 := AHeap.ne_some hn_13q6 eb_0q2
      have ne_13q6_1q2 : k13q6 ≠ k1q2 := AHeap.ne_some hn_13q6 eb_1q2
      have ne_13q6_2q2 : k13q6 ≠ k2q2 := AHeap.ne_some hn_13q6 eb_2q2
      have ne_13q6_3q2 : k13q6 ≠ k3q2 := AHeap.ne_some hn_13q6 eb_3q2
      have ne_13q6_4q6 : k13q6 ≠ k4q6 := AHeap.ne_some hn_13q6 eb_4q6
      have ne_13q6_5q6 : k13q6 ≠ k5q6 := AHeap.ne_some hn_13q6 eb_5q6
      refine aOps_store (by rfl) (by rfl) (by repeat (first | exact AHeap.set_same _ _ _ | assumption | refine (AHeap.set_ne _ _ (by first | assumption | exact Ne.symm (by assumption))).trans ?_)) sz27 (by rfl) (by rfl) (by first | exact Nat.le_refl _ | decide | (simp; done) | (simp; omega)) (Nat.zero_le _) (by rfl) ?_
      simp only [AHeap.set_set, AVal.cells]
      simp (decide := true) only [aOps_nil, ev, putD, Slots.put, Slots.get, Slots.keep, if_true, if_false, true_and, ↓ap_assign, pop_assign, setAt, List.set_cons_zero, List.set_cons_succ, Nat.zero_add, Nat.reduceAdd]
      repeat (with_reducible refine And.intro ?_ ?_; · first | trivial | omega | (intro hg; simp only [Bool.and_eq_true, Bool.or_eq_true, Bool.not_eq_true', Bool.and_eq_false_iff, Bool.or_eq_false_iff, Bool.not_eq_false', decide_eq_true_eq, decide_eq_false_iff_not, eqNil] at hg; omega) )
      apply hK; clear hK K
      -- region 14  law.go:289
      refine awp_rseq [6] (by rfl) fun K hK => ?_
      simp (decide := true) only [ev, absV, absS, putD, Slots.put, Slots.get, if_true, if_false, true_and, ↓ap_move, pop_move, ↓ap_binOp, pop_binOp, isNilC_int, cond_false, pBinX_int, pI_eql, ↓ag_loadL, agQL_some, agL_mk, agP, agQ_some, nthDst, gKnown_bool, guardB_bool_true, implies_true, decide_true, condV_true, Bool.and_true, pLoad_agg ag27 sz27, ↓ag_binOp, isNilC_tmp, pBinX_agg, eq27, ↓ap_pick, pop_pick, pPick_bool, pickV_and, rd_ne', ne_eq, not_false_eq_true, ne_10q6_9q6.symm, ne_13q6_9q6.symm, rd_any, cellsAt, List.getD_cons_zero, List.getD_cons_succ, Nat.zero_add, Nat.reduceAdd, lv_bool, lv_int, lv_str, allLive, Bool.and_true, beq_self_eq_true, decide_true, Bool.and_true]
      repeat (with_reducible refine And.intro ?_ ?_; · first | trivial | omega | (intro hg; simp only [Bool.and_eq_true, Bool.or_eq_true, Bool.not_eq_true', Bool.and_eq_false_iff, Bool.or_eq_false_iff, Bool.not_eq_false', decide_eq_true_eq, decide_eq_false_iff_not, eqNil] at hg; omega) )
      first
      | (refine aOps_yes (by rfl) ?_; refine aOps_callV (V := .bool true) (by rfl) (by rfl) (c_lives12 w₀ ht he _) ?_)
      | (refine aOps_gcall (V := .bool true) (f := _) (cap := _) (xs := _) rfl (fun hg => ⟨rfl, ?_⟩) (fun hg => c_lives12 w₀ ht he _) ?_; · (simp (decide := true) only [gv, nthDst, Slots.get, if_true, if_false, guardB_bool_true, guardB_bool_false, guardB_cond, Bool.not_not] at hg; simp (decide := true) only [evs, ev, Slots.get, if_true, if_false, hg, condV_true, List.append_nil, List.map_cons, List.map_nil, absV, absS] <;> try rfl))
      simp (decide := true) only [aOps_nil, ev, absV, absS, putD, Slots.put, Slots.get, Slots.keep, if_true, if_false, true_and, ↓ap_pick, pop_pick, pPick_bool, pickV_and, ↓ap_assign, pop_assign, Bool.and_true, Bool.and_true]
      repeat (with_reducible refine And.intro ?_ ?_; · first | trivial | omega | (intro hg; simp only [Bool.and_eq_true, Bool.or_eq_true, Bool.not_eq_true', Bool.and_eq_false_iff, Bool.or_eq_false_iff, Bool.not_eq_false', decide_eq_true_eq, decide_eq_false_iff_not, eqNil] at hg; omega) )
      apply hK; clear hK K
      refine awp_ret ?_
      try simp only [thenA_ret, inBlockA_ret]
      refine retA_ret h (by repeat (first | exact Sub.refl _ | assumption | refine Sub.trans_set ?_ (by assumption))) (resPre_tmp (resPre_nil)) ?_
      simp (decide := true) only [Slots.get, if_true, and_true, resOf_one]
      all_goals first | rfl | exact ⟨rfl, rfl⟩ | (simp (decide := true) only [if_true, if_false, *]; done) | (trace_state; fail)
end Go.Proofs.YthiiakghjoeikaaGreatDoor

