/-
  An assertion layer over the model's wp, part P: statements whose order is open and that hold calls which leave the heap.
  Conditions: none. Nothing here is about a particular program.
-/
import Derived.Test.YthiiakghjoeikaaGreatDoorAmO
set_option linter.unusedSimpArgs false
set_option linter.unnecessarySimpa false
set_option linter.unusedVariables false
namespace Go.AM
open Go.RowKit (Below)

def opTmps (op : Op) : List Nat := op.operands.toList.filterMap fun | .tmp t => some t | _ => none
def looksL (ops : List Oper) (o : Oper) : List Nat :=
  opTmps o.op ++ match o.guard with
    | some (j, _) => (nthDst ops j).toList
    | none => []

def vOps (P : Program) (w₀ : World) (ops : List Oper) : List Oper → Slots → AHeap → (Slots → AHeap → Prop) → Prop
  | [], s, h, K => K s h
  | o :: rest, s, h, K =>
    match o.guard with
    | none => ∃ V, eop P w₀ h (s.keep (looksL ops o)) o.op (fun x h' => x = V ∧ h' = h) ∧ vOps P w₀ ops rest (putD s o.dst V) h K
    | some (j, want) => match nthDst ops j with
      | none => vOps P w₀ ops rest (putD s o.dst (.tuple [])) h K
      | some d => gKnown (s.get d) = true ∧ ∃ V, (guardB (s.get d) want = true → eop P w₀ h (s.keep (looksL ops o)) o.op (fun x h' => x = V ∧ h' = h)) ∧ vOps P w₀ ops rest (putD s o.dst (condV (guardB (s.get d) want) V)) h K

theorem vOps_mono {P : Program} {w₀ : World} {ops : List Oper} {h : AHeap} {K K' : Slots → AHeap → Prop} : ∀ {l : List Oper} {s : Slots}, vOps P w₀ ops l s h K → (∀ s h, K s h → K' s h) → vOps P w₀ ops l s h K'
  | [], s, hv, hk => hk _ _ hv
  | o :: rest, s, hv, hk => by
    simp only [vOps] at hv ⊢
    split
    · rename_i hg
      rw [hg] at hv
      obtain ⟨V, h1, h2⟩ := hv
      exact ⟨V, h1, vOps_mono h2 hk⟩
    · rename_i j want hg
      rw [hg] at hv
      simp only at hv
      split
      · rename_i hj
        rw [hj] at hv
        exact vOps_mono hv hk
      · rename_i d hj
        rw [hj] at hv
        obtain ⟨h1, V, h2, h3⟩ := hv
        exact ⟨h1, V, h2, vOps_mono h3 hk⟩

section
variable {P : Program} {w₀ : World} {n : Nat} {h : AHeap}

/-- What one operation does, in whatever act holds what it looks at. -/
def StepOk (P : Program) (w₀ : World) (n : Nat) (h : AHeap) (ops : List Oper) (o : Oper) (S : Slots) (V : AVal) : Prop :=
  ∀ (ψ : PMap) (w : World) (a : Act) (next : Act → World → Prop) (Q : Exit → Act → World → Prop), HRel w₀ ψ h w → SRel ψ n (S.keep (looksL ops o)) a →
    (∀ ψ' v w', ψ.le ψ' → HRel w₀ ψ' h w' → VR ψ' V v → next (a.put o.dst v) w') →
    if Region.wanted o (yielded ops.toArray a.tmps) = true then o.wp P a w next Q else next (a.put o.dst undef) w

theorem nth_lt {n : Nat} : ∀ (l : List Oper) (j d : Nat), dstsOk n l = true → nthDst l j = some d → d < n := by
  intro l
  induction l with
  | nil => intro j d _ h; simp [nthDst] at h
  | cons o r ih =>
    intro j d h1 h2
    simp only [dstsOk, Bool.and_eq_true] at h1
    cases j with
    | zero => simp only [nthDst] at h2; rw [h2] at h1; simpa using h1.1
    | succ j => exact ih j d h1.2 h2

theorem StepOk.plain {ops : List Oper} {o : Oper} {S : Slots} {V : AVal} (hg : o.guard = none) (he : eop P w₀ h (S.keep (looksL ops o)) o.op (fun x h' => x = V ∧ h' = h)) : StepOk P w₀ n h ops o S V := by
  intro ψ w a next Q hr hs hn
  have hw : Region.wanted o (yielded ops.toArray a.tmps) = true := by simp [Region.wanted, hg]
  rw [if_pos hw]
  exact eop_ok o he hr hs fun ψ' x h' v w' h1 h2 h3 ⟨e1, e2⟩ => by subst e1 e2; exact hn ψ' v w' h1 h2 h3

theorem StepOk.guarded {ops : List Oper} (hall : dstsOk n ops = true) {o : Oper} {S : Slots} {V : AVal} {j d : Nat} {want : Bool} (hg : o.guard = some (j, want)) (hj : nthDst ops j = some d) (hk : gKnown (S.get d) = true)
    (he : guardB (S.get d) want = true → eop P w₀ h (S.keep (looksL ops o)) o.op (fun x h' => x = V ∧ h' = h)) : StepOk P w₀ n h ops o S (condV (guardB (S.get d) want) V) := by
  intro ψ w a next Q hr hs hn
  have hd : (S.keep (looksL ops o)).get d = S.get d := by
    rw [Slots.get_keep, if_pos]
    simp [looksL, hg, hj]
  have hw : Region.wanted o (yielded ops.toArray a.tmps) = guardB (S.get d) want := by
    have := guard_ok hs ops j d hj (nth_lt ops j d hall hj) (by rw [hd]; exact hk) want
    rw [hd] at this
    simp only [Region.wanted, hg]
    exact this
  cases hb : guardB (S.get d) want with
  | true =>
    rw [hw, hb, if_pos rfl]
    rw [hb] at hn
    exact eop_ok o (he hb) hr hs fun ψ' x h' v w' h1 h2 h3 ⟨e1, e2⟩ => by subst e1 e2; exact hn ψ' v w' h1 h2 h3
  | false =>
    rw [hw, hb, if_neg (by decide)]
    rw [hb] at hn
    exact hn ψ undef w ψ.le_refl hr (VR_undef ψ)

theorem StepOk.never {ops : List Oper} {o : Oper} {S : Slots} {j : Nat} {want : Bool} (hg : o.guard = some (j, want)) (hj : nthDst ops j = none) : StepOk P w₀ n h ops o S (.tuple []) := by
  intro ψ w a next Q hr hs hn
  have hd : (ops.toArray[j]?).bind (·.dst) = none := by rw [← hj, nthDst_eq]; simp
  have hw : Region.wanted o (yielded ops.toArray a.tmps) = false := by
    simp only [Region.wanted, hg, yielded, hd]
    rfl
  rw [if_neg (by rw [hw]; decide)]
  exact hn ψ undef w ψ.le_refl hr (VR_undef ψ)

/-- The slots in front of operation i, in the order of the text. -/
def slotsAt (s : Slots) (l : List Oper) (Vs : List AVal) : Nat → Slots
  | 0 => s
  | i + 1 => match l[i]? with
    | some o => putD (slotsAt s l Vs i) o.dst (Vs.getD i .dead)
    | none => slotsAt s l Vs i

theorem slotsAt_take (s : Slots) (l : List Oper) (A B : List AVal) : ∀ i, i ≤ A.length → slotsAt s l (A ++ B) i = slotsAt s l A i
  | 0, _ => rfl
  | i + 1, hi => by
    simp only [slotsAt, slotsAt_take s l A B i (by omega)]
    have : (A ++ B).getD i .dead = A.getD i .dead := by simp [List.getD, List.getElem?_append, show i < A.length by omega]
    rw [this]

theorem vOps_steps {l : List Oper} (hall : dstsOk n l = true) {s : Slots} {K : Slots → AHeap → Prop} : ∀ (rest pre : List Oper) (A : List AVal), l = pre ++ rest → A.length = pre.length → vOps P w₀ l rest (slotsAt s l A pre.length) h K →
    ∃ B : List AVal, B.length = rest.length ∧ (∀ i o, pre.length ≤ i → l[i]? = some o → StepOk P w₀ n h l o (slotsAt s l (A ++ B) i) ((A ++ B).getD i .dead)) ∧ K (slotsAt s l (A ++ B) l.length) h
  | [], pre, A, hl, hA, hv => ⟨[], rfl, fun i o hi ho => by
      rw [hl] at ho; simp at ho
      have := (List.getElem?_eq_some_iff.1 ho).1
      omega, by
      have e : l.length = pre.length := by rw [hl]; simp
      rw [List.append_nil, e]; exact hv⟩
  | o :: rest, pre, A, hl, hA, hv => by
    have hat : l[pre.length]? = some o := by rw [hl]; simp
    have go : ∀ V, StepOk P w₀ n h l o (slotsAt s l A pre.length) V → vOps P w₀ l rest (putD (slotsAt s l A pre.length) o.dst V) h K →
        ∃ B : List AVal, B.length = (o :: rest).length ∧ (∀ i o, pre.length ≤ i → l[i]? = some o → StepOk P w₀ n h l o (slotsAt s l (A ++ B) i) ((A ++ B).getD i .dead)) ∧ K (slotsAt s l (A ++ B) l.length) h := by
      intro V hst hv'
      have e : slotsAt s l (A ++ [V]) (pre ++ [o]).length = putD (slotsAt s l A pre.length) o.dst V := by
        rw [List.length_append, List.length_singleton, slotsAt, hat]
        simp only
        rw [slotsAt_take s l A [V] _ (by omega)]
        congr 1
        simp [List.getD, ← hA]
      obtain ⟨B, h1, h2, h3⟩ := vOps_steps hall rest (pre ++ [o]) (A ++ [V]) (by simp [hl]) (by simp [hA]) (by rw [e]; exact hv')
      refine ⟨V :: B, by simp [h1], fun i o' hi ho' => ?_, by simpa using h3⟩
      rcases Nat.eq_or_lt_of_le hi with e' | e'
      · subst e'
        rw [hat] at ho'
        obtain rfl := Option.some.inj ho'
        rw [slotsAt_take s l A (V :: B) _ (by omega)]
        have : (A ++ V :: B).getD pre.length .dead = V := by simp [List.getD, ← hA]
        rw [this]
        exact hst
      · have := h2 i o' (by simp; omega) ho'
        simpa using this
    simp only [vOps] at hv
    cases hg : o.guard with
    | none =>
      simp only [hg] at hv
      obtain ⟨V, h1, h2⟩ := hv
      exact go V (.plain hg h1) h2
    | some gw =>
      obtain ⟨j, want⟩ := gw
      simp only [hg] at hv
      cases hj : nthDst l j with
      | none =>
        simp only [hj] at hv
        exact go _ (.never hg hj) hv
      | some d =>
        simp only [hj] at hv
        obtain ⟨hk, V, h1, h2⟩ := hv
        exact go _ (.guarded hall hg hj hk h1) h2

/-- The order of a statement leaves each operation what it looks at. -/
def orderB (l : List Oper) : Bool :=
  (List.range l.length).all fun i => match l[i]? with
    | none => true
    | some oi => (oi.after.all fun e => !Region.binds .any e || decide (e.on < i)) &&
      (List.range l.length).all fun j => match l[j]? with
        | none => true
        | some oj => (match oj.dst with
            | none => true
            | some t => (decide (i = j) || decide (oi.dst ≠ some t)) &&
                (!(looksL l oi).contains t || (decide (j < i) && Region.waitsFor .any l.toArray i j) || (decide (i < j) && Region.waitsFor .any l.toArray j i)))

theorem orderB_spec {l : List Oper} (hB : orderB l = true) {i : Nat} {oi : Oper} (hi : l[i]? = some oi) :
    (∀ e ∈ oi.after, Region.binds .any e = true → e.on < i) ∧ ∀ j oj t, l[j]? = some oj → oj.dst = some t → (oi.dst = some t → i = j) ∧
      (t ∈ looksL l oi → (j < i ∧ Region.waitsFor .any l.toArray i j = true) ∨ (i < j ∧ Region.waitsFor .any l.toArray j i = true)) := by
  unfold orderB at hB
  rw [List.all_eq_true] at hB
  have h1 := hB i (by rw [List.mem_range]; exact (List.getElem?_eq_some_iff.1 hi).1)
  simp only [hi, Bool.and_eq_true] at h1
  obtain ⟨ha, hb⟩ := h1
  refine ⟨fun e he hbd => ?_, fun j oj t hj hd => ?_⟩
  · rw [Array.all_eq_true'] at ha
    have := ha e he
    simpa [hbd] using this
  · rw [List.all_eq_true] at hb
    have h2 := hb j (by rw [List.mem_range]; exact (List.getElem?_eq_some_iff.1 hj).1)
    simp only [hj, hd, Bool.and_eq_true, Bool.or_eq_true, decide_eq_true_eq, Bool.not_eq_true', List.contains_eq_mem] at h2
    refine ⟨fun he => ?_, fun ht => ?_⟩
    · rcases h2.1 with e | e
      · exact e
      · exact absurd he e
    · rcases h2.2 with (e | e) | e
      · exact absurd ht (by simpa using e)
      · exact .inl e
      · exact .inr e

theorem put_get (s : Slots) (d : Option Tmp) (x : AVal) (t : Nat) : (putD s d x).get t = if d = some t then x else s.get t := by
  cases d with
  | none => simp [putD]
  | some d =>
    simp only [putD, Slots.get_put, Option.some.injEq]
    by_cases e : t = d
    · subst e; simp
    · rw [if_neg e, if_neg (fun e' => e e'.symm)]

theorem slotsAt_writer {l : List Oper} (hB : orderB l = true) (s : Slots) (Vs : List AVal) {j : Nat} {oj : Oper} {t : Nat} (hj : l[j]? = some oj) (hd : oj.dst = some t) : ∀ i, j < i → i ≤ l.length → (slotsAt s l Vs i).get t = Vs.getD j .dead
  | 0, h, _ => by omega
  | i + 1, h, hi => by
    obtain ⟨o, ho⟩ : ∃ o, l[i]? = some o := ⟨_, List.getElem?_eq_getElem (show i < l.length by omega)⟩
    simp only [slotsAt, ho, put_get]
    by_cases e : o.dst = some t
    · have : i = j := (((orderB_spec hB ho).2 j oj t hj hd).1 e)
      subst this
      rw [if_pos e]
    · rw [if_neg e]
      refine slotsAt_writer hB s Vs hj hd i ?_ (by omega)
      rcases Nat.eq_or_lt_of_le (Nat.le_of_lt_succ h) with e' | e'
      · subst e'
        rw [hj] at ho
        obtain rfl := Option.some.inj ho
        exact absurd hd e
      · exact e'
theorem slotsAt_none {l : List Oper} (s : Slots) (Vs : List AVal) {t : Nat} : ∀ i, (∀ j oj, j < i → l[j]? = some oj → oj.dst ≠ some t) → (slotsAt s l Vs i).get t = s.get t
  | 0, _ => rfl
  | i + 1, h => by
    have ih := slotsAt_none s Vs (t := t) i fun j oj hj => h j oj (by omega)
    simp only [slotsAt]
    split
    · rename_i o ho
      rw [put_get, if_neg (h i o (by omega) ho), ih]
    · exact ih

structure AnyInv (l : List Oper) (Vs : List AVal) (s : Slots) (ψ : PMap) (n : Nat) (listed : Array Bool) (a : Act) : Prop where
  size : listed.size = l.length
  closed : ∀ j oj, l[j]? = some oj → listed.getD j false = true → ∀ e ∈ oj.after, Region.binds .any e = true → listed.getD e.on false = true
  tsize : a.tmps.size = n
  defers : a.defers = []
  done : ∀ t j oj, l[j]? = some oj → oj.dst = some t → listed.getD j false = true → VR ψ (Vs.getD j .dead) (a.tmps.getD t undef)
  still : ∀ t, (∀ j oj, l[j]? = some oj → oj.dst = some t → listed.getD j false = false) → VR ψ (s.get t) (a.tmps.getD t undef)

theorem set_self {listed : Array Bool} {i : Nat} (hi : i < listed.size) : (listed.setIfInBounds i true).getD i false = true := by
  simp [Array.getD, hi]
theorem set_other {listed : Array Bool} {i j : Nat} (h : j ≠ i) : (listed.setIfInBounds i true).getD j false = listed.getD j false := by
  rw [Array.getD_eq_getD_getElem?, Array.getD_eq_getD_getElem?, Array.getElem?_setIfInBounds_ne (Ne.symm h)]

theorem all_listed {l : List Oper} (hB : orderB l = true) {listed : Array Bool} (hs : listed.size = l.length) (hr : Region.ready .any l.toArray listed = []) : ∀ i, i < l.length → listed.getD i false = true := by
  intro i
  induction i using Nat.strongRecOn with
  | ind i ih =>
    intro hi
    cases hl : listed.getD i false with
    | true => rfl
    | false =>
      exfalso
      obtain ⟨o, ho⟩ : ∃ o, l[i]? = some o := ⟨_, List.getElem?_eq_getElem hi⟩
      have : i ∈ Region.ready .any l.toArray listed := by
        rw [mem_ready]
        refine ⟨?_, o, by simpa using ho, fun e he hb => ?_⟩
        · have hi' : i < listed.size := by omega
          simp [Array.getD, hi'] at hl ⊢; exact hl
        · have hlt := (orderB_spec hB ho).1 e he hb
          exact ih e.on hlt (by omega)
      rw [hr] at this
      cases this

theorem count_set : ∀ (l : List Bool) (i : Nat), l[i]? = some false → ((l.set i true).filter (!·)).length + 1 = (l.filter (!·)).length
  | [], _, h => by simp at h
  | b :: l, 0, h => by
    simp only [List.getElem?_cons_zero, Option.some.injEq] at h
    subst h
    simp
  | b :: l, i + 1, h => by
    simp only [List.getElem?_cons_succ] at h
    have := count_set l i h
    cases b <;> simp [List.set_cons_succ, List.filter_cons] <;> omega

theorem any_ok {l : List Oper} (hall : dstsOk n l = true) (hB : orderB l = true) {s : Slots} {Vs : List AVal} (hst : ∀ i o, l[i]? = some o → StepOk P w₀ n h l o (slotsAt s l Vs i) (Vs.getD i .dead)) {φ : PMap} {Q : Exit → Act → World → Prop}
    (hq : ∀ ψ a w, φ.le ψ → HRel w₀ ψ h w → SRel ψ n (slotsAt s l Vs l.length) a → Q .normal a w) : ∀ (fuel : Nat) (listed : Array Bool) (a : Act) (w : World) (ψ : PMap), φ.le ψ → HRel w₀ ψ h w → AnyInv l Vs s ψ n listed a →
    (listed.toList.filter (!·)).length ≤ fuel → wpAny P .any l.toArray Q fuel listed a w := by
  have fin : ∀ (listed : Array Bool) (a : Act) (w : World) (ψ : PMap), φ.le ψ → HRel w₀ ψ h w → AnyInv l Vs s ψ n listed a → Region.ready .any l.toArray listed = [] → Q .normal a w := by
    intro listed a w ψ hle hr inv hrd
    refine hq ψ a w hle hr ⟨inv.tsize, inv.defers, fun t => ?_⟩
    by_cases hw : ∃ (j : Nat) (oj : Oper), l[j]? = some oj ∧ oj.dst = some t
    · obtain ⟨j, oj, hj, hd⟩ := hw
      have hlt := (List.getElem?_eq_some_iff.1 hj).1
      rw [slotsAt_writer hB s Vs hj hd l.length hlt (Nat.le_refl _)]
      exact inv.done t j oj hj hd (all_listed hB inv.size hrd j hlt)
    · rw [slotsAt_none s Vs l.length fun j oj _ hj hd => hw ⟨j, oj, hj, hd⟩]
      exact inv.still t fun j oj hj hd => absurd ⟨j, oj, hj, hd⟩ hw
  intro fuel
  induction fuel with
  | zero =>
    intro listed a w ψ hle hr inv hc
    have hrd : Region.ready .any l.toArray listed = [] := by
      cases hrd : Region.ready .any l.toArray listed with
      | nil => rfl
      | cons i r =>
        exfalso
        have hm : i ∈ Region.ready .any l.toArray listed := by rw [hrd]; exact List.mem_cons_self
        obtain ⟨h1, o, ho, _⟩ := mem_ready.1 hm
        have hi : i < listed.size := by
          have : l[i]? = some o := by simpa using ho
          rw [inv.size]; exact (List.getElem?_eq_some_iff.1 this).1
        have h2 : listed.toList[i]? = some false := by
          simp [Array.getD, hi] at h1
          simp [hi, h1]
        have := List.mem_of_getElem? h2
        have hmem : false ∈ listed.toList.filter (!·) := by simp [List.mem_filter, this]
        have := List.length_pos_of_mem hmem
        omega
    exact ⟨hrd, fin listed a w ψ hle hr inv hrd⟩
  | succ fuel ih =>
    intro listed a w ψ hle hr inv hc
    refine ⟨fun hrd => fin listed a w ψ hle hr inv hrd, fun i hi => ?_⟩
    obtain ⟨h1, o, ho, hedges⟩ := mem_ready.1 hi
    have hol : l[i]? = some o := by simpa using ho
    have hilt : i < l.length := (List.getElem?_eq_some_iff.1 hol).1
    have hisz : i < listed.size := by rw [inv.size]; exact hilt
    have hif : listed.getD i false = false := by simp [Array.getD, hisz] at h1 ⊢; exact h1
    have spec := orderB_spec hB hol
    have hs : SRel ψ n ((slotsAt s l Vs i).keep (looksL l o)) a := by
      refine ⟨inv.tsize, inv.defers, fun t => ?_⟩
      rw [Slots.get_keep]
      by_cases ht : (looksL l o).contains t = true
      · rw [if_pos ht]
        have ht' : t ∈ looksL l o := by simpa using ht
        by_cases hw : ∃ (j : Nat) (oj : Oper), l[j]? = some oj ∧ oj.dst = some t
        · obtain ⟨j, oj, hj, hd⟩ := hw
          rcases (spec.2 j oj t hj hd).2 ht' with ⟨c1, c2⟩ | ⟨c1, c2⟩
          · rw [slotsAt_writer hB s Vs hj hd i c1 (by omega)]
            refine inv.done t j oj hj hd ?_
            obtain ⟨oi, g1, e, g2, g3, g4⟩ := Region.waitsFor_spec c2
            rw [ho] at g1
            obtain rfl := Option.some.inj g1
            rw [← g4]
            exact hedges e g2 g3
          · rw [slotsAt_none s Vs i fun j' oj' hj'' hj' hd' => by
              have := ((orderB_spec hB hj').2 j oj t hj hd).1 hd'
              omega]
            refine inv.still t fun j' oj' hj' hd' => ?_
            have e := ((orderB_spec hB hj').2 j oj t hj hd).1 hd'
            subst e
            cases hl : listed.getD j' false with
            | false => rfl
            | true =>
              exfalso
              obtain ⟨oi, g1, e, g2, g3, g4⟩ := Region.waitsFor_spec c2
              have g1' : l[j']? = some oi := by simpa using g1
              have := inv.closed j' oi g1' hl e g2 g3
              rw [g4, hif] at this
              cases this
        · rw [slotsAt_none s Vs i fun j oj _ hj hd => hw ⟨j, oj, hj, hd⟩]
          exact inv.still t fun j oj hj hd => absurd ⟨j, oj, hj, hd⟩ hw
      · rw [if_neg ht]
        trivial
    have step := hst i o hol ψ w a (wpAny P .any l.toArray Q fuel (listed.setIfInBounds i true)) Q hr hs fun ψ' v w' hle' hr' hv => by
      have hdn : ∀ d, o.dst = some d → d < n := fun d hd => nth_lt l i d hall (by rw [nthDst_eq, hol]; exact hd)
      refine ih _ _ _ ψ' (PMap.le_trans hle hle') hr' ?_ ?_
      · refine ⟨by simp [inv.size], fun j oj hj hl e he hb => ?_, ?_, ?_, fun t j oj hj hd hl => ?_, fun t hun => ?_⟩
        · by_cases e1 : e.on = i
          · rw [e1]; exact set_self hisz
          · rw [set_other e1]
            by_cases e2 : j = i
            · subst e2
              rw [hol] at hj
              obtain rfl := Option.some.inj hj
              exact hedges e he hb
            · rw [set_other e2] at hl
              exact inv.closed j oj hj hl e he hb
        · cases hod : o.dst with
          | none => simpa [Act.put] using inv.tsize
          | some d => simpa [Act.put] using inv.tsize
        · cases hod : o.dst with
          | none => simpa [Act.put] using inv.defers
          | some d => simpa [Act.put] using inv.defers
        · by_cases e : j = i
          · subst e
            rw [hol] at hj
            obtain rfl := Option.some.inj hj
            have hlt : t < a.tmps.size := by rw [inv.tsize]; exact hdn t hd
            have : (a.put o.dst v).tmps.getD t undef = v := by rw [hd]; simp [Act.put, hlt]
            rw [this]; exact hv
          · rw [set_other e] at hl
            have hne : o.dst ≠ some t := fun hod => e (((spec.2 j oj t hj hd).1 hod).symm)
            have : (a.put o.dst v).tmps.getD t undef = a.tmps.getD t undef := by
              cases hod : o.dst with
              | none => rfl
              | some d =>
                have hdt : d ≠ t := fun e => hne (by rw [hod, e])
                simp [Act.put, Array.getD_eq_getD_getElem?, Array.getElem?_setIfInBounds_ne hdt]
            rw [this]
            exact VR_mono hle' _ _ (inv.done t j oj hj hd hl)
        · have hne : o.dst ≠ some t := fun hod => by
            have := hun i o hol hod
            rw [set_self hisz] at this
            cases this
          have : (a.put o.dst v).tmps.getD t undef = a.tmps.getD t undef := by
            cases hod : o.dst with
            | none => rfl
            | some d =>
              have hdt : d ≠ t := fun e => hne (by rw [hod, e])
              simp [Act.put, Array.getD_eq_getD_getElem?, Array.getElem?_setIfInBounds_ne hdt]
          rw [this]
          refine VR_mono hle' _ _ (inv.still t fun j oj hj hd => ?_)
          have e : j ≠ i := fun e => by subst e; rw [hol] at hj; obtain rfl := Option.some.inj hj; exact hne hd
          have := hun j oj hj hd
          rwa [set_other e] at this
      · have h2 : listed.toList[i]? = some false := by
          simp [Array.getD, hisz] at h1
          simp [hisz, h1]
        have := count_set listed.toList i h2
        have e : (listed.setIfInBounds i true).toList = listed.toList.set i true := by simp
        rw [e]
        omega
    simp only [wpOp, ho]
    split
    · rename_i hw
      rw [if_pos hw] at step
      exact .inl step
    · rename_i hw
      rw [if_neg hw] at step
      exact step

/-- A statement whose order is open, and whose operations read, or call what leaves the heap. -/
theorem awp_draw_any {Q : Exit → Slots → AHeap → Prop} {s : Slots} {id : Nat} {l : List Oper} (hm : P.follows .mixedOrders = true) (hB : orderB l = true) (hd : dstsOk n l = true) (hc : vOps P w₀ l l s h (fun s' h' => Q .normal s' h')) :
    Awp P w₀ n (.region id l.toArray true) Q s h := by
  intro φ a w hr hs
  obtain ⟨Vs, h1, h2, h3⟩ := vOps_steps (P := P) (w₀ := w₀) (n := n) (h := h) hd (s := s) l [] [] rfl rfl hc
  simp only [List.nil_append, List.length_nil, Nat.zero_le, true_implies] at h1 h2 h3
  refine wp_region_any hm ?_
  refine any_ok (φ := φ) hd hB (s := s) (Vs := Vs) (fun i o ho => h2 i o ho) (fun ψ a' w' hle hr' hs' => ⟨ψ, _, h, hle, hr', hs', h3⟩) _ _ _ _ φ φ.le_refl hr.drew ?_ ?_
  · have hf : ∀ j, (Array.replicate l.toArray.size false).getD j false = false := fun j => by
      simp [Array.getD]
    refine ⟨by simp, fun j oj _ hl => (by rw [hf] at hl; cases hl), hs.size, hs.defers, fun t j oj _ _ hl => (by rw [hf] at hl; cases hl), fun t _ => hs.val t⟩
  · have := List.length_filter_le (!·) (Array.replicate l.toArray.size false).toList
    simpa using this

theorem awp_dseq_any {Q : Exit → Slots → AHeap → Prop} {s : Slots} {id : Nat} {l : List Oper} {y : Code} (L : List Nat) (hm : P.follows .mixedOrders = true) (hB : orderB l = true) (hd : dstsOk n l = true)
    (hc : ∀ K : Slots → AHeap → Prop, (∀ s h, Awp P w₀ n y Q s h → K s h) → vOps P w₀ l l s h (fun s' h' => K (s'.keep L) h')) : Awp P w₀ n (.seq (.region id l.toArray true) y) Q s h :=
  awp_seq (awp_draw_any hm hB hd (hc (fun s h => Awp P w₀ n y Q (s) h) (fun _ _ hk => hk) |> fun hv => vOps_mono hv fun _ _ hk => Awp.keep L hk))
end
end Go.AM
