/-
  Texts of this proof, joined: AmP, AmQ, AmR, AmS, AmT, AmU, AmV, Ty, Shelf, PlD, DcA, DcB.
  Conditions: none.
-/
import Derived.Test.YteagjfcmhmmljaaDoorNa
import Derived.StillTail
import Derived.Test.YteagjfcmhmmljaaDoorRows
import Derived.KernelRfl
import Derived.Shelf.Strings.Builder1
import Derived.Shelf.Strings.Builder2
import Derived.Shelf.Strings.Trim
import Derived.Shelf.Small.Utf8
import Derived.Shelf.Small.Strs
import Derived.Shelf.Strings.BuilderF
import Derived.Shelf.Strings.BuilderK
import Derived.Shelf.Strings.Builder2Cap
import Derived.Shelf.Strconv.Itoa0
import Derived.Shelf.Strconv.Itoa1
import Derived.Shelf.LaysM
import Derived.Shelf.Strconv.Itoa2
import Derived.Shelf.Strconv.Itoa3
import Derived.Shelf.Strings.Search1
import Derived.Shelf.Strings.Prefix
import Derived.Shelf.Unicode.Decode
import Derived.Shelf.Strings.Runes
import Derived.Shelf.Strings.AsciiSet
import Derived.Shelf.Bits.Mul64
import Derived.Shelf.Strings.Repeat
import Derived.Shelf.Unicode.DecodeSlow
import Derived.Shelf.Unicode.DecodeAny
import Derived.Shelf.Unicode.DecodeLast
import Derived.Shelf.Strings.BuilderCap
import Derived.Shelf.Slices.Turned
import Derived.Test.YteagjfcmhmmljaaDoorProg
import Derived.Lib.ItoaNum
set_option linter.unusedSimpArgs false
set_option linter.unnecessarySimpa false
set_option linter.unusedVariables false
/-
  An assertion layer over the model's wp, part P: statements whose order is open and that hold calls which leave the heap.
  Conditions: none. Nothing here is about a particular program.
-/
namespace Go.AM
open Go.RowKit (Below)

def opTmps (op : Op) : List Nat := op.operands.toList.filterMap fun | .tmp t => some t | _ => none
def looksL (ops : List Oper) (o : Oper) : List Nat :=
  opTmps o.op ++ match o.guard with
    | some (j, _) => (nthDst ops j).toList
    | none => []

def vOps (P : Program) (w₀ : World) (ops : List Oper) : List Oper → Slots → AHeap → (Slots → AHeap → Prop) → Prop
  | [], s, h, K => K s h
  | o :: rest, s, h, K =>
    match o.guard with
    | none => ∃ V, eop P w₀ h (s.keep (looksL ops o)) o.op (fun x h' => x = V ∧ h' = h) ∧ vOps P w₀ ops rest (putD s o.dst V) h K
    | some (j, want) => match nthDst ops j with
      | none => vOps P w₀ ops rest (putD s o.dst (.tuple [])) h K
      | some d => gKnown (s.get d) = true ∧ ∃ V, (guardB (s.get d) want = true → eop P w₀ h (s.keep (looksL ops o)) o.op (fun x h' => x = V ∧ h' = h)) ∧ vOps P w₀ ops rest (putD s o.dst (condV (guardB (s.get d) want) V)) h K

theorem vOps_mono {P : Program} {w₀ : World} {ops : List Oper} {h : AHeap} {K K' : Slots → AHeap → Prop} : ∀ {l : List Oper} {s : Slots}, vOps P w₀ ops l s h K → (∀ s h, K s h → K' s h) → vOps P w₀ ops l s h K'
  | [], s, hv, hk => hk _ _ hv
  | o :: rest, s, hv, hk => by
    simp only [vOps] at hv ⊢
    split
    · rename_i hg
      rw [hg] at hv
      obtain ⟨V, h1, h2⟩ := hv
      exact ⟨V, h1, vOps_mono h2 hk⟩
    · rename_i j want hg
      rw [hg] at hv
      simp only at hv
      split
      · rename_i hj
        rw [hj] at hv
        exact vOps_mono hv hk
      · rename_i d hj
        rw [hj] at hv
        obtain ⟨h1, V, h2, h3⟩ := hv
        exact ⟨h1, V, h2, vOps_mono h3 hk⟩

section
variable {P : Program} {w₀ : World} {n : Nat} {h : AHeap}

/-- What one operation does, in whatever act holds what it looks at. -/
def StepOk (P : Program) (w₀ : World) (n : Nat) (h : AHeap) (ops : List Oper) (o : Oper) (S : Slots) (V : AVal) : Prop :=
  ∀ (ψ : PMap) (w : World) (a : Act) (next : Act → World → Prop) (Q : Exit → Act → World → Prop), HRel w₀ ψ h w → SRel ψ n (S.keep (looksL ops o)) a →
    (∀ ψ' v w', ψ.le ψ' → HRel w₀ ψ' h w' → VR ψ' V v → next (a.put o.dst v) w') →
    if Region.wanted o (yielded ops.toArray a.tmps) = true then o.wp P a w next Q else next (a.put o.dst undef) w

theorem nth_lt {n : Nat} : ∀ (l : List Oper) (j d : Nat), dstsOk n l = true → nthDst l j = some d → d < n := by
  intro l
  induction l with
  | nil => intro j d _ h; simp [nthDst] at h
  | cons o r ih =>
    intro j d h1 h2
    simp only [dstsOk, Bool.and_eq_true] at h1
    cases j with
    | zero => simp only [nthDst] at h2; rw [h2] at h1; simpa using h1.1
    | succ j => exact ih j d h1.2 h2

theorem StepOk.plain {ops : List Oper} {o : Oper} {S : Slots} {V : AVal} (hg : o.guard = none) (he : eop P w₀ h (S.keep (looksL ops o)) o.op (fun x h' => x = V ∧ h' = h)) : StepOk P w₀ n h ops o S V := by
  intro ψ w a next Q hr hs hn
  have hw : Region.wanted o (yielded ops.toArray a.tmps) = true := by simp [Region.wanted, hg]
  rw [if_pos hw]
  exact eop_ok o he hr hs fun ψ' x h' v w' h1 h2 h3 ⟨e1, e2⟩ => by subst e1 e2; exact hn ψ' v w' h1 h2 h3

theorem StepOk.guarded {ops : List Oper} (hall : dstsOk n ops = true) {o : Oper} {S : Slots} {V : AVal} {j d : Nat} {want : Bool} (hg : o.guard = some (j, want)) (hj : nthDst ops j = some d) (hk : gKnown (S.get d) = true)
    (he : guardB (S.get d) want = true → eop P w₀ h (S.keep (looksL ops o)) o.op (fun x h' => x = V ∧ h' = h)) : StepOk P w₀ n h ops o S (condV (guardB (S.get d) want) V) := by
  intro ψ w a next Q hr hs hn
  have hd : (S.keep (looksL ops o)).get d = S.get d := by
    rw [Slots.get_keep, if_pos]
    simp [looksL, hg, hj]
  have hw : Region.wanted o (yielded ops.toArray a.tmps) = guardB (S.get d) want := by
    have := guard_ok hs ops j d hj (nth_lt ops j d hall hj) (by rw [hd]; exact hk) want
    rw [hd] at this
    simp only [Region.wanted, hg]
    exact this
  cases hb : guardB (S.get d) want with
  | true =>
    rw [hw, hb, if_pos rfl]
    rw [hb] at hn
    exact eop_ok o (he hb) hr hs fun ψ' x h' v w' h1 h2 h3 ⟨e1, e2⟩ => by subst e1 e2; exact hn ψ' v w' h1 h2 h3
  | false =>
    rw [hw, hb, if_neg (by decide)]
    rw [hb] at hn
    exact hn ψ undef w ψ.le_refl hr (VR_undef ψ)

theorem StepOk.never {ops : List Oper} {o : Oper} {S : Slots} {j : Nat} {want : Bool} (hg : o.guard = some (j, want)) (hj : nthDst ops j = none) : StepOk P w₀ n h ops o S (.tuple []) := by
  intro ψ w a next Q hr hs hn
  have hd : (ops.toArray[j]?).bind (·.dst) = none := by rw [← hj, nthDst_eq]; simp
  have hw : Region.wanted o (yielded ops.toArray a.tmps) = false := by
    simp only [Region.wanted, hg, yielded, hd]
    rfl
  rw [if_neg (by rw [hw]; decide)]
  exact hn ψ undef w ψ.le_refl hr (VR_undef ψ)

/-- The slots in front of operation i, in the order of the text. -/
def slotsAt (s : Slots) (l : List Oper) (Vs : List AVal) : Nat → Slots
  | 0 => s
  | i + 1 => match l[i]? with
    | some o => putD (slotsAt s l Vs i) o.dst (Vs.getD i .dead)
    | none => slotsAt s l Vs i

theorem slotsAt_take (s : Slots) (l : List Oper) (A B : List AVal) : ∀ i, i ≤ A.length → slotsAt s l (A ++ B) i = slotsAt s l A i
  | 0, _ => rfl
  | i + 1, hi => by
    simp only [slotsAt, slotsAt_take s l A B i (by omega)]
    have : (A ++ B).getD i .dead = A.getD i .dead := by simp [List.getD, List.getElem?_append, show i < A.length by omega]
    rw [this]

theorem vOps_steps {l : List Oper} (hall : dstsOk n l = true) {s : Slots} {K : Slots → AHeap → Prop} : ∀ (rest pre : List Oper) (A : List AVal), l = pre ++ rest → A.length = pre.length → vOps P w₀ l rest (slotsAt s l A pre.length) h K →
    ∃ B : List AVal, B.length = rest.length ∧ (∀ i o, pre.length ≤ i → l[i]? = some o → StepOk P w₀ n h l o (slotsAt s l (A ++ B) i) ((A ++ B).getD i .dead)) ∧ K (slotsAt s l (A ++ B) l.length) h
  | [], pre, A, hl, hA, hv => ⟨[], rfl, fun i o hi ho => by
      rw [hl] at ho; simp at ho
      have := (List.getElem?_eq_some_iff.1 ho).1
      omega, by
      have e : l.length = pre.length := by rw [hl]; simp
      rw [List.append_nil, e]; exact hv⟩
  | o :: rest, pre, A, hl, hA, hv => by
    have hat : l[pre.length]? = some o := by rw [hl]; simp
    have go : ∀ V, StepOk P w₀ n h l o (slotsAt s l A pre.length) V → vOps P w₀ l rest (putD (slotsAt s l A pre.length) o.dst V) h K →
        ∃ B : List AVal, B.length = (o :: rest).length ∧ (∀ i o, pre.length ≤ i → l[i]? = some o → StepOk P w₀ n h l o (slotsAt s l (A ++ B) i) ((A ++ B).getD i .dead)) ∧ K (slotsAt s l (A ++ B) l.length) h := by
      intro V hst hv'
      have e : slotsAt s l (A ++ [V]) (pre ++ [o]).length = putD (slotsAt s l A pre.length) o.dst V := by
        rw [List.length_append, List.length_singleton, slotsAt, hat]
        simp only
        rw [slotsAt_take s l A [V] _ (by omega)]
        congr 1
        simp [List.getD, ← hA]
      obtain ⟨B, h1, h2, h3⟩ := vOps_steps hall rest (pre ++ [o]) (A ++ [V]) (by simp [hl]) (by simp [hA]) (by rw [e]; exact hv')
      refine ⟨V :: B, by simp [h1], fun i o' hi ho' => ?_, by simpa using h3⟩
      rcases Nat.eq_or_lt_of_le hi with e' | e'
      · subst e'
        rw [hat] at ho'
        obtain rfl := Option.some.inj ho'
        rw [slotsAt_take s l A (V :: B) _ (by omega)]
        have : (A ++ V :: B).getD pre.length .dead = V := by simp [List.getD, ← hA]
        rw [this]
        exact hst
      · have := h2 i o' (by simp; omega) ho'
        simpa using this
    simp only [vOps] at hv
    cases hg : o.guard with
    | none =>
      simp only [hg] at hv
      obtain ⟨V, h1, h2⟩ := hv
      exact go V (.plain hg h1) h2
    | some gw =>
      obtain ⟨j, want⟩ := gw
      simp only [hg] at hv
      cases hj : nthDst l j with
      | none =>
        simp only [hj] at hv
        exact go _ (.never hg hj) hv
      | some d =>
        simp only [hj] at hv
        obtain ⟨hk, V, h1, h2⟩ := hv
        exact go _ (.guarded hall hg hj hk h1) h2

/-- The order of a statement leaves each operation what it looks at. -/
def orderB (l : List Oper) : Bool :=
  (List.range l.length).all fun i => match l[i]? with
    | none => true
    | some oi => (oi.after.all fun e => !Region.binds .any e || decide (e.on < i)) &&
      (List.range l.length).all fun j => match l[j]? with
        | none => true
        | some oj => (match oj.dst with
            | none => true
            | some t => (decide (i = j) || decide (oi.dst ≠ some t)) &&
                (!(looksL l oi).contains t || (decide (j < i) && Region.waitsFor .any l.toArray i j) || (decide (i < j) && Region.waitsFor .any l.toArray j i)))

theorem orderB_spec {l : List Oper} (hB : orderB l = true) {i : Nat} {oi : Oper} (hi : l[i]? = some oi) :
    (∀ e ∈ oi.after, Region.binds .any e = true → e.on < i) ∧ ∀ j oj t, l[j]? = some oj → oj.dst = some t → (oi.dst = some t → i = j) ∧
      (t ∈ looksL l oi → (j < i ∧ Region.waitsFor .any l.toArray i j = true) ∨ (i < j ∧ Region.waitsFor .any l.toArray j i = true)) := by
  unfold orderB at hB
  rw [List.all_eq_true] at hB
  have h1 := hB i (by rw [List.mem_range]; exact (List.getElem?_eq_some_iff.1 hi).1)
  simp only [hi, Bool.and_eq_true] at h1
  obtain ⟨ha, hb⟩ := h1
  refine ⟨fun e he hbd => ?_, fun j oj t hj hd => ?_⟩
  · rw [Array.all_eq_true'] at ha
    have := ha e he
    simpa [hbd] using this
  · rw [List.all_eq_true] at hb
    have h2 := hb j (by rw [List.mem_range]; exact (List.getElem?_eq_some_iff.1 hj).1)
    simp only [hj, hd, Bool.and_eq_true, Bool.or_eq_true, decide_eq_true_eq, Bool.not_eq_true', List.contains_eq_mem] at h2
    refine ⟨fun he => ?_, fun ht => ?_⟩
    · rcases h2.1 with e | e
      · exact e
      · exact absurd he e
    · rcases h2.2 with (e | e) | e
      · exact absurd ht (by simpa using e)
      · exact .inl e
      · exact .inr e

theorem put_get (s : Slots) (d : Option Tmp) (x : AVal) (t : Nat) : (putD s d x).get t = if d = some t then x else s.get t := by
  cases d with
  | none => simp [putD]
  | some d =>
    simp only [putD, Slots.get_put, Option.some.injEq]
    by_cases e : t = d
    · subst e; simp
    · rw [if_neg e, if_neg (fun e' => e e'.symm)]

theorem slotsAt_writer {l : List Oper} (hB : orderB l = true) (s : Slots) (Vs : List AVal) {j : Nat} {oj : Oper} {t : Nat} (hj : l[j]? = some oj) (hd : oj.dst = some t) : ∀ i, j < i → i ≤ l.length → (slotsAt s l Vs i).get t = Vs.getD j .dead
  | 0, h, _ => by omega
  | i + 1, h, hi => by
    obtain ⟨o, ho⟩ : ∃ o, l[i]? = some o := ⟨_, List.getElem?_eq_getElem (show i < l.length by omega)⟩
    simp only [slotsAt, ho, put_get]
    by_cases e : o.dst = some t
    · have : i = j := (((orderB_spec hB ho).2 j oj t hj hd).1 e)
      subst this
      rw [if_pos e]
    · rw [if_neg e]
      refine slotsAt_writer hB s Vs hj hd i ?_ (by omega)
      rcases Nat.eq_or_lt_of_le (Nat.le_of_lt_succ h) with e' | e'
      · subst e'
        rw [hj] at ho
        obtain rfl := Option.some.inj ho
        exact absurd hd e
      · exact e'
theorem slotsAt_none {l : List Oper} (s : Slots) (Vs : List AVal) {t : Nat} : ∀ i, (∀ j oj, j < i → l[j]? = some oj → oj.dst ≠ some t) → (slotsAt s l Vs i).get t = s.get t
  | 0, _ => rfl
  | i + 1, h => by
    have ih := slotsAt_none s Vs (t := t) i fun j oj hj => h j oj (by omega)
    simp only [slotsAt]
    split
    · rename_i o ho
      rw [put_get, if_neg (h i o (by omega) ho), ih]
    · exact ih

structure AnyInv (l : List Oper) (Vs : List AVal) (s : Slots) (ψ : PMap) (n : Nat) (listed : Array Bool) (a : Act) : Prop where
  size : listed.size = l.length
  closed : ∀ j oj, l[j]? = some oj → listed.getD j false = true → ∀ e ∈ oj.after, Region.binds .any e = true → listed.getD e.on false = true
  tsize : a.tmps.size = n
  defers : a.defers = []
  done : ∀ t j oj, l[j]? = some oj → oj.dst = some t → listed.getD j false = true → VR ψ (Vs.getD j .dead) (a.tmps.getD t undef)
  still : ∀ t, (∀ j oj, l[j]? = some oj → oj.dst = some t → listed.getD j false = false) → VR ψ (s.get t) (a.tmps.getD t undef)

theorem set_self {listed : Array Bool} {i : Nat} (hi : i < listed.size) : (listed.setIfInBounds i true).getD i false = true := by
  simp [Array.getD, hi]
theorem set_other {listed : Array Bool} {i j : Nat} (h : j ≠ i) : (listed.setIfInBounds i true).getD j false = listed.getD j false := by
  rw [Array.getD_eq_getD_getElem?, Array.getD_eq_getD_getElem?, Array.getElem?_setIfInBounds_ne (Ne.symm h)]

theorem all_listed {l : List Oper} (hB : orderB l = true) {listed : Array Bool} (hs : listed.size = l.length) (hr : Region.ready .any l.toArray listed = []) : ∀ i, i < l.length → listed.getD i false = true := by
  intro i
  induction i using Nat.strongRecOn with
  | ind i ih =>
    intro hi
    cases hl : listed.getD i false with
    | true => rfl
    | false =>
      exfalso
      obtain ⟨o, ho⟩ : ∃ o, l[i]? = some o := ⟨_, List.getElem?_eq_getElem hi⟩
      have : i ∈ Region.ready .any l.toArray listed := by
        rw [mem_ready]
        refine ⟨?_, o, by simpa using ho, fun e he hb => ?_⟩
        · have hi' : i < listed.size := by omega
          simp [Array.getD, hi'] at hl ⊢; exact hl
        · have hlt := (orderB_spec hB ho).1 e he hb
          exact ih e.on hlt (by omega)
      rw [hr] at this
      cases this

theorem count_set : ∀ (l : List Bool) (i : Nat), l[i]? = some false → ((l.set i true).filter (!·)).length + 1 = (l.filter (!·)).length
  | [], _, h => by simp at h
  | b :: l, 0, h => by
    simp only [List.getElem?_cons_zero, Option.some.injEq] at h
    subst h
    simp
  | b :: l, i + 1, h => by
    simp only [List.getElem?_cons_succ] at h
    have := count_set l i h
    cases b <;> simp [List.set_cons_succ, List.filter_cons] <;> omega

theorem any_ok {l : List Oper} (hall : dstsOk n l = true) (hB : orderB l = true) {s : Slots} {Vs : List AVal} (hst : ∀ i o, l[i]? = some o → StepOk P w₀ n h l o (slotsAt s l Vs i) (Vs.getD i .dead)) {φ : PMap} {Q : Exit → Act → World → Prop}
    (hq : ∀ ψ a w, φ.le ψ → HRel w₀ ψ h w → SRel ψ n (slotsAt s l Vs l.length) a → Q .normal a w) : ∀ (fuel : Nat) (listed : Array Bool) (a : Act) (w : World) (ψ : PMap), φ.le ψ → HRel w₀ ψ h w → AnyInv l Vs s ψ n listed a →
    (listed.toList.filter (!·)).length ≤ fuel → wpAny P .any l.toArray Q fuel listed a w := by
  have fin : ∀ (listed : Array Bool) (a : Act) (w : World) (ψ : PMap), φ.le ψ → HRel w₀ ψ h w → AnyInv l Vs s ψ n listed a → Region.ready .any l.toArray listed = [] → Q .normal a w := by
    intro listed a w ψ hle hr inv hrd
    refine hq ψ a w hle hr ⟨inv.tsize, inv.defers, fun t => ?_⟩
    by_cases hw : ∃ (j : Nat) (oj : Oper), l[j]? = some oj ∧ oj.dst = some t
    · obtain ⟨j, oj, hj, hd⟩ := hw
      have hlt := (List.getElem?_eq_some_iff.1 hj).1
      rw [slotsAt_writer hB s Vs hj hd l.length hlt (Nat.le_refl _)]
      exact inv.done t j oj hj hd (all_listed hB inv.size hrd j hlt)
    · rw [slotsAt_none s Vs l.length fun j oj _ hj hd => hw ⟨j, oj, hj, hd⟩]
      exact inv.still t fun j oj hj hd => absurd ⟨j, oj, hj, hd⟩ hw
  intro fuel
  induction fuel with
  | zero =>
    intro listed a w ψ hle hr inv hc
    have hrd : Region.ready .any l.toArray listed = [] := by
      cases hrd : Region.ready .any l.toArray listed with
      | nil => rfl
      | cons i r =>
        exfalso
        have hm : i ∈ Region.ready .any l.toArray listed := by rw [hrd]; exact List.mem_cons_self
        obtain ⟨h1, o, ho, _⟩ := mem_ready.1 hm
        have hi : i < listed.size := by
          have : l[i]? = some o := by simpa using ho
          rw [inv.size]; exact (List.getElem?_eq_some_iff.1 this).1
        have h2 : listed.toList[i]? = some false := by
          simp [Array.getD, hi] at h1
          simp [hi, h1]
        have := List.mem_of_getElem? h2
        have hmem : false ∈ listed.toList.filter (!·) := by simp [List.mem_filter, this]
        have := List.length_pos_of_mem hmem
        omega
    exact ⟨hrd, fin listed a w ψ hle hr inv hrd⟩
  | succ fuel ih =>
    intro listed a w ψ hle hr inv hc
    refine ⟨fun hrd => fin listed a w ψ hle hr inv hrd, fun i hi => ?_⟩
    obtain ⟨h1, o, ho, hedges⟩ := mem_ready.1 hi
    have hol : l[i]? = some o := by simpa using ho
    have hilt : i < l.length := (List.getElem?_eq_some_iff.1 hol).1
    have hisz : i < listed.size := by rw [inv.size]; exact hilt
    have hif : listed.getD i false = false := by simp [Array.getD, hisz] at h1 ⊢; exact h1
    have spec := orderB_spec hB hol
    have hs : SRel ψ n ((slotsAt s l Vs i).keep (looksL l o)) a := by
      refine ⟨inv.tsize, inv.defers, fun t => ?_⟩
      rw [Slots.get_keep]
      by_cases ht : (looksL l o).contains t = true
      · rw [if_pos ht]
        have ht' : t ∈ looksL l o := by simpa using ht
        by_cases hw : ∃ (j : Nat) (oj : Oper), l[j]? = some oj ∧ oj.dst = some t
        · obtain ⟨j, oj, hj, hd⟩ := hw
          rcases (spec.2 j oj t hj hd).2 ht' with ⟨c1, c2⟩ | ⟨c1, c2⟩
          · rw [slotsAt_writer hB s Vs hj hd i c1 (by omega)]
            refine inv.done t j oj hj hd ?_
            obtain ⟨oi, g1, e, g2, g3, g4⟩ := Region.waitsFor_spec c2
            rw [ho] at g1
            obtain rfl := Option.some.inj g1
            rw [← g4]
            exact hedges e g2 g3
          · rw [slotsAt_none s Vs i fun j' oj' hj'' hj' hd' => by
              have := ((orderB_spec hB hj').2 j oj t hj hd).1 hd'
              omega]
            refine inv.still t fun j' oj' hj' hd' => ?_
            have e := ((orderB_spec hB hj').2 j oj t hj hd).1 hd'
            subst e
            cases hl : listed.getD j' false with
            | false => rfl
            | true =>
              exfalso
              obtain ⟨oi, g1, e, g2, g3, g4⟩ := Region.waitsFor_spec c2
              have g1' : l[j']? = some oi := by simpa using g1
              have := inv.closed j' oi g1' hl e g2 g3
              rw [g4, hif] at this
              cases this
        · rw [slotsAt_none s Vs i fun j oj _ hj hd => hw ⟨j, oj, hj, hd⟩]
          exact inv.still t fun j oj hj hd => absurd ⟨j, oj, hj, hd⟩ hw
      · rw [if_neg ht]
        trivial
    have step := hst i o hol ψ w a (wpAny P .any l.toArray Q fuel (listed.setIfInBounds i true)) Q hr hs fun ψ' v w' hle' hr' hv => by
      have hdn : ∀ d, o.dst = some d → d < n := fun d hd => nth_lt l i d hall (by rw [nthDst_eq, hol]; exact hd)
      refine ih _ _ _ ψ' (PMap.le_trans hle hle') hr' ?_ ?_
      · refine ⟨by simp [inv.size], fun j oj hj hl e he hb => ?_, ?_, ?_, fun t j oj hj hd hl => ?_, fun t hun => ?_⟩
        · by_cases e1 : e.on = i
          · rw [e1]; exact set_self hisz
          · rw [set_other e1]
            by_cases e2 : j = i
            · subst e2
              rw [hol] at hj
              obtain rfl := Option.some.inj hj
              exact hedges e he hb
            · rw [set_other e2] at hl
              exact inv.closed j oj hj hl e he hb
        · cases hod : o.dst with
          | none => simpa [Act.put] using inv.tsize
          | some d => simpa [Act.put] using inv.tsize
        · cases hod : o.dst with
          | none => simpa [Act.put] using inv.defers
          | some d => simpa [Act.put] using inv.defers
        · by_cases e : j = i
          · subst e
            rw [hol] at hj
            obtain rfl := Option.some.inj hj
            have hlt : t < a.tmps.size := by rw [inv.tsize]; exact hdn t hd
            have : (a.put o.dst v).tmps.getD t undef = v := by rw [hd]; simp [Act.put, hlt]
            rw [this]; exact hv
          · rw [set_other e] at hl
            have hne : o.dst ≠ some t := fun hod => e (((spec.2 j oj t hj hd).1 hod).symm)
            have : (a.put o.dst v).tmps.getD t undef = a.tmps.getD t undef := by
              cases hod : o.dst with
              | none => rfl
              | some d =>
                have hdt : d ≠ t := fun e => hne (by rw [hod, e])
                simp [Act.put, Array.getD_eq_getD_getElem?, Array.getElem?_setIfInBounds_ne hdt]
            rw [this]
            exact VR_mono hle' _ _ (inv.done t j oj hj hd hl)
        · have hne : o.dst ≠ some t := fun hod => by
            have := hun i o hol hod
            rw [set_self hisz] at this
            cases this
          have : (a.put o.dst v).tmps.getD t undef = a.tmps.getD t undef := by
            cases hod : o.dst with
            | none => rfl
            | some d =>
              have hdt : d ≠ t := fun e => hne (by rw [hod, e])
              simp [Act.put, Array.getD_eq_getD_getElem?, Array.getElem?_setIfInBounds_ne hdt]
          rw [this]
          refine VR_mono hle' _ _ (inv.still t fun j oj hj hd => ?_)
          have e : j ≠ i := fun e => by subst e; rw [hol] at hj; obtain rfl := Option.some.inj hj; exact hne hd
          have := hun j oj hj hd
          rwa [set_other e] at this
      · have h2 : listed.toList[i]? = some false := by
          simp [Array.getD, hisz] at h1
          simp [hisz, h1]
        have := count_set listed.toList i h2
        have e : (listed.setIfInBounds i true).toList = listed.toList.set i true := by simp
        rw [e]
        omega
    simp only [wpOp, ho]
    split
    · rename_i hw
      rw [if_pos hw] at step
      exact .inl step
    · rename_i hw
      rw [if_neg hw] at step
      exact step

/-- A statement whose order is open, and whose operations read, or call what leaves the heap. -/
theorem awp_draw_any {Q : Exit → Slots → AHeap → Prop} {s : Slots} {id : Nat} {l : List Oper} (hm : P.follows .mixedOrders = true) (hB : orderB l = true) (hd : dstsOk n l = true) (hc : vOps P w₀ l l s h (fun s' h' => Q .normal s' h')) :
    Awp P w₀ n (.region id l.toArray true) Q s h := by
  intro φ a w hr hs
  obtain ⟨Vs, h1, h2, h3⟩ := vOps_steps (P := P) (w₀ := w₀) (n := n) (h := h) hd (s := s) l [] [] rfl rfl hc
  simp only [List.nil_append, List.length_nil, Nat.zero_le, true_implies] at h1 h2 h3
  refine wp_region_any hm ?_
  refine any_ok (φ := φ) hd hB (s := s) (Vs := Vs) (fun i o ho => h2 i o ho) (fun ψ a' w' hle hr' hs' => ⟨ψ, _, h, hle, hr', hs', h3⟩) _ _ _ _ φ φ.le_refl hr.drew ?_ ?_
  · have hf : ∀ j, (Array.replicate l.toArray.size false).getD j false = false := fun j => by
      simp [Array.getD]
    refine ⟨by simp, fun j oj _ hl => (by rw [hf] at hl; cases hl), hs.size, hs.defers, fun t j oj _ _ hl => (by rw [hf] at hl; cases hl), fun t _ => hs.val t⟩
  · have := List.length_filter_le (!·) (Array.replicate l.toArray.size false).toList
    simpa using this

theorem awp_dseq_any {Q : Exit → Slots → AHeap → Prop} {s : Slots} {id : Nat} {l : List Oper} {y : Code} (L : List Nat) (hm : P.follows .mixedOrders = true) (hB : orderB l = true) (hd : dstsOk n l = true)
    (hc : ∀ K : Slots → AHeap → Prop, (∀ s h, Awp P w₀ n y Q s h → K s h) → vOps P w₀ l l s h (fun s' h' => K (s'.keep L) h')) : Awp P w₀ n (.seq (.region id l.toArray true) y) Q s h :=
  awp_seq (awp_draw_any hm hB hd (hc (fun s h => Awp P w₀ n y Q (s) h) (fun _ _ hk => hk) |> fun hv => vOps_mono hv fun _ _ hk => Awp.keep L hk))
end
end Go.AM

/-
  An assertion layer over the model's wp, part Q: statements of open order, as a walk rewrites them.
  Conditions: none. Nothing here is about a particular program.
-/
namespace Go.AM

theorem ev_keep {s : Slots} {L : List Nat} {x : Operand} (h : ∀ t, x = .tmp t → t ∈ L) : ev (s.keep L) x = ev s x := by
  cases x with
  | tmp t =>
    simp only [ev, Slots.get_keep]
    rw [if_pos (by simpa using h t rfl)]
  | _ => rfl
theorem looks_of {ops : List Oper} {o : Oper} {x : Operand} (h : x ∈ o.op.operands.toList) : ∀ t, x = .tmp t → t ∈ looksL ops o := by
  rintro t rfl
  unfold looksL opTmps
  rw [List.mem_append]
  exact .inl (List.mem_filterMap.2 ⟨_, h, rfl⟩)
theorem evs_keep {s : Slots} {L : List Nat} : ∀ {xs : List Operand}, (∀ x ∈ xs, ∀ t, x = .tmp t → t ∈ L) → evs (s.keep L) xs = evs s xs
  | [], _ => rfl
  | x :: xs, h => by
    have := evs_keep (s := s) (L := L) (xs := xs) fun y hy => h y (List.mem_cons_of_mem _ hy)
    simp only [evs, List.map_cons] at this ⊢
    rw [ev_keep (h x List.mem_cons_self), this]

section
variable {P : Program} {w₀ : World} {ops rest : List Oper} {s : Slots} {h : AHeap} {K : Slots → AHeap → Prop} {dst : Option Tmp} {ty : TypeId} {pos : String} {af : Array Edge}

theorem vOps_nil : vOps P w₀ ops [] s h K = K s h := rfl
theorem vp_of {op : Op} (hp : pureOp P op = true) (hk : pop P w₀ h (s.keep (looksL ops ⟨dst, op, ty, pos, af, none⟩)) op = pop P w₀ h s op) :
    vOps P w₀ ops (⟨dst, op, ty, pos, af, none⟩ :: rest) s h K = ((pop P w₀ h s op).pre ∧ vOps P w₀ ops rest (putD s dst (pop P w₀ h s op).val) h K) := by
  simp only [vOps]
  refine propext ⟨fun ⟨V, h1, h2⟩ => ?_, fun ⟨h1, h2⟩ => ⟨_, (eop_pure hp).2 ⟨by rw [hk]; exact h1, by rw [hk], rfl⟩, h2⟩⟩
  obtain ⟨g1, g2, _⟩ := (eop_pure hp).1 h1
  rw [hk] at g1 g2
  subst g2
  exact ⟨g1, h2⟩
def vgP (P : Program) (w₀ : World) (ops rest : List Oper) (s : Slots) (h : AHeap) (K : Slots → AHeap → Prop) (dst : Option Tmp) (g : AVal) (want : Bool) (r : PR) : Prop :=
  gKnown g = true ∧ (guardB g want = true → r.pre) ∧ vOps P w₀ ops rest (putD s dst (condV (guardB g want) r.val)) h K
def vgQ (P : Program) (w₀ : World) (ops rest : List Oper) (s : Slots) (h : AHeap) (K : Slots → AHeap → Prop) (dst : Option Tmp) (want : Bool) (r : PR) : Option Tmp → Prop
  | none => vOps P w₀ ops rest (putD s dst (.tuple [])) h K
  | some d => vgP P w₀ ops rest s h K dst (s.get d) want r
theorem vgQ_some {want : Bool} {r : PR} {d : Tmp} : vgQ P w₀ ops rest s h K dst want r (some d) = vgP P w₀ ops rest s h K dst (s.get d) want r := rfl
theorem vg_of {op : Op} {j : Nat} {want : Bool} (hp : pureOp P op = true) (hk : pop P w₀ h (s.keep (looksL ops ⟨dst, op, ty, pos, af, some (j, want)⟩)) op = pop P w₀ h s op) :
    vOps P w₀ ops (⟨dst, op, ty, pos, af, some (j, want)⟩ :: rest) s h K = vgQ P w₀ ops rest s h K dst want (pop P w₀ h s op) (nthDst ops j) := by
  simp only [vOps]
  cases nthDst ops j with
  | none => rfl
  | some d =>
    simp only [vgQ, vgP]
    refine propext ⟨fun ⟨h0, V, h1, h2⟩ => ?_, fun ⟨h0, h1, h2⟩ => ⟨h0, _, fun hg => (eop_pure hp).2 ⟨by rw [hk]; exact h1 hg, by rw [hk], rfl⟩, h2⟩⟩
    cases hg : guardB (s.get d) want with
    | false =>
      rw [hg] at h2
      exact ⟨h0, fun e => (by cases e), h2⟩
    | true =>
      obtain ⟨g1, g2, _⟩ := (eop_pure hp).1 (h1 hg)
      rw [hk] at g1 g2
      subst g2
      rw [hg] at h2
      exact ⟨h0, fun _ => g1, h2⟩
theorem vp_move (x : Operand) : vOps P w₀ ops (⟨dst, .move x, ty, pos, af, none⟩ :: rest) s h K = ((pop P w₀ h s (.move x)).pre ∧ vOps P w₀ ops rest (putD s dst (pop P w₀ h s (.move x)).val) h K) :=
  vp_of rfl (by
    simp only [pop, ev_keep (looks_of (o := ⟨dst, .move x, ty, pos, af, none⟩) (x := x) (by simp [Op.operands]))])
theorem vg_move (x : Operand) {j : Nat} {want : Bool} : vOps P w₀ ops (⟨dst, .move x, ty, pos, af, some (j, want)⟩ :: rest) s h K = vgQ P w₀ ops rest s h K dst want (pop P w₀ h s (.move x)) (nthDst ops j) :=
  vg_of rfl (by
    simp only [pop, ev_keep (looks_of (o := ⟨dst, .move x, ty, pos, af, some (j, want)⟩) (x := x) (by simp [Op.operands]))])
theorem vp_assign (x : Operand) : vOps P w₀ ops (⟨dst, .assign x, ty, pos, af, none⟩ :: rest) s h K = ((pop P w₀ h s (.assign x)).pre ∧ vOps P w₀ ops rest (putD s dst (pop P w₀ h s (.assign x)).val) h K) :=
  vp_of rfl (by
    simp only [pop, ev_keep (looks_of (o := ⟨dst, .assign x, ty, pos, af, none⟩) (x := x) (by simp [Op.operands]))])
theorem vp_pick (c a b : Operand) : vOps P w₀ ops (⟨dst, .pick c a b, ty, pos, af, none⟩ :: rest) s h K = ((pop P w₀ h s (.pick c a b)).pre ∧ vOps P w₀ ops rest (putD s dst (pop P w₀ h s (.pick c a b)).val) h K) :=
  vp_of rfl (by
    simp only [pop, ev_keep (looks_of (o := ⟨dst, .pick c a b, ty, pos, af, none⟩) (x := c) (by simp [Op.operands])), ev_keep (looks_of (o := ⟨dst, .pick c a b, ty, pos, af, none⟩) (x := a) (by simp [Op.operands])), ev_keep (looks_of (o := ⟨dst, .pick c a b, ty, pos, af, none⟩) (x := b) (by simp [Op.operands]))])
theorem vp_binOp (o : BinOp) (t : TypeId) (x y : Operand) (u : TypeId) : vOps P w₀ ops (⟨dst, .binOp o t x y u, ty, pos, af, none⟩ :: rest) s h K = ((pop P w₀ h s (.binOp o t x y u)).pre ∧ vOps P w₀ ops rest (putD s dst (pop P w₀ h s (.binOp o t x y u)).val) h K) :=
  vp_of rfl (by
    simp only [pop, ev_keep (looks_of (o := ⟨dst, .binOp o t x y u, ty, pos, af, none⟩) (x := x) (by simp [Op.operands])), ev_keep (looks_of (o := ⟨dst, .binOp o t x y u, ty, pos, af, none⟩) (x := y) (by simp [Op.operands]))])
theorem vg_binOp (o : BinOp) (t : TypeId) (x y : Operand) (u : TypeId) {j : Nat} {want : Bool} : vOps P w₀ ops (⟨dst, .binOp o t x y u, ty, pos, af, some (j, want)⟩ :: rest) s h K = vgQ P w₀ ops rest s h K dst want (pop P w₀ h s (.binOp o t x y u)) (nthDst ops j) :=
  vg_of rfl (by
    simp only [pop, ev_keep (looks_of (o := ⟨dst, .binOp o t x y u, ty, pos, af, some (j, want)⟩) (x := x) (by simp [Op.operands])), ev_keep (looks_of (o := ⟨dst, .binOp o t x y u, ty, pos, af, some (j, want)⟩) (x := y) (by simp [Op.operands]))])
theorem vg_unOp (o : UnOp) (t : TypeId) (x : Operand) {j : Nat} {want : Bool} : vOps P w₀ ops (⟨dst, .unOp o t x, ty, pos, af, some (j, want)⟩ :: rest) s h K = vgQ P w₀ ops rest s h K dst want (pop P w₀ h s (.unOp o t x)) (nthDst ops j) :=
  vg_of rfl (by
    simp only [pop, ev_keep (looks_of (o := ⟨dst, .unOp o t x, ty, pos, af, some (j, want)⟩) (x := x) (by simp [Op.operands]))])
theorem vp_load (t : TypeId) (x : Operand) : vOps P w₀ ops (⟨dst, .load t x, ty, pos, af, none⟩ :: rest) s h K = ((pop P w₀ h s (.load t x)).pre ∧ vOps P w₀ ops rest (putD s dst (pop P w₀ h s (.load t x)).val) h K) :=
  vp_of rfl (by
    simp only [pop, ev_keep (looks_of (o := ⟨dst, .load t x, ty, pos, af, none⟩) (x := x) (by simp [Op.operands]))])
theorem vg_load (t : TypeId) (x : Operand) {j : Nat} {want : Bool} : vOps P w₀ ops (⟨dst, .load t x, ty, pos, af, some (j, want)⟩ :: rest) s h K = vgQ P w₀ ops rest s h K dst want (pop P w₀ h s (.load t x)) (nthDst ops j) :=
  vg_of rfl (by
    simp only [pop, ev_keep (looks_of (o := ⟨dst, .load t x, ty, pos, af, some (j, want)⟩) (x := x) (by simp [Op.operands]))])
theorem vp_fieldAddr (t : TypeId) (x : Operand) (f : Nat) : vOps P w₀ ops (⟨dst, .fieldAddr t x f, ty, pos, af, none⟩ :: rest) s h K = ((pop P w₀ h s (.fieldAddr t x f)).pre ∧ vOps P w₀ ops rest (putD s dst (pop P w₀ h s (.fieldAddr t x f)).val) h K) :=
  vp_of rfl (by
    simp only [pop, ev_keep (looks_of (o := ⟨dst, .fieldAddr t x f, ty, pos, af, none⟩) (x := x) (by simp [Op.operands]))])
theorem vp_index (t : TypeId) (x i : Operand) : vOps P w₀ ops (⟨dst, .index t x i, ty, pos, af, none⟩ :: rest) s h K = ((pop P w₀ h s (.index t x i)).pre ∧ vOps P w₀ ops rest (putD s dst (pop P w₀ h s (.index t x i)).val) h K) :=
  vp_of rfl (by
    simp only [pop, ev_keep (looks_of (o := ⟨dst, .index t x i, ty, pos, af, none⟩) (x := x) (by simp [Op.operands])), ev_keep (looks_of (o := ⟨dst, .index t x i, ty, pos, af, none⟩) (x := i) (by simp [Op.operands]))])
theorem vg_indexAddr (t : TypeId) (x i : Operand) {j : Nat} {want : Bool} : vOps P w₀ ops (⟨dst, .indexAddr t x i, ty, pos, af, some (j, want)⟩ :: rest) s h K = vgQ P w₀ ops rest s h K dst want (pop P w₀ h s (.indexAddr t x i)) (nthDst ops j) :=
  vg_of rfl (by
    simp only [pop, ev_keep (looks_of (o := ⟨dst, .indexAddr t x i, ty, pos, af, some (j, want)⟩) (x := x) (by simp [Op.operands])), ev_keep (looks_of (o := ⟨dst, .indexAddr t x i, ty, pos, af, some (j, want)⟩) (x := i) (by simp [Op.operands]))])
theorem vp_extract (x : Operand) (i : Nat) : vOps P w₀ ops (⟨dst, .extract x i, ty, pos, af, none⟩ :: rest) s h K = ((pop P w₀ h s (.extract x i)).pre ∧ vOps P w₀ ops rest (putD s dst (pop P w₀ h s (.extract x i)).val) h K) :=
  vp_of rfl (by
    simp only [pop, ev_keep (looks_of (o := ⟨dst, .extract x i, ty, pos, af, none⟩) (x := x) (by simp [Op.operands]))])
theorem vp_len (a : List Operand) (t : Array TypeId) : vOps P w₀ ops (⟨dst, .call ⟨.builtin .len, a.toArray, t⟩, ty, pos, af, none⟩ :: rest) s h K = ((pop P w₀ h s (.call ⟨.builtin .len, a.toArray, t⟩)).pre ∧ vOps P w₀ ops rest (putD s dst (pop P w₀ h s (.call ⟨.builtin .len, a.toArray, t⟩)).val) h K) :=
  vp_of rfl (by
    simp only [pop]
    rw [evs_keep fun x hx => looks_of (o := ⟨dst, .call ⟨.builtin .len, a.toArray, t⟩, ty, pos, af, none⟩) (by simp [Op.operands, Call.operands, hx])])
theorem vp_max (a : List Operand) (t : Array TypeId) : vOps P w₀ ops (⟨dst, .call ⟨.builtin .max, a.toArray, t⟩, ty, pos, af, none⟩ :: rest) s h K = ((pop P w₀ h s (.call ⟨.builtin .max, a.toArray, t⟩)).pre ∧ vOps P w₀ ops rest (putD s dst (pop P w₀ h s (.call ⟨.builtin .max, a.toArray, t⟩)).val) h K) :=
  vp_of rfl (by
    simp only [pop]
    rw [evs_keep fun x hx => looks_of (o := ⟨dst, .call ⟨.builtin .max, a.toArray, t⟩, ty, pos, af, none⟩) (by simp [Op.operands, Call.operands, hx])])
theorem evO_keep {s : Slots} {L : List Nat} {x : Option Operand} (h : ∀ y, x = some y → ∀ t, y = .tmp t → t ∈ L) : evO (s.keep L) x = evO s x := by
  cases x with
  | none => rfl
  | some y => simp only [evO, ev_keep (h y rfl)]
theorem vp_convert (t u : TypeId) (x : Operand) (hs : (!eStrBytes P t u && !eSame P t u) = true) : vOps P w₀ ops (⟨dst, .convert t u x, ty, pos, af, none⟩ :: rest) s h K = ((pop P w₀ h s (.convert t u x)).pre ∧ vOps P w₀ ops rest (putD s dst (pop P w₀ h s (.convert t u x)).val) h K) :=
  vp_of (pu_convert t u x hs) (by simp only [pop, ev_keep (looks_of (o := ⟨dst, .convert t u x, ty, pos, af, none⟩) (x := x) (by simp [Op.operands]))])
theorem vp_slice (t : TypeId) (x : Operand) (a b c : Option Operand) : vOps P w₀ ops (⟨dst, .slice t x a b c, ty, pos, af, none⟩ :: rest) s h K = ((pop P w₀ h s (.slice t x a b c)).pre ∧ vOps P w₀ ops rest (putD s dst (pop P w₀ h s (.slice t x a b c)).val) h K) :=
  vp_of (rfl) (by simp only [pop, ev_keep (looks_of (o := ⟨dst, .slice t x a b c, ty, pos, af, none⟩) (x := x) (by simp [Op.operands])), evO_keep (x := a) fun y hy => looks_of (o := ⟨dst, .slice t x a b c, ty, pos, af, none⟩) (x := y) (by simp [Op.operands, hy]), evO_keep (x := b) fun y hy => looks_of (o := ⟨dst, .slice t x a b c, ty, pos, af, none⟩) (x := y) (by simp [Op.operands, hy]), evO_keep (x := c) fun y hy => looks_of (o := ⟨dst, .slice t x a b c, ty, pos, af, none⟩) (x := y) (by simp [Op.operands, hy])])
/-- A call whose answer is one value and that leaves the heap. -/
theorem vOps_callV {fo : Operand} {args : List Operand} {ts : Array TypeId} {f : FuncId} {cap xs : List AVal} {V : AVal} (hf : ev s fo = .func f cap) (hx : evs s args ++ cap = xs) (hc : ACall P w₀ f xs h (fun x h' => x = V ∧ h' = h))
    (hk : vOps P w₀ ops rest (putD s dst V) h K) : vOps P w₀ ops (⟨dst, .call ⟨.value fo, args.toArray, ts⟩, ty, pos, af, none⟩ :: rest) s h K := by
  simp only [vOps]
  refine ⟨V, ?_, hk⟩
  have e1 : ev (s.keep (looksL ops ⟨dst, .call ⟨.value fo, args.toArray, ts⟩, ty, pos, af, none⟩)) fo = .func f cap := by
    rw [ev_keep (looks_of (by simp [Op.operands, Call.operands]))]; exact hf
  have e2 : evs (s.keep (looksL ops ⟨dst, .call ⟨.value fo, args.toArray, ts⟩, ty, pos, af, none⟩)) args = evs s args :=
    evs_keep fun x hx => looks_of (by simp [Op.operands, Call.operands, hx])
  simp only [eop, e1, e2, hx]
  exact hc
theorem vOps_gcall {fo : Operand} {args : List Operand} {ts : Array TypeId} {j : Nat} {want : Bool} {f : FuncId} {cap xs : List AVal} {V : AVal} (hk : gKnown (gv s ops j) = true)
    (hf : guardB (gv s ops j) want = true → ev s fo = .func f cap ∧ evs s args ++ cap = xs) (hc : guardB (gv s ops j) want = true → ACall P w₀ f xs h (fun x h' => x = V ∧ h' = h))
    (hr : vOps P w₀ ops rest (putD s dst (condV (guardB (gv s ops j) want) V)) h K) :
    vOps P w₀ ops (⟨dst, .call ⟨.value fo, args.toArray, ts⟩, ty, pos, af, some (j, want)⟩ :: rest) s h K := by
  unfold gv at hk hf hc hr
  simp only [vOps]
  cases hj : nthDst ops j with
  | none => rw [hj] at hk; cases hk
  | some d =>
    simp only [hj] at hk hf hc hr ⊢
    refine ⟨hk, V, fun hg => ?_, hr⟩
    have e1 : ev (s.keep (looksL ops ⟨dst, .call ⟨.value fo, args.toArray, ts⟩, ty, pos, af, some (j, want)⟩)) fo = .func f cap := by
      rw [ev_keep (looks_of (by simp [Op.operands, Call.operands]))]; exact (hf hg).1
    have e2 : evs (s.keep (looksL ops ⟨dst, .call ⟨.value fo, args.toArray, ts⟩, ty, pos, af, some (j, want)⟩)) args = evs s args :=
      evs_keep fun x hx => looks_of (by simp [Op.operands, Call.operands, hx])
    simp only [eop, e1, e2, (hf hg).2]
    exact hc hg
end
end Go.AM

/-
  An assertion layer over the model's wp, part R: statements of open order that end in operations that write.
  Conditions: none. Nothing here is about a particular program.
-/
namespace Go.AM
open Go.RowKit (Below)

section
variable {P : Program} {w₀ : World} {n : Nat} {h : AHeap}

theorem vOps_stepsT {l : List Oper} (tl : List Oper) (hall : dstsOk n l = true) {s : Slots} {K : Slots → AHeap → Prop} : ∀ (rest pre : List Oper) (A : List AVal), l = pre ++ rest ++ tl → A.length = pre.length → vOps P w₀ l rest (slotsAt s l A pre.length) h K →
    ∃ B : List AVal, B.length = rest.length ∧ (∀ i o, pre.length ≤ i → i < pre.length + rest.length → l[i]? = some o → StepOk P w₀ n h l o (slotsAt s l (A ++ B) i) ((A ++ B).getD i .dead)) ∧ K (slotsAt s l (A ++ B) (pre.length + rest.length)) h
  | [], pre, A, hl, hA, hv => ⟨[], rfl, fun i o hi hi' ho => by
      simp only [List.length_nil] at hi'
      omega, by
      rw [List.append_nil]; exact hv⟩
  | o :: rest, pre, A, hl, hA, hv => by
    have hat : l[pre.length]? = some o := by rw [hl]; simp
    have go : ∀ V, StepOk P w₀ n h l o (slotsAt s l A pre.length) V → vOps P w₀ l rest (putD (slotsAt s l A pre.length) o.dst V) h K →
        ∃ B : List AVal, B.length = (o :: rest).length ∧ (∀ i o, pre.length ≤ i → i < pre.length + (rest.length + 1) → l[i]? = some o → StepOk P w₀ n h l o (slotsAt s l (A ++ B) i) ((A ++ B).getD i .dead)) ∧ K (slotsAt s l (A ++ B) (pre.length + (rest.length + 1))) h := by
      intro V hst hv'
      have e : slotsAt s l (A ++ [V]) (pre ++ [o]).length = putD (slotsAt s l A pre.length) o.dst V := by
        rw [List.length_append, List.length_singleton, slotsAt, hat]
        simp only
        rw [slotsAt_take s l A [V] _ (by omega)]
        congr 1
        simp [List.getD, ← hA]
      obtain ⟨B, h1, h2, h3⟩ := vOps_stepsT tl hall rest (pre ++ [o]) (A ++ [V]) (by simp [hl]) (by simp [hA]) (by rw [e]; exact hv')
      refine ⟨V :: B, by simp [h1], fun i o' hi hi' ho' => ?_, by simpa [Nat.add_assoc, Nat.add_comm 1] using h3⟩
      rcases Nat.eq_or_lt_of_le hi with e' | e'
      · subst e'
        rw [hat] at ho'
        obtain rfl := Option.some.inj ho'
        rw [slotsAt_take s l A (V :: B) _ (by omega)]
        have : (A ++ V :: B).getD pre.length .dead = V := by simp [List.getD, ← hA]
        rw [this]
        exact hst
      · have := h2 i o' (by simp; omega) (by simp at hi' ⊢; omega) ho'
        simpa using this
    simp only [vOps] at hv
    cases hg : o.guard with
    | none =>
      simp only [hg] at hv
      obtain ⟨V, h1, h2⟩ := hv
      exact go V (.plain hg h1) h2
    | some gw =>
      obtain ⟨j, want⟩ := gw
      simp only [hg] at hv
      cases hj : nthDst l j with
      | none =>
        simp only [hj] at hv
        exact go _ (.never hg hj) hv
      | some d =>
        simp only [hj] at hv
        obtain ⟨hk, V, h1, h2⟩ := hv
        exact go _ (.guarded hall hg hj hk h1) h2


/-- The order of a statement's first k operations leaves each what it looks at. -/
def orderBk (l : List Oper) (k : Nat) : Bool :=
  (List.range k).all fun i => match l[i]? with
    | none => true
    | some oi => (oi.after.all fun e => !Region.binds .any e || decide (e.on < i)) &&
      (List.range k).all fun j => match l[j]? with
        | none => true
        | some oj => (match oj.dst with
            | none => true
            | some t => (decide (i = j) || decide (oi.dst ≠ some t)) &&
                (!(looksL l oi).contains t || (decide (j < i) && Region.waitsFor .any l.toArray i j) || (decide (i < j) && Region.waitsFor .any l.toArray j i)))

theorem orderBk_spec {l : List Oper} {k : Nat} (hB : orderBk l k = true) {i : Nat} {oi : Oper} (hik : i < k) (hi : l[i]? = some oi) :
    (∀ e ∈ oi.after, Region.binds .any e = true → e.on < i) ∧ ∀ j oj t, j < k → l[j]? = some oj → oj.dst = some t → (oi.dst = some t → i = j) ∧
      (t ∈ looksL l oi → (j < i ∧ Region.waitsFor .any l.toArray i j = true) ∨ (i < j ∧ Region.waitsFor .any l.toArray j i = true)) := by
  unfold orderBk at hB
  rw [List.all_eq_true] at hB
  have h1 := hB i (by rw [List.mem_range]; exact hik)
  simp only [hi, Bool.and_eq_true] at h1
  obtain ⟨ha, hb⟩ := h1
  refine ⟨fun e he hbd => ?_, fun j oj t hjk hj hd => ?_⟩
  · rw [Array.all_eq_true'] at ha
    have := ha e he
    simpa [hbd] using this
  · rw [List.all_eq_true] at hb
    have h2 := hb j (by rw [List.mem_range]; exact hjk)
    simp only [hj, hd, Bool.and_eq_true, Bool.or_eq_true, decide_eq_true_eq, Bool.not_eq_true', List.contains_eq_mem] at h2
    refine ⟨fun he => ?_, fun ht => ?_⟩
    · rcases h2.1 with e | e
      · exact e
      · exact absurd he e
    · rcases h2.2 with (e | e) | e
      · exact absurd ht (by simpa using e)
      · exact .inl e
      · exact .inr e

theorem slotsAt_writerK {l : List Oper} {k : Nat} (hB : orderBk l k = true) (hk : k ≤ l.length) (s : Slots) (Vs : List AVal) {j : Nat} {oj : Oper} {t : Nat} (hjk : j < k) (hj : l[j]? = some oj) (hd : oj.dst = some t) : ∀ i, j < i → i ≤ k → (slotsAt s l Vs i).get t = Vs.getD j .dead
  | 0, h, _ => by omega
  | i + 1, h, hi => by
    obtain ⟨o, ho⟩ : ∃ o, l[i]? = some o := ⟨_, List.getElem?_eq_getElem (show i < l.length by omega)⟩
    simp only [slotsAt, ho, put_get]
    by_cases e : o.dst = some t
    · have : i = j := (((orderBk_spec hB (by omega) ho).2 j oj t hjk hj hd).1 e)
      subst this
      rw [if_pos e]
    · rw [if_neg e]
      refine slotsAt_writerK hB hk s Vs hjk hj hd i ?_ (by omega)
      rcases Nat.eq_or_lt_of_le (Nat.le_of_lt_succ h) with e' | e'
      · subst e'
        rw [hj] at ho
        obtain rfl := Option.some.inj ho
        exact absurd hd e
      · exact e'

/-- The first k of m are listed. -/
def firstK (m k : Nat) : Array Bool := ((List.range m).map fun j => decide (j < k)).toArray

structure AnyInvK (l : List Oper) (k : Nat) (Vs : List AVal) (s : Slots) (ψ : PMap) (n : Nat) (listed : Array Bool) (a : Act) : Prop where
  head : HeadInv .any l.toArray k listed
  tsize : a.tmps.size = n
  defers : a.defers = []
  done : ∀ t j oj, j < k → l[j]? = some oj → oj.dst = some t → listed.getD j false = true → VR ψ (Vs.getD j .dead) (a.tmps.getD t undef)
  still : ∀ t, (∀ j oj, j < k → l[j]? = some oj → oj.dst = some t → listed.getD j false = false) → VR ψ (s.get t) (a.tmps.getD t undef)

theorem any_okK {l : List Oper} {k : Nat} (hk : k < l.length) (hall : dstsOk n l = true) (hB : orderBk l k = true) (hsink : Region.sinkB .any l.toArray k = true) (hchain : Region.chainB .any l.toArray k = true)
    (hseq : Region.seqB .any l.toArray (l.length - k) k (firstK l.length k) = true) {s : Slots} {Vs : List AVal} (hst : ∀ i o, i < k → l[i]? = some o → StepOk P w₀ n h l o (slotsAt s l Vs i) (Vs.getD i .dead)) {φ : PMap} {Q : Exit → Act → World → Prop}
    (hq : ∀ ψ a w, φ.le ψ → HRel w₀ ψ h w → SRel ψ n (slotsAt s l Vs k) a → wpList P l.toArray Q (l.drop k) a w) : ∀ (fuel : Nat) (listed : Array Bool) (a : Act) (w : World) (ψ : PMap), φ.le ψ → HRel w₀ ψ h w → AnyInvK l k Vs s ψ n listed a →
    (listed.toList.filter (!·)).length = fuel → wpAny P .any l.toArray Q fuel listed a w := by
  have hsize : k < l.toArray.size := by simpa using hk
  -- all of the head are listed
  have fin : ∀ (fuel : Nat) (listed : Array Bool) (a : Act) (w : World) (ψ : PMap), φ.le ψ → HRel w₀ ψ h w → AnyInvK l k Vs s ψ n listed a → (∀ j, j < k → listed.getD j false = true) → (listed.toList.filter (!·)).length = fuel → wpAny P .any l.toArray Q fuel listed a w := by
    intro fuel listed a w ψ hle hr inv hdone hc
    have hls : listed.size = l.length := by have := inv.head.size; simpa using this
    have hl : listed = firstK l.length k := by
      apply Array.ext
      · rw [hls]; simp [firstK]
      · intro i h1 h2
        have hi : i < l.length := by omega
        have e2 : (firstK l.length k)[i] = decide (i < k) := by simp [firstK]
        rw [e2]
        by_cases hik : i < k
        · have := hdone i hik
          simp [Array.getD, h1] at this
          simp [this, hik]
        · have := inv.head.tail i (by omega) (by simpa using hi)
          simp [Array.getD, h1] at this
          simp [this, hik]
    have hfuel : fuel = (l.drop k).length := by
      rw [← hc, hl]
      have : ∀ m k, k ≤ m → (((List.range m).map fun j => decide (j < k)).filter (!·)).length = m - k := by
        intro m k
        induction m with
        | zero => intro _; simp
        | succ m ih =>
          intro hkm
          rw [List.range_succ, List.map_append, List.filter_append, List.length_append]
          rcases Nat.lt_or_ge m k with c | c
          · have e1 : m + 1 = k := by omega
            have e2 : ((List.range m).map fun j => decide (j < k)).filter (!·) = [] := by
              rw [List.filter_eq_nil_iff]
              intro b hb
              simp only [List.mem_map, List.mem_range] at hb
              obtain ⟨j, hj, rfl⟩ := hb
              have : j < k := by omega
              simp [this]
            rw [e2]
            simp [c]
            omega
          · rw [ih c]
            have : ¬ m < k := by omega
            simp [this]
            omega
      simp only [firstK, List.length_drop]
      exact this l.length k (by omega)
    rw [hfuel, hl]
    refine wpAny_of_seq (l.drop k) k _ a w (fun j => by simp [List.getElem?_drop]) (by rw [List.length_drop]; exact hseq) ?_
    refine hq ψ a w hle hr ⟨inv.tsize, inv.defers, fun t => ?_⟩
    by_cases hw : ∃ (j : Nat) (oj : Oper), j < k ∧ l[j]? = some oj ∧ oj.dst = some t
    · obtain ⟨j, oj, hjk, hj, hd⟩ := hw
      rw [slotsAt_writerK hB (by omega) s Vs hjk hj hd k hjk (Nat.le_refl _)]
      exact inv.done t j oj hjk hj hd (hdone j hjk)
    · rw [slotsAt_none s Vs k fun j oj hjk hj hd => hw ⟨j, oj, hjk, hj, hd⟩]
      exact inv.still t fun j oj hjk hj hd => absurd ⟨j, oj, hjk, hj, hd⟩ hw
  intro fuel
  induction fuel with
  | zero =>
    intro listed a w ψ hle hr inv hc
    exfalso
    have hls : listed.size = l.length := by have := inv.head.size; simpa using this
    have h1 := inv.head.tail k (Nat.le_refl _) hsize
    have hkz : k < listed.size := by omega
    have h2 : listed.toList[k]? = some false := by
      simp [Array.getD, hkz] at h1
      simp [hkz, h1]
    have hmem : false ∈ listed.toList.filter (!·) := by simp [List.mem_filter, List.mem_of_getElem? h2]
    have := List.length_pos_of_mem hmem
    omega
  | succ fuel ih =>
    intro listed a w ψ hle hr inv hc
    have hls : listed.size = l.length := by have := inv.head.size; simpa using this
    by_cases hdone : ∀ j, j < k → listed.getD j false = true
    · exact fin _ listed a w ψ hle hr inv hdone hc
    · obtain ⟨u, hu, hul⟩ : ∃ u, u < k ∧ listed.getD u true = false := by
        refine Classical.byContradiction fun hne => hdone fun j hj => ?_
        have hjs : j < listed.size := by omega
        cases e : listed.getD j false with
        | true => rfl
        | false =>
          exfalso
          refine hne ⟨j, hj, ?_⟩
          simp [Array.getD, hjs] at e ⊢; exact e
      refine ⟨fun hrd => ?_, fun i hi => ?_⟩
      · exfalso
        -- the least that is not listed may come up
        have : ∀ i, i < k → listed.getD i false = true := by
          intro i
          induction i using Nat.strongRecOn with
          | ind i ihh =>
            intro hik
            cases hl : listed.getD i false with
            | true => rfl
            | false =>
              exfalso
              obtain ⟨o, ho⟩ : ∃ o, l[i]? = some o := ⟨_, List.getElem?_eq_getElem (by omega)⟩
              have : i ∈ Region.ready .any l.toArray listed := by
                rw [mem_ready]
                refine ⟨?_, o, by simpa using ho, fun e he hb => ?_⟩
                · have hi' : i < listed.size := by omega
                  simp [Array.getD, hi'] at hl ⊢; exact hl
                · have hlt := (orderBk_spec hB hik ho).1 e he hb
                  exact ihh e.on hlt (by omega)
              rw [hrd] at this
              cases this
        exact hdone this
      · have hik : i < k := by
          rcases Nat.lt_or_ge i k with c | c
          · exact c
          · exact absurd hi (tail_waits hsink hchain hsize inv.head _ u rfl hu hul i c)
        obtain ⟨h1, o, ho, hedges⟩ := mem_ready.1 hi
        have hol : l[i]? = some o := by simpa using ho
        have hisz : i < listed.size := by omega
        have hif : listed.getD i false = false := by simp [Array.getD, hisz] at h1 ⊢; exact h1
        have spec := orderBk_spec hB hik hol
        have hs : SRel ψ n ((slotsAt s l Vs i).keep (looksL l o)) a := by
          refine ⟨inv.tsize, inv.defers, fun t => ?_⟩
          rw [Slots.get_keep]
          by_cases ht : (looksL l o).contains t = true
          · rw [if_pos ht]
            have ht' : t ∈ looksL l o := by simpa using ht
            by_cases hw : ∃ (j : Nat) (oj : Oper), j < k ∧ l[j]? = some oj ∧ oj.dst = some t
            · obtain ⟨j, oj, hjk, hj, hd⟩ := hw
              rcases (spec.2 j oj t hjk hj hd).2 ht' with ⟨c1, c2⟩ | ⟨c1, c2⟩
              · rw [slotsAt_writerK hB (by omega) s Vs hjk hj hd i c1 (by omega)]
                refine inv.done t j oj hjk hj hd ?_
                obtain ⟨oi, g1, e, g2, g3, g4⟩ := Region.waitsFor_spec c2
                rw [ho] at g1
                obtain rfl := Option.some.inj g1
                rw [← g4]
                exact hedges e g2 g3
              · rw [slotsAt_none s Vs i fun j' oj' hj'' hj' hd' => by
                  have := ((orderBk_spec hB (by omega) hj').2 j oj t hjk hj hd).1 hd'
                  omega]
                refine inv.still t fun j' oj' hjk' hj' hd' => ?_
                have e := ((orderBk_spec hB hjk' hj').2 j oj t hjk hj hd).1 hd'
                subst e
                cases hl : listed.getD j' false with
                | false => rfl
                | true =>
                  exfalso
                  obtain ⟨oi, g1, e, g2, g3, g4⟩ := Region.waitsFor_spec c2
                  have := inv.head.closed j' oi g1 hl e g2 g3
                  rw [g4, hif] at this
                  cases this
            · rw [slotsAt_none s Vs i fun j oj hji hj hd => hw ⟨j, oj, by omega, hj, hd⟩]
              exact inv.still t fun j oj hjk hj hd => absurd ⟨j, oj, hjk, hj, hd⟩ hw
          · rw [if_neg ht]
            trivial
        have step := hst i o hik hol ψ w a (wpAny P .any l.toArray Q fuel (listed.setIfInBounds i true)) Q hr hs fun ψ' v w' hle' hr' hv => by
          have hdn : ∀ d, o.dst = some d → d < n := fun d hd => nth_lt l i d hall (by rw [nthDst_eq, hol]; exact hd)
          refine ih _ _ _ ψ' (PMap.le_trans hle hle') hr' ⟨inv.head.set hi hik, ?_, ?_, fun t j oj hjk hj hd hl => ?_, fun t hun => ?_⟩ ?_
          · cases hod : o.dst with
            | none => simpa [Act.put] using inv.tsize
            | some d => simpa [Act.put] using inv.tsize
          · cases hod : o.dst with
            | none => simpa [Act.put] using inv.defers
            | some d => simpa [Act.put] using inv.defers
          · by_cases e : j = i
            · subst e
              rw [hol] at hj
              obtain rfl := Option.some.inj hj
              have hlt : t < a.tmps.size := by rw [inv.tsize]; exact hdn t hd
              have : (a.put o.dst v).tmps.getD t undef = v := by rw [hd]; simp [Act.put, hlt]
              rw [this]; exact hv
            · rw [set_other e] at hl
              have hne : o.dst ≠ some t := fun hod => e (((spec.2 j oj t hjk hj hd).1 hod).symm)
              have : (a.put o.dst v).tmps.getD t undef = a.tmps.getD t undef := by
                cases hod : o.dst with
                | none => rfl
                | some d =>
                  have hdt : d ≠ t := fun e => hne (by rw [hod, e])
                  simp [Act.put, Array.getD_eq_getD_getElem?, Array.getElem?_setIfInBounds_ne hdt]
              rw [this]
              exact VR_mono hle' _ _ (inv.done t j oj hjk hj hd hl)
          · have hne : o.dst ≠ some t := fun hod => by
              have := hun i o hik hol hod
              rw [set_self hisz] at this
              cases this
            have : (a.put o.dst v).tmps.getD t undef = a.tmps.getD t undef := by
              cases hod : o.dst with
              | none => rfl
              | some d =>
                have hdt : d ≠ t := fun e => hne (by rw [hod, e])
                simp [Act.put, Array.getD_eq_getD_getElem?, Array.getElem?_setIfInBounds_ne hdt]
            rw [this]
            refine VR_mono hle' _ _ (inv.still t fun j oj hjk hj hd => ?_)
            have e : j ≠ i := fun e => by subst e; rw [hol] at hj; obtain rfl := Option.some.inj hj; exact hne hd
            have := hun j oj hjk hj hd
            rwa [set_other e] at this
          · have h2 : listed.toList[i]? = some false := by
              simp [Array.getD, hisz] at h1
              simp [hisz, h1]
            have := count_set listed.toList i h2
            have e : (listed.setIfInBounds i true).toList = listed.toList.set i true := by simp
            rw [e]
            omega
        simp only [wpOp, ho]
        split
        · rename_i hw
          rw [if_pos hw] at step
          exact .inl step
        · rename_i hw
          rw [if_neg hw] at step
          exact step

/-- The static conditions of a statement of open order with k operations ahead of those that write. -/
def tailB (l : List Oper) (k : Nat) : Bool :=
  decide (k < l.length) && orderBk l k && Region.sinkB .any l.toArray k && Region.chainB .any l.toArray k && Region.seqB .any l.toArray (l.length - k) k (firstK l.length k)

theorem awp_draw_anyT {Q : Exit → Slots → AHeap → Prop} {s : Slots} {id : Nat} {l : List Oper} (k : Nat) (hm : P.follows .mixedOrders = true) (hB : tailB l k = true) (hd : dstsOk n l = true)
    (hc : vOps P w₀ l (l.take k) s h (fun s' h' => aOps P w₀ l (l.drop k) s' h' (fun s'' h'' => Q .normal s'' h''))) : Awp P w₀ n (.region id l.toArray true) Q s h := by
  intro φ a w hr hs
  simp only [tailB, Bool.and_eq_true, decide_eq_true_eq] at hB
  obtain ⟨⟨⟨⟨hk, h1⟩, h2⟩, h3⟩, h4⟩ := hB
  obtain ⟨Vs, g1, g2, g3⟩ := vOps_stepsT (P := P) (w₀ := w₀) (n := n) (h := h) (l.drop k) hd (s := s) (l.take k) [] [] (by simp) rfl hc
  have htl : (l.take k).length = k := by simp; omega
  simp only [List.nil_append, List.length_nil, Nat.zero_le, true_implies, Nat.zero_add, htl] at g1 g2 g3
  refine wp_region_any hm ?_
  have dtake : ∀ (l : List Oper) (m : Nat), dstsOk n l = true → dstsOk n (l.drop m) = true := by
    intro l
    induction l with
    | nil => intro m _; simp [dstsOk]
    | cons o r ih =>
      intro m h
      cases m with
      | zero => simpa using h
      | succ m =>
        simp only [dstsOk, Bool.and_eq_true] at h
        simpa using ih m h.2
  refine any_okK (φ := φ) hk hd h1 h2 h3 h4 (s := s) (Vs := Vs) (fun i o hi ho => g2 i o hi ho) (fun ψ a' w' hle hr' hs' => ?_) _ _ _ _ φ φ.le_refl hr.drew ?_ ?_
  · have := aOps_ok (P := P) (w₀ := w₀) l n hd (l.drop k) k ψ _ h a' w' _ (fun e a' w' => ∃ χ s' h', φ.le χ ∧ HRel w₀ χ h' w' ∧ SRel χ n s' a' ∧ Q e s' h') (fun j => by simp [List.getElem?_drop]) (dtake l k hd) g3 hr' hs'
      (fun χ s' h' a' w' e1 e2 e3 e4 => ⟨χ, s', h', PMap.le_trans hle e1, e2, e3, e4⟩)
    rw [wpOps_eq_wpList (l.drop k) k (fun j => by simp [List.getElem?_drop])] at this
    exact this
  · have hf : ∀ j, (Array.replicate l.toArray.size false).getD j false = false := fun j => by
      simp [Array.getD]
    exact ⟨⟨by simp, fun j oj _ hl => (by rw [getD_replicate_false] at hl; cases hl), fun t _ ht => getD_in (by simpa using ht) (getD_replicate_false _ _)⟩, hs.size, hs.defers, fun t j oj _ _ _ hl => (by rw [hf] at hl; cases hl), fun t _ => hs.val t⟩
  · simp

theorem awp_dseq_anyT {Q : Exit → Slots → AHeap → Prop} {s : Slots} {id : Nat} {l : List Oper} {y : Code} (k : Nat) (L : List Nat) (hm : P.follows .mixedOrders = true) (hB : tailB l k = true) (hd : dstsOk n l = true)
    (hc : ∀ K : Slots → AHeap → Prop, (∀ s h, Awp P w₀ n y Q s h → K s h) → vOps P w₀ l (l.take k) s h (fun s' h' => aOps P w₀ l (l.drop k) s' h' (fun s'' h'' => K (s''.keep L) h''))) : Awp P w₀ n (.seq (.region id l.toArray true) y) Q s h :=
  awp_seq (awp_draw_anyT k hm hB hd (vOps_mono (hc (fun s h => Awp P w₀ n y Q s h) (fun _ _ hk => hk)) fun _ _ ha => awp_rseq.aOps_mono (fun _ _ hk => Awp.keep L hk) ha))
end
end Go.AM

/-
  An assertion layer over the model's wp, part S: statements of open order whose heap hangs on what has been listed (an alloc among the operations).
  Conditions: none. Nothing here is about a particular program.
-/
namespace Go.AM
open Go.RowKit (Below)

section
variable {P : Program} {w₀ : World} {n : Nat} {h : AHeap}

/-- What operation i does, in whatever order it comes up; HS tells the heap from what is listed. -/
def StepH (P : Program) (w₀ : World) (n : Nat) (HS : Array Bool → PMap → Act → World → Prop) (l : List Oper) (Vs : List AVal) (s : Slots) (i : Nat) (o : Oper) : Prop :=
  ∀ (listed : Array Bool) (ψ : PMap) (w : World) (a : Act) (next : Act → World → Prop) (Q : Exit → Act → World → Prop), listed.getD i false = false → i < listed.size → (∀ e ∈ o.after, Region.binds .any e = true → listed.getD e.on false = true) →
    HS listed ψ a w → AnyInv l Vs s ψ n listed a → SRel ψ n ((slotsAt s l Vs i).keep (looksL l o)) a →
    (∀ ψ' v w', ψ.le ψ' → HS (listed.setIfInBounds i true) ψ' (a.put o.dst v) w' → VR ψ' (Vs.getD i .dead) v → next (a.put o.dst v) w') →
    if Region.wanted o (yielded l.toArray a.tmps) = true then o.wp P a w next Q else next (a.put o.dst undef) w

/-- The heap of a statement that allocates at ia (into slot ta) and stores there at is. -/
def HSA (w₀ : World) (h : AHeap) (ia is ta : Nat) (zb b : Blk) (listed : Array Bool) (ψ : PMap) (a : Act) (w : World) : Prop :=
  (listed.getD ia false = false ∧ HRel w₀ ψ h w) ∨
  (listed.getD ia false = true ∧ ∃ k, h k = none ∧ VR ψ (.ptr (.own k) 0) (a.tmps.getD ta undef) ∧ HRel w₀ ψ (h.set k (if listed.getD is false then b else zb)) w)

theorem put_tmps_ne (a : Act) (d : Option Tmp) (v : Value) {t : Nat} (hne : d ≠ some t) : (a.put d v).tmps.getD t undef = a.tmps.getD t undef := by
  cases d with
  | none => rfl
  | some d =>
    have hdt : d ≠ t := fun e => hne (by rw [e])
    simp [Act.put, Array.getD_eq_getD_getElem?, Array.getElem?_setIfInBounds_ne hdt]

theorem StepH.plain {l : List Oper} {Vs : List AVal} {s : Slots} {i : Nat} {o : Oper} {ia is ta : Nat} {zb b : Blk} (hi : i ≠ ia) (hi' : i ≠ is) (hdt : o.dst ≠ some ta)
    (h1 : StepOk P w₀ n h l o (slotsAt s l Vs i) (Vs.getD i .dead)) (h2 : ∀ k c, h k = none → StepOk P w₀ n (h.set k c) l o (slotsAt s l Vs i) (Vs.getD i .dead)) : StepH P w₀ n (HSA w₀ h ia is ta zb b) l Vs s i o := by
  intro listed ψ w a next Q hl hsz he hH inv hs hn
  rcases hH with ⟨e1, hr⟩ | ⟨e1, k, hk, hv, hr⟩
  · exact h1 ψ w a next Q hr hs fun ψ' v w' hle hr' hv' => hn ψ' v w' hle (.inl ⟨by rw [set_other (Ne.symm hi)]; exact e1, hr'⟩) hv'
  · refine h2 k _ hk ψ w a next Q hr hs fun ψ' v w' hle hr' hv' => hn ψ' v w' hle (.inr ⟨by rw [set_other (Ne.symm hi)]; exact e1, k, hk, ?_, ?_⟩) hv'
    · rw [put_tmps_ne a o.dst v hdt]; exact VR_mono hle _ _ hv
    · rw [set_other (Ne.symm hi')]; exact hr'

theorem StepH.alloc {l : List Oper} (hall : dstsOk n l = true) {Vs : List AVal} {s : Slots} {o : Oper} {ia is ta : Nat} {zb b : Blk} (hol : l[ia]? = some o) (hg : o.guard = none) (hd : o.dst = some ta) {e : TypeId} (hop : o.op = .alloc e) {z : Value} (hz : zeOf P e = some z)
    (hzb : zb = ⟨z.cells.toList.map absS, 0⟩) (hne : is ≠ ia) (hw : Region.waitsFor .any l.toArray is ia = true) (hV : Vs.getD ia .dead = .dead) : StepH P w₀ n (HSA w₀ h ia is ta zb b) l Vs s ia o := by
  intro listed ψ w a next Q hl hsz he hH inv hs hn
  have hwt : Region.wanted o (yielded l.toArray a.tmps) = true := by simp [Region.wanted, hg]
  rw [if_pos hwt]
  rcases hH with ⟨_, hr⟩ | ⟨e1, _⟩
  · have hlis : listed.getD is false = false := by
      cases hc : listed.getD is false with
      | false => rfl
      | true =>
        exfalso
        obtain ⟨oi, g1, e, g2, g3, g4⟩ := Region.waitsFor_spec hw
        have := inv.closed is oi (by simpa using g1) hc e g2 g3
        rw [g4, hl] at this
        cases this
    have heop : eop P w₀ h ((slotsAt s l Vs ia).keep (looksL l o)) o.op (fun x h' => ∃ k, h k = none ∧ x = .ptr (.own k) 0 ∧ h' = h.set k zb) := by
      rw [hop]
      simp only [eop, hz]
      exact fun k hk => ⟨k, hk, rfl, by rw [hzb]⟩
    refine eop_ok o heop hr hs fun ψ' x h' v w' h1 h2 h3 ⟨k, hk, e1, e2⟩ => ?_
    subst e1 e2
    have hlt : ta < a.tmps.size := by rw [inv.tsize]; exact nth_lt l ia ta hall (by rw [nthDst_eq, hol]; exact hd)
    refine hn ψ' v w' h1 (.inr ⟨set_self hsz, k, hk, ?_, ?_⟩) (by rw [hV]; trivial)
    · have : (a.put o.dst v).tmps.getD ta undef = v := by rw [hd]; simp [Act.put, hlt]
      rw [this]; exact h3
    · rw [set_other hne, hlis, if_neg (by decide)]; exact h2
  · rw [hl] at e1; cases e1

theorem StepH.store {l : List Oper} {Vs : List AVal} {s : Slots} {o : Oper} {ia is ta : Nat} {zb b : Blk} (hol : l[is]? = some o) (hg : o.guard = none) (hd : o.dst = none) (hne : is ≠ ia) (hw : Region.waitsFor .any l.toArray is ia = true) (hV : Vs.getD is .dead = .dead)
    (hst : ∀ k, h k = none → eop P w₀ (h.set k zb) (((slotsAt s l Vs is).put ta (.ptr (.own k) 0)).keep (looksL l o)) o.op (fun _ h' => h' = h.set k b)) : StepH P w₀ n (HSA w₀ h ia is ta zb b) l Vs s is o := by
  intro listed ψ w a next Q hl hsz he hH inv hs hn
  have hwt : Region.wanted o (yielded l.toArray a.tmps) = true := by simp [Region.wanted, hg]
  rw [if_pos hwt]
  have hlia : listed.getD ia false = true := by
    obtain ⟨oi, g1, e, g2, g3, g4⟩ := Region.waitsFor_spec hw
    have g1' : l[is]? = some oi := by simpa using g1
    rw [hol] at g1'
    obtain rfl := Option.some.inj g1'
    rw [← g4]
    exact he e g2 g3
  rcases hH with ⟨e1, _⟩ | ⟨e1, k, hk, hv, hr⟩
  · rw [hlia] at e1; cases e1
  · rw [hl, if_neg (by decide)] at hr
    have hs' : SRel ψ n (((slotsAt s l Vs is).put ta (.ptr (.own k) 0)).keep (looksL l o)) a := by
      refine ⟨hs.size, hs.defers, fun t => ?_⟩
      have h0 := hs.val t
      rw [Slots.get_keep] at h0 ⊢
      by_cases hc : (looksL l o).contains t = true
      · rw [if_pos hc] at h0 ⊢
        rw [Slots.get_put]
        by_cases ht : t = ta
        · subst ht; simpa using hv
        · simpa [ht] using h0
      · rw [if_neg hc]; trivial
    refine eop_ok o (hst k hk) hr hs' fun ψ' x h' v w' h1 h2 h3 e2 => ?_
    subst e2
    refine hn ψ' v w' h1 (.inr ⟨by rw [set_other (Ne.symm hne)]; exact hlia, k, hk, ?_, ?_⟩) (by rw [hV]; trivial)
    · rw [hd]; exact VR_mono h1 _ _ hv
    · rw [set_self hsz, if_pos rfl]; exact h2

def Near (h g : AHeap) : Prop := g = h ∨ ∃ k c, h k = none ∧ g = h.set k c
theorem Near.sub {h g : AHeap} (hn : Near h g) : ∀ k b, h k = some b → g k = some b := by
  intro k b hb
  rcases hn with rfl | ⟨k', c, hk, rfl⟩
  · exact hb
  · rw [AHeap.set_ne]
    · exact hb
    · intro e; subst e; rw [hk] at hb; cases hb

variable {ops rest : List Oper} {dst : Option Tmp} {ty : TypeId} {pos : String} {af : Array Edge}
end
end Go.AM

/-
  An assertion layer over the model's wp, part T: one rule for statements of open order: operations that read, call or lay blocks in any order, late ones that only look at slots, and a chained tail.
  Conditions: none. Nothing here is about a particular program.
-/
namespace Go.AM
open Go.RowKit (Below)

/-! ### What an operation does hangs on what it looks at -/
theorem ev_mem {s : Slots} {L : List Nat} {op : Op} (hL : ∀ t ∈ opTmps op, t ∈ L) : ∀ x ∈ op.operands.toList, ev (s.keep L) x = ev s x := by
  intro x hx
  refine ev_keep fun t ht => hL t ?_
  subst ht
  exact List.mem_filterMap.2 ⟨_, hx, rfl⟩
theorem evs_mem {s s' : Slots} : ∀ {xs : List Operand}, (∀ x ∈ xs, ev s' x = ev s x) → evs s' xs = evs s xs
  | [], _ => rfl
  | x :: xs, h => by
    have := evs_mem (s := s) (s' := s') (xs := xs) fun y hy => h y (List.mem_cons_of_mem _ hy)
    simp only [evs, List.map_cons] at this ⊢
    rw [h x List.mem_cons_self, this]
theorem evP_mem {s s' : Slots} : ∀ {xs : List (Nat × Operand)}, (∀ p ∈ xs, ev s' p.2 = ev s p.2) → evP s' xs = evP s xs
  | [], _ => rfl
  | x :: xs, h => by
    have := evP_mem (s := s) (s' := s') (xs := xs) fun y hy => h y (List.mem_cons_of_mem _ hy)
    simp only [evP, List.map_cons] at this ⊢
    rw [h x List.mem_cons_self, this]
theorem evO_mem {s s' : Slots} {x : Option Operand} (h : ∀ y, x = some y → ev s' y = ev s y) : evO s' x = evO s x := by
  cases x with
  | none => rfl
  | some y => simp only [evO, h y rfl]

theorem pop_congr {P : Program} {w₀ : World} {h : AHeap} {s s' : Slots} (op : Op) (E : ∀ x ∈ op.operands.toList, ev s' x = ev s x) : pop P w₀ h s' op = pop P w₀ h s op := by
  cases op with
  | move x => simp only [pop, E x (by simp [Op.operands])]
  | assign x => simp only [pop, E x (by simp [Op.operands])]
  | pick c a b => simp only [pop, E c (by simp [Op.operands]), E a (by simp [Op.operands]), E b (by simp [Op.operands])]
  | binOp o t x y u => simp only [pop, E x (by simp [Op.operands]), E y (by simp [Op.operands])]
  | unOp o t x => simp only [pop, E x (by simp [Op.operands])]
  | convert a b x => simp only [pop, E x (by simp [Op.operands])]
  | load t x => simp only [pop, E x (by simp [Op.operands])]
  | field t x f => simp only [pop, E x (by simp [Op.operands])]
  | fieldAddr t x f => simp only [pop, E x (by simp [Op.operands])]
  | index t x i => simp only [pop, E x (by simp [Op.operands]), E i (by simp [Op.operands])]
  | indexAddr t x i => simp only [pop, E x (by simp [Op.operands]), E i (by simp [Op.operands])]
  | slice t x lo hi mx =>
    simp only [pop, E x (by simp [Op.operands])]
    rw [evO_mem (s := s) (s' := s') (x := lo) fun y hy => E y (by subst hy; simp [Op.operands]), evO_mem (s := s) (s' := s') (x := hi) fun y hy => E y (by subst hy; simp [Op.operands]), evO_mem (s := s) (s' := s') (x := mx) fun y hy => E y (by subst hy; simp [Op.operands])]
  | extract x i => simp only [pop, E x (by simp [Op.operands])]
  | nilCheck x => simp only [pop, E x (by simp [Op.operands])]
  | build t ps =>
    simp only [pop]
    rw [evP_mem (s := s) (s' := s') fun p hp => E p.2 (by simp only [Op.operands, List.toList_toArray, List.mem_map]; exact ⟨p, hp, rfl⟩)]
  | makeFunc fn first cap =>
    simp only [pop]
    rw [evs_mem (s := s) (s' := s') (xs := cap.toList) fun x hx => E x (by simp only [Op.operands, Array.toList_append, List.mem_append]; exact .inr hx)]
  | makeInterface t x => simp only [pop, E x (by simp [Op.operands])]
  | call c =>
    obtain ⟨callee, args, ts⟩ := c
    simp only [pop]
    cases callee with
    | builtin b =>
      simp only
      rw [evs_mem (s := s) (s' := s') (xs := args.toList) fun x hx => E x (by simp only [Op.operands, Call.operands, Array.toList_append, List.mem_append]; exact .inr hx)]
    | _ => rfl
  | _ => rfl

theorem eop_congr {P : Program} {w₀ : World} {h : AHeap} {s s' : Slots} (op : Op) {K : AVal → AHeap → Prop} (E : ∀ x ∈ op.operands.toList, ev s' x = ev s x) : eop P w₀ h s' op K = eop P w₀ h s op K := by
  have hp := pop_congr (P := P) (w₀ := w₀) (h := h) (s := s) (s' := s') op E
  cases op with
  | box e x => simp only [eop, E x (by simp [Op.operands])]
  | buildSlice t n ps =>
    simp only [eop]
    rw [evP_mem (s := s) (s' := s') fun p hp => E p.2 (by simp only [Op.operands, List.toList_toArray, List.mem_map]; exact ⟨p, hp, rfl⟩)]
  | store t x v => simp only [eop, E x (by simp [Op.operands]), E v (by simp [Op.operands])]
  | makeSlice t n c => simp only [eop, E n (by simp [Op.operands]), E c (by simp [Op.operands])]
  | convert a b x => simp only [eop, E x (by simp [Op.operands]), hp]
  | call c =>
    obtain ⟨callee, args, ts⟩ := c
    have hx : evs s' args.toList = evs s args.toList := evs_mem fun x hx => E x (by simp only [Op.operands, Call.operands, Array.toList_append, List.mem_append]; exact .inr hx)
    cases callee with
    | value f =>
      simp only [eop, hx]
      rw [E f (by simp [Op.operands, Call.operands])]
    | builtin b => cases b <;> simp only [eop, hx] <;> rw [hp]
    | invoke r m => simp only [eop, hp]
  | alloc e => rfl
  | _ => simp only [eop, hp]

/-! ### Names that a value bears -/
mutual
/-- Each own block that the value names has a place. -/
def AVal.okIn (f : Nat → Bool) : AVal → Prop
  | .ptr (.own k) _ => f k = true
  | .slice (.own k) _ len c => match c with
    | .exact c => (c ≠ 0 ∨ len ≠ 0 → f k = true)
    | .grow _ => f k = true
  | .func _ cs => okInL f cs
  | .iface _ x => x.okIn f
  | .agg cs => okInL f cs
  | .tuple cs => okInL f cs
  | _ => True
def okInL (f : Nat → Bool) : List AVal → Prop
  | [] => True
  | x :: xs => x.okIn f ∧ okInL f xs
end

mutual
theorem okIn_of_VR {φ : PMap} : ∀ (x : AVal) (v : Value), VR φ x v → x.okIn (fun k => (φ k).isSome)
  | .dead, _, _ => by simp only [AVal.okIn]
  | .bool _, _, _ => by simp only [AVal.okIn]
  | .int _ _, _, _ => by simp only [AVal.okIn]
  | .str _, _, _ => by simp only [AVal.okIn]
  | .nilPtr, _, _ => by simp only [AVal.okIn]
  | .nilSlice, _, _ => by simp only [AVal.okIn]
  | .nilFunc, _, _ => by simp only [AVal.okIn]
  | .nilIface, _, _ => by simp only [AVal.okIn]
  | .nilMap, _, _ => by simp only [AVal.okIn]
  | .ptr (.base b) _, _, _ => by simp only [AVal.okIn]
  | .ptr (.own k) o, v, h => by
    simp only [VR, locAddr, Option.map_eq_some_iff] at h
    obtain ⟨a, ⟨p, hp, _⟩, _⟩ := h
    simp only [AVal.okIn, hp, Option.isSome_some]
  | .slice (.base b) _ _ _, _, _ => by simp only [AVal.okIn]
  | .slice (.own k) o len (.exact c), v, h => by
    simp only [VR, locAddr, Option.map_eq_some_iff] at h
    obtain ⟨a, _, h2⟩ := h
    simp only [AVal.okIn]
    intro hc
    obtain ⟨p, hp, _⟩ := h2 hc
    simp only [hp, Option.isSome_some]
  | .slice (.own k) o len (.grow es), v, h => by
    simp only [VR] at h
    obtain ⟨k', p, c, a, e, hp, _⟩ := h
    cases e
    simp only [AVal.okIn, hp, Option.isSome_some]
  | .func f cs, v, h => by
    simp only [VR] at h
    obtain ⟨vs, _, h2⟩ := h
    simp only [AVal.okIn]
    exact okInL_of_VRs cs vs h2
  | .iface t x, v, h => by
    simp only [VR] at h
    obtain ⟨y, _, h2⟩ := h
    simp only [AVal.okIn]
    exact okIn_of_VR x y h2
  | .agg cs, v, h => by
    simp only [VR] at h
    obtain ⟨vs, _, h2⟩ := h
    simp only [AVal.okIn]
    exact okInL_of_VRs cs vs h2
  | .tuple cs, v, h => by
    simp only [VR] at h
    obtain ⟨vs, _, h2⟩ := h
    simp only [AVal.okIn]
    exact okInL_of_VRs cs vs h2
theorem okInL_of_VRs {φ : PMap} : ∀ (xs : List AVal) (vs : List Value), VRs φ xs vs → okInL (fun k => (φ k).isSome) xs
  | [], _, _ => by simp only [okInL]
  | x :: xs, vs, h => by
    simp only [VRs] at h
    obtain ⟨v, vs', _, h1, h2⟩ := h
    simp only [okInL]
    exact ⟨okIn_of_VR x v h1, okInL_of_VRs xs vs' h2⟩
end

mutual
theorem VR_limit {φ ψ : PMap} {f : Nat → Bool} (hf : ∀ k, f k = true → φ k = ψ k) : ∀ (x : AVal) (v : Value), x.okIn f → VR φ x v → VR ψ x v
  | .dead, _, _, h => h
  | .bool _, _, _, h => h
  | .int _ _, _, _, h => h
  | .str _, _, _, h => h
  | .nilPtr, _, _, h => h
  | .nilSlice, _, _, h => h
  | .nilFunc, _, _, h => h
  | .nilIface, _, _, h => h
  | .nilMap, _, _, h => h
  | .ptr (.base b) _, _, _, h => h
  | .ptr (.own k) o, v, ok, h => by
    simp only [AVal.okIn] at ok
    simp only [VR, locAddr, ← hf k ok] at h ⊢
    exact h
  | .slice (.base b) _ _ (.exact c), _, _, h => h
  | .slice (.base b) _ _ (.grow c), v, _, h => by
    simp only [VR] at h
    obtain ⟨k, p, c, a, e, _⟩ := h
    cases e
  | .slice (.own k) o len (.exact c), v, ok, h => by
    simp only [AVal.okIn] at ok
    simp only [VR, locAddr] at h ⊢
    obtain ⟨a, h1, h2⟩ := h
    exact ⟨a, h1, fun hc => by rw [← hf k (ok hc)]; exact h2 hc⟩
  | .slice (.own k) o len (.grow es), v, ok, h => by
    simp only [AVal.okIn] at ok
    simp only [VR] at h ⊢
    obtain ⟨k', p, c, a, e, hp, rest⟩ := h
    cases e
    exact ⟨k, p, c, a, rfl, by rw [← hf k ok]; exact hp, rest⟩
  | .func f cs, v, ok, h => by
    simp only [AVal.okIn] at ok
    simp only [VR] at h ⊢
    obtain ⟨vs, h1, h2⟩ := h
    exact ⟨vs, h1, VRs_limit hf cs vs ok h2⟩
  | .iface t x, v, ok, h => by
    simp only [AVal.okIn] at ok
    simp only [VR] at h ⊢
    obtain ⟨y, h1, h2⟩ := h
    exact ⟨y, h1, VR_limit hf x y ok h2⟩
  | .agg cs, v, ok, h => by
    simp only [AVal.okIn] at ok
    simp only [VR] at h ⊢
    obtain ⟨vs, h1, h2⟩ := h
    exact ⟨vs, h1, VRs_limit hf cs vs ok h2⟩
  | .tuple cs, v, ok, h => by
    simp only [AVal.okIn] at ok
    simp only [VR] at h ⊢
    obtain ⟨vs, h1, h2⟩ := h
    exact ⟨vs, h1, VRs_limit hf cs vs ok h2⟩
theorem VRs_limit {φ ψ : PMap} {f : Nat → Bool} (hf : ∀ k, f k = true → φ k = ψ k) : ∀ (xs : List AVal) (vs : List Value), okInL f xs → VRs φ xs vs → VRs ψ xs vs
  | [], _, _, h => h
  | x :: xs, vs, ok, h => by
    simp only [okInL] at ok
    simp only [VRs] at h ⊢
    obtain ⟨v, vs', h0, h1, h2⟩ := h
    exact ⟨v, vs', h0, VR_limit hf x v ok.1 h1, VRs_limit hf xs vs' ok.2 h2⟩
end



/-- Names that nothing bears may be taken back. -/
theorem HRel.limit {w₀ w w' : World} {φ ψ ψ' : PMap} {g : AHeap} (hr : HRel w₀ φ g w) (hr' : HRel w₀ ψ g w') (hl : ψ'.le ψ) (hk : ∀ k, (φ k).isSome = true → ψ k = ψ' k) : HRel w₀ ψ' g w' := by
  refine ⟨hr'.below, fun k b hb => ?_, fun k k' b b' p p' hb hb' hp hp' => hr'.inj k k' b b' p p' hb hb' (hl _ _ hp) (hl _ _ hp'), fun k p hp => hr'.lt k p (hl _ _ hp), ?_, fun k p hp => hr'.typ k p (hl _ _ hp)⟩
  · obtain ⟨p, hp, h1, h2⟩ := hr'.own k b hb
    obtain ⟨q, hq, _, c2⟩ := hr.own k b hb
    refine ⟨p, by rw [← hk k (by simp [hq])]; exact hp, h1, ?_⟩
    obtain ⟨cs, e, lo, hi, r1, r2, r3, r4, r5, r6⟩ := h2.row
    obtain ⟨cs', e', lo', hi', s1, s2, s3, s4, s5, s6⟩ := c2.row
    exact ⟨cs, e, lo, hi, r1, r2, r3, r4, VRs_limit (f := fun k => (φ k).isSome) (fun k hf => hk k hf) _ _ (okInL_of_VRs _ _ s5) r5, r6⟩
  · obtain ⟨N, hN⟩ := hr'.fin
    refine ⟨N, fun k hk' => ?_⟩
    cases e : ψ' k with
    | none => rfl
    | some p => have := hl k p e; rw [hN k hk'] at this; cases this

/-- 0: lays a block; 1: calls; 2: reads; 3: none of these. -/
def kindF (P : Program) : Op → Nat
  | .alloc _ => 0
  | .box _ _ => 0
  | .buildSlice _ _ _ => 0
  | .makeSlice _ _ _ => 0
  | .store _ _ _ => 3
  | .convert src dst _ => if eStrBytes P src dst = true then 0 else if eSame P src dst = true then 3 else 2
  | .call c => match c.callee with
    | .value _ => 1
    | .builtin .append => 3
    | .builtin .copy => 3
    | .builtin _ => 2
    | .invoke _ _ => 3
  | _ => 2

/-- An operation that lays a block does so under a name of our choice, beside whatever else lies there. -/
theorem lay_ok {P : Program} {w₀ : World} {h : AHeap} {s : Slots} {op : Op} {K : AVal → AHeap → Prop} (hk0 : kindF P op = 0) (he : eop P w₀ h s op K) :
    ∃ (val : Nat → AVal) (b : Blk), (∀ k, h k = none → K (val k) (h.set k b)) ∧
      ∀ (k : Nat) (o : Oper), o.op = op → ∀ {w : World} {φ : PMap} {g : AHeap} {n : Nat} {a : Act} {next : Act → World → Prop} {Q : Exit → Act → World → Prop}, HRel w₀ φ g w → SRel φ n s a → g k = none → φ k = none → tyOf k = none →
        (∀ p v w', HRel w₀ (φ.upd k p) (g.set k b) w' → VR (φ.upd k p) (val k) v → next (a.put o.dst v) w') → o.wp P a w next Q := by
  cases op <;> simp only [kindF] at hk0 <;> first
    | (cases hk0; done)
    | skip
  case alloc e =>
    simp only [eop] at he
    split at he <;> first | exact he.elim | skip
    rename_i z hz
    refine ⟨fun k => .ptr (.own k) 0, ⟨z.cells.toList.map absS, 0⟩, he, ?_⟩
    rintro k ⟨dst, op, type, pos, after, guard⟩ rfl w φ g n a next Q hr hs hk hφ hkt hn
    obtain ⟨e1, e2⟩ := hr.alloc k hk hφ (z.cells.toList.map absS) z.cells e 0 0 (by rw [List.length_map, List.take_length]; exact VRs_absS φ z.cells.toList) no_frz (fun t ht => by rw [hkt] at ht; cases ht)
    refine wp_value (v := .pointer (some ⟨w.heap.size, 0, none⟩)) (w' := w.alloc (.cells z.cells e)) ?_ (hn _ _ _ e2 (VR_new _ _ _))
    simp [execOp, Instr.alloc, run_zero' hz, newVar, newRow]
  case box e x =>
    simp only [eop] at he
    obtain ⟨hl, he⟩ := he
    refine ⟨fun k => .ptr (.own k) 0, ⟨(ev s x).cells, 0⟩, he, ?_⟩
    rintro k ⟨dst, op, type, pos, after, guard⟩ rfl w φ g n a next Q hr hs hk hφ hkt hn
    have hx := VRs_cells (hs.ev x) hl
    have hlen := VRs_length hx
    obtain ⟨e1, e2⟩ := hr.alloc k hk hφ (ev s x).cells (a.eval x).cells e 0 0 (by rw [← hlen, List.take_length]; exact hx) no_frz (fun t ht => by rw [hkt] at ht; cases ht)
    refine wp_value (v := .pointer (some ⟨w.heap.size, 0, none⟩)) (w' := w.alloc (.cells (a.eval x).cells e)) ?_ (hn _ _ _ e2 (VR_new _ _ _))
    simp [execOp, Instr.box, newVar, newRow]
  case buildSlice t m parts =>
    simp only [eop] at he
    split at he <;> first | exact he.elim | skip
    rename_i cs hb
    refine ⟨fun k => .slice (.own k) 0 m (.exact m), ⟨cs, 0⟩, he, ?_⟩
    rintro k ⟨dst, op, type, pos, after, guard⟩ rfl w φ g n a next Q hr hs hk hφ hkt hn
    unfold buildSliceA at hb
    split at hb <;> first | (cases hb; done) | skip
    rename_i e ht
    split at hb <;> first | (cases hb; done) | skip
    rename_i es z hes hz
    split at hb <;> first | (cases hb; done) | skip
    rename_i hc
    obtain ⟨c1, c2, c3⟩ := hc
    have hzs : VRs φ (z.cells.toList.map absS) z.cells.toList := VRs_absS φ _
    obtain ⟨r, f1, f2⟩ := fill_ok (φ := φ) (fun i => some (i * es, es)) (vs := (parts.map fun (i, x) => (i, a.eval x)).toList) (us := (Array.range (m * es)).map (z.cells[· % z.cells.size]!)) (by simpa using hs.evP parts.toList) (VRs_rep hzs (by omega) (m * es)) hb
    have hlen := VRs_length f2
    simp only [Array.length_toList] at hlen
    have hcl : cs.length = m * es := by rw [fill_length _ hb]; simp [repCells]
    obtain ⟨e1, e2⟩ := hr.alloc k hk hφ cs r e 0 0 (by rw [← hlen, ← Array.length_toList, List.take_length]; exact f2) no_frz (fun t ht => by rw [hkt] at ht; cases ht)
    refine wp_value (v := .slice (some ⟨w.heap.size, 0, none⟩) m m) (w' := w.alloc (.cells r e)) ?_ (hn _ _ _ e2 ?_)
    · have hbig : ¬ (m * es > 2 ^ 24) := by omega
      have hb' : ¬ (16777216 < m * es) := by omega
      by_cases hz0 : m * es = 0
      · have hr0 : r = #[] := Array.eq_empty_of_size_eq_zero (by omega)
        have harr : ((Array.range (m * es)).map (z.cells[· % z.cells.size]!)) = #[] := by rw [hz0]; simp
        rw [harr] at f1
        simp at f1
        simp [execOp, Instr.buildSlice, run_underlying' ht, run_sizeOf' hes, hz0, Array.range_zero', f1, newRow]
      · simp [execOp, Instr.buildSlice, run_underlying' ht, run_sizeOf' hes, hz0, hb', run_zero' hz]
        simp at f1
        simp [f1, newRow]
    · simp only [VR]
      exact ⟨_, rfl, fun _ => by simp [locAddr, PMap.upd]⟩
  case makeSlice t m c =>
    simp only [eop] at he
    unfold eMake at he
    split at he <;> first | exact he.elim | skip
    rename_i e len cap ht hlen hcap
    split at he <;> first | exact he.elim | skip
    rename_i es by' z hes hby hz
    obtain ⟨⟨g1, g2, g3, g4, g5, g6⟩, he⟩ := he
    refine ⟨fun k => .slice (.own k) 0 len.toNat (.exact cap.toNat), ⟨repCells (z.cells.toList.map absS) (cap.toNat * es), 0⟩, he, ?_⟩
    rintro k ⟨dst, op, type, pos, after, guard⟩ rfl w φ g n a next Q hr hs hk hφ hkt hn
    have i1 : ∃ k, a.eval m = .int k len := by
      have := hs.ev m
      revert hlen this
      cases ev s m <;> simp [intA, VR]
      intro e1 e2
      subst e1
      exact ⟨_, e2⟩
    have i2 : ∃ k, a.eval c = .int k cap := by
      have := hs.ev c
      revert hcap this
      cases ev s c <;> simp [intA, VR]
      intro e1 e2
      subst e1
      exact ⟨_, e2⟩
    obtain ⟨k1, i1⟩ := i1
    obtain ⟨k2, i2⟩ := i2
    simp only [szOf, Option.map_eq_some_iff] at hes
    obtain ⟨ii, hi, hes⟩ := hes
    simp only [byOf, hi, Option.map_some, Option.some.injEq] at hby
    simp only [zeOf, hi, Option.bind_some] at hz
    subst hby
    have hmake := run_make (P := P) w t e ii z ht hi hz k1 k2 len cap g1 g2 g3 g4
    rw [hes] at hmake
    have hzs : VRs φ (z.cells.toList.map absS) z.cells.toList := VRs_absS φ _
    have hrep := VRs_rep hzs (by omega) (cap.toNat * es)
    obtain ⟨e1, e2⟩ := hr.alloc k hk hφ (repCells (z.cells.toList.map absS) (cap.toNat * es)) (madeCells z.cells (cap.toNat * es)) e 0 0 (by
      have hl := VRs_length hrep
      rw [← hl]
      unfold madeCells
      rw [List.take_length]
      exact hrep) no_frz (fun t ht => by rw [hkt] at ht; cases ht)
    refine wp_value (v := .slice (some ⟨w.heap.size, 0, none⟩) len.toNat cap.toNat) (w' := w.alloc (.cells (madeCells z.cells (cap.toNat * es)) e)) ?_ (hn _ _ _ e2 ?_)
    · simp only [execOp, i1, i2]
      exact run_value hmake
    · simp only [VR]
      exact ⟨_, rfl, fun _ => by simp [locAddr, PMap.upd]⟩
  case convert src dst' x =>
    split at hk0
    · rename_i hc
      simp only [eop] at he
      split at he
      · rename_i b hb
        rw [if_pos hc] at he
        obtain ⟨g1, he⟩ := he
        refine ⟨fun k => .slice (.own k) 0 b.length (.grow 1), ⟨byteCells b, 0⟩, he, ?_⟩
        rintro k ⟨dst, op, type, pos, after, guard⟩ rfl w φ g n a next Q hr hs hk hφ hkt hn
        unfold eStrBytes at hc
        split at hc <;> first | (cases hc; done) | skip
        rename_i e h1 h2
        split at hc <;> first | (cases hc; done) | skip
        rename_i h3
        have hx := hs.ev x
        rw [hb] at hx
        simp only [VR] at hx
        have hcap : b.length ≤ grownCap w b.length 0 e := by
          simp only [grownCap, Question.cut]
          omega
        have hrun := run_bytes_of_string (P := P) w src dst' e ⟨⟨b⟩⟩ h1 h2 h3
        rw [bsize] at hrun
        generalize hG : grownCap w b.length 0 e = G at *
        have hrow : (bytesRow ⟨⟨b⟩⟩ G).toList = (b.map fun c => Value.int .u8 c.toNat) ++ List.replicate (G - b.length) (.int .u8 0) := by
          simp [bytesRow, bsize]
        have hsize : (bytesRow ⟨⟨b⟩⟩ G).size = G := by
          rw [← Array.length_toList, hrow]
          simp
          omega
        rw [hsize] at hrun
        have hcells : (byteCells b).length = b.length := byteCells_length b
        obtain ⟨e1, e2⟩ := hr.drew.alloc k hk hφ (byteCells b) (bytesRow ⟨⟨b⟩⟩ G) e G (G + 1) (by
          rw [hcells, hrow, List.take_append_of_le_length (by simp)]
          rw [List.take_of_length_le (by simp)]
          exact VRs_bytes φ b) (fun i h1 h2 => by rw [hsize]; exact h1) (fun t ht => by rw [hkt] at ht; cases ht)
        refine wp_value (v := .slice (some ⟨w.heap.size, 0, none⟩) b.length G) (w' := w.drew.alloc (.cells (bytesRow ⟨⟨b⟩⟩ G) e (G, G + 1))) ?_ (hn _ _ _ e2 ?_)
        · simp only [execOp, hx]
          exact run_value hrun
        · simp only [VR]
          exact ⟨k, _, G, ⟨w.heap.size, 0, none⟩, rfl, PMap.upd_same _ _ _, rfl, hcap, fun _ => ⟨rfl, by simp [hsize]⟩⟩
      · rename_i k o m c hx
        simp only [eStrBytes] at hc
        split at he
        · rename_i hc'
          simp only [eSame, Bool.and_eq_true, beq_iff_eq] at hc'
          obtain ⟨rfl, hc'⟩ := hc'
          split at hc <;> first | (cases hc; done) | skip
          rename_i e h1 h2
          rw [h1] at h2; cases h2
        · exfalso
          simp only [pop, hx, pConv] at he
          split at hc <;> first | (cases hc; done) | skip
          rename_i e h1 h2
          simp [h1, h2] at he
          exact he.1
      · rename_i hn1 hn2
        exfalso
        unfold eStrBytes at hc
        split at hc <;> first | (cases hc; done) | skip
        rename_i e h1 h2
        have he1 := he.1
        simp only [pop] at he1
        cases hx : ev s x with
        | str b => exact hn1 b hx
        | _ => simp [hx, pConv, h1, h2, PR.no] at he1
    · split at hk0 <;> cases hk0
  case call c =>
    obtain ⟨callee, args, ts⟩ := c
    cases callee with
    | value f => cases hk0
    | invoke r m => cases hk0
    | builtin b => cases b <;> cases hk0

section
variable {P : Program} {w₀ : World} {n : Nat} {h₀ : AHeap}

/-! ### The heads of statements of open order -/
def stepF (P : Program) (w₀ : World) (h₀ h : AHeap) (S : Slots) (op : Op) (V : AVal) : Prop :=
  if kindF P op = 2 then (pop P w₀ h S op).pre ∧ V = (pop P w₀ h S op).val
  else kindF P op = 1 ∧ V.okIn (fun k => (h₀ k).isSome) ∧ ∀ g, (∀ k b, h₀ k = some b → g k = some b) → eop P w₀ g S op (fun x h' => x = V ∧ h' = g)

def fOps (P : Program) (w₀ : World) (ops : List Oper) (h₀ : AHeap) : List Oper → Slots → AHeap → (Slots → AHeap → Prop) → Prop
  | [], s, h, K => K s h
  | o :: rest, s, h, K =>
    if kindF P o.op = 0 then o.guard = none ∧ eop P w₀ h (s.keep (looksL ops o)) o.op (fun x h' => fOps P w₀ ops h₀ rest (putD s o.dst x) h' K)
    else match o.guard with
      | none => ∃ V, stepF P w₀ h₀ h (s.keep (looksL ops o)) o.op V ∧ fOps P w₀ ops h₀ rest (putD s o.dst V) h K
      | some (j, want) => match nthDst ops j with
        | none => fOps P w₀ ops h₀ rest (putD s o.dst (.tuple [])) h K
        | some d => gKnown (s.get d) = true ∧ ∃ V, (guardB (s.get d) want = true → stepF P w₀ h₀ h (s.keep (looksL ops o)) o.op V) ∧ fOps P w₀ ops h₀ rest (putD s o.dst (condV (guardB (s.get d) want) V)) h K

theorem fOps_mono {ops : List Oper} {K K' : Slots → AHeap → Prop} (hk : ∀ s h, K s h → K' s h) : ∀ {l : List Oper} {s : Slots} {h : AHeap}, fOps P w₀ ops h₀ l s h K → fOps P w₀ ops h₀ l s h K'
  | [], s, h, hv => hk _ _ hv
  | o :: rest, s, h, hv => by
    simp only [fOps] at hv ⊢
    split
    · rename_i h0
      rw [if_pos h0] at hv
      exact ⟨hv.1, eop_mono hv.2 fun x h' hx => fOps_mono hk hx⟩
    · rename_i h0
      rw [if_neg h0] at hv
      split
      · rename_i hg
        rw [hg] at hv
        obtain ⟨V, h1, h2⟩ := hv
        exact ⟨V, h1, fOps_mono hk h2⟩
      · rename_i j want hg
        rw [hg] at hv
        simp only at hv
        split
        · rename_i hj
          rw [hj] at hv
          exact fOps_mono hk hv
        · rename_i d hj
          rw [hj] at hv
          obtain ⟨h1, V, h2, h3⟩ := hv
          exact ⟨h1, V, h2, fOps_mono hk h3⟩

/-- The heap when some of the blocks are laid; the block that operation i lays bears the name N + i. -/
def gOf (h₀ : AHeap) (N : Nat) (bl : List (Option Blk)) (listed : Nat → Bool) : AHeap := fun k => if N ≤ k then (bif listed (k - N) then bl.getD (k - N) none else none) else h₀ k

def HH (w₀ : World) (h₀ : AHeap) (N : Nat) (bl : List (Option Blk)) (listed : Array Bool) (ψ : PMap) (w : World) : Prop :=
  HRel w₀ ψ (gOf h₀ N bl fun i => listed.getD i false) w ∧ ∀ i, i < bl.length → listed.getD i false = false → ψ (N + i) = none

/-- What operation i of the head does, whatever is listed. -/
def HeadStep (P : Program) (w₀ : World) (n : Nat) (h₀ : AHeap) (l : List Oper) (N : Nat) (bl : List (Option Blk)) (S : Slots) (i : Nat) (o : Oper) (V : AVal) : Prop :=
  ∀ (listed : Array Bool) (ψ : PMap) (w : World) (a : Act) (next : Act → World → Prop) (Q : Exit → Act → World → Prop), listed.getD i false = false → i < listed.size → HH w₀ h₀ N bl listed ψ w → SRel ψ n (S.keep (looksL l o)) a →
    (∀ ψ' v w', ψ.le ψ' → HH w₀ h₀ N bl (listed.setIfInBounds i true) ψ' w' → VR ψ' V v → next (a.put o.dst v) w') →
    if Region.wanted o (yielded l.toArray a.tmps) = true then o.wp P a w next Q else next (a.put o.dst undef) w

theorem cells_up {ψ : PMap} {H g : AHeap} (hg : ∀ k b, H k = some b → (ψ k).isSome = true → g k = some b) {l : Loc} (hl : ∀ k, l = .own k → (ψ k).isSome = true ∨ False) : ∀ (n o : Nat), allLive (cellsAt w₀ H l o n) = true → cellsAt w₀ g l o n = cellsAt w₀ H l o n
  | 0, _, _ => rfl
  | n + 1, o, ha => by
    simp only [cellsAt, allLive, Bool.and_eq_true] at ha ⊢
    rw [cells_up hg hl n (o + 1) ha.2]
    congr 1
    cases l with
    | base b => rfl
    | own k =>
      have hs := (hl k rfl).resolve_right id
      have h1 := ha.1
      simp only [rd] at h1 ⊢
      cases hH : H k with
      | none => simp [hH, AVal.live] at h1
      | some b => simp [hg k b hH hs]

theorem rd_up {ψ : PMap} {H g : AHeap} (hg : ∀ k b, H k = some b → (ψ k).isSome = true → g k = some b) {l : Loc} (hl : ∀ k, l = .own k → (ψ k).isSome = true) (o : Nat) (ha : (rd w₀ H l o).live = true) : rd w₀ g l o = rd w₀ H l o := by
  have := cells_up (w₀ := w₀) hg (l := l) (fun k e => .inl (hl k e)) 1 o (by simp [cellsAt, allLive, ha])
  simpa [cellsAt] using this

theorem ptr_some {ψ : PMap} {l : Loc} {o : Nat} {v : Value} (h : VR ψ (.ptr l o) v) : ∀ k, l = .own k → (ψ k).isSome = true := by
  rintro k rfl
  have := okIn_of_VR _ _ h
  simpa only [AVal.okIn] using this

/-- What is read here is read alike where more lies. -/
theorem pop_up {ψ : PMap} {H g : AHeap} {S : Slots} {a : Act} {op : Op} (hk : kindF P op = 2) (hg : ∀ k b, H k = some b → (ψ k).isSome = true → g k = some b) (hs : SRel ψ n S a) (hp : (pop P w₀ H S op).pre) : pop P w₀ g S op = pop P w₀ H S op := by
  cases op <;> first
    | rfl
    | skip
  case load t x =>
    simp only [pop] at hp ⊢
    have hx := hs.ev x
    cases hv : ev S x with
    | ptr l o =>
      rw [hv] at hx hp
      have hl := ptr_some hx
      simp only [pLoad] at hp ⊢
      split at hp
      · rename_i h1 h2
        rw [cells_up hg (fun k e => .inl (hl k e)) _ _ hp]
      · rename_i h1
        rw [rd_up hg hl _ hp]
      · exact hp.elim
    | _ => rfl
  case convert src dst x =>
    simp only [pop] at hp ⊢
    have hx := hs.ev x
    cases hv : ev S x with
    | slice l o len c =>
      rw [hv] at hx hp
      simp only [pConv] at hp ⊢
      split at hp <;> first | exact hp.elim | skip
      rename_i e h1 h2
      split at hp <;> first | exact hp.elim | skip
      rename_i h3
      by_cases hz : len = 0
      · subst hz; rfl
      · have hl : ∀ k, l = .own k → (ψ k).isSome = true ∨ False := by
          rintro k rfl
          have := okIn_of_VR _ _ hx
          simp only [AVal.okIn] at this
          cases c with
          | exact c => exact .inl (this (.inr hz))
          | grow es => exact .inl this
        rw [cells_up hg hl _ _ (allLive_of_u8 hp)]
    | _ => rfl

theorem gOf_set {h₀ : AHeap} {N : Nat} {bl : List (Option Blk)} {i : Nat} {b : Blk} (hb : bl.getD i none = some b) {listed : Array Bool} (hsz : i < listed.size) :
    (gOf h₀ N bl fun j => listed.getD j false).set (N + i) b = gOf h₀ N bl fun j => (listed.setIfInBounds i true).getD j false := by
  funext k
  simp only [gOf, AHeap.set]
  by_cases e : k = N + i
  · subst e
    rw [if_pos rfl, if_pos (by omega), show N + i - N = i by omega, set_self hsz, hb]
    rfl
  · rw [if_neg e]
    by_cases hN : N ≤ k
    · rw [if_pos hN, if_pos hN, set_other (by omega)]
    · rw [if_neg hN, if_neg hN]

theorem gOf_none {h₀ : AHeap} {N : Nat} {bl : List (Option Blk)} {i : Nat} (hb : bl.getD i none = none) {listed : Array Bool} :
    (gOf h₀ N bl fun j => (listed.setIfInBounds i true).getD j false) = gOf h₀ N bl fun j => listed.getD j false := by
  funext k
  simp only [gOf]
  by_cases hN : N ≤ k
  · rw [if_pos hN, if_pos hN]
    by_cases e : k - N = i
    · rw [e, hb]; simp
    · rw [set_other e]
  · rw [if_neg hN, if_neg hN]

theorem HH.quiet {N : Nat} {bl : List (Option Blk)} {i : Nat} (hb : bl.getD i none = none) {listed : Array Bool} {ψ : PMap} {w : World} (h : HH w₀ h₀ N bl listed ψ w) : HH w₀ h₀ N bl (listed.setIfInBounds i true) ψ w := by
  refine ⟨by rw [gOf_none hb]; exact h.1, fun j hj hl => h.2 j hj ?_⟩
  by_cases e : j = i
  · subst e
    cases hc : listed.getD j false with
    | false => rfl
    | true =>
      have hsz : j < listed.size := by
        refine Nat.lt_of_not_le fun hge => ?_
        simp [Array.getD, Nat.not_lt.2 hge] at hc
      rw [set_self hsz] at hl
      cases hl
  · rwa [set_other e] at hl

/-- The facts of one step of the head. -/
theorem HeadStep.of_step {l : List Oper} (hall : dstsOk n l = true) {N : Nat} (hN : ∀ j, N ≤ j → h₀ j = none) {bl : List (Option Blk)} {H : AHeap} {i : Nat} (hH : ∀ k b, H k = some b → k < N ∧ h₀ k = some b ∨ N ≤ k ∧ k - N < bl.length ∧ bl.getD (k - N) none = some b) (hb : bl.getD i none = none) {S : Slots} {o : Oper} {V : AVal}
    (hstep : stepF P w₀ h₀ H (S.keep (looksL l o)) o.op V) {ψ : PMap} {w : World} {a : Act} {listed : Array Bool} {next : Act → World → Prop} {Q : Exit → Act → World → Prop} (hh : HH w₀ h₀ N bl listed ψ w) (hs : SRel ψ n (S.keep (looksL l o)) a)
    (hn : ∀ ψ' v w', ψ.le ψ' → HH w₀ h₀ N bl (listed.setIfInBounds i true) ψ' w' → VR ψ' V v → next (a.put o.dst v) w') : o.wp P a w next Q := by
  unfold stepF at hstep
  split at hstep
  · rename_i hk
    obtain ⟨h1, h2⟩ := hstep
    have hup : ∀ k b, H k = some b → (ψ k).isSome = true → (gOf h₀ N bl fun j => listed.getD j false) k = some b := by
      intro k b hb' hs'
      simp only [gOf]
      rcases hH k b hb' with ⟨c1, c2⟩ | ⟨c1, c2, c3⟩
      · rw [if_neg (by omega)]; exact c2
      · rw [if_pos c1]
        cases hl : listed.getD (k - N) false with
        | true => simpa using c3
        | false =>
          have := hh.2 (k - N) c2 hl
          rw [show N + (k - N) = k by omega] at this
          rw [this] at hs'
          cases hs'
    have e := pop_up (P := P) (w₀ := w₀) (n := n) hk hup hs h1
    obtain ⟨r, e1, e2⟩ := pop_ok o (by rw [e]; exact h1) hh.1 hs
    rw [e, ← h2] at e2
    exact wp_value (e1 w (Same.refl w)) (hn ψ r w ψ.le_refl (hh.quiet hb) e2)
  · obtain ⟨_, hok, he⟩ := hstep
    have hsub : ∀ k b, h₀ k = some b → (gOf h₀ N bl fun j => listed.getD j false) k = some b := by
      intro k b hb'
      have hlt : k < N := by
        refine Nat.lt_of_not_le fun hge => ?_
        rw [hN k hge] at hb'; cases hb'
      simp only [gOf]
      rw [if_neg (by omega)]; exact hb'
    refine eop_ok o (he _ hsub) hh.1 hs fun ψ' x h' v w' h1 h2 h3 ⟨e1, e2⟩ => ?_
    subst e1 e2
    -- the names in store are taken back
    have hle : ψ.le fun k => if N ≤ k ∧ k - N < bl.length ∧ listed.getD (k - N) false = false then none else ψ' k := by
      intro k p hp
      simp only
      rw [if_neg]
      · exact h1 k p hp
      · rintro ⟨c1, c2, c3⟩
        have := hh.2 (k - N) c2 c3
        rw [show N + (k - N) = k by omega, hp] at this
        cases this
    have hlt : (PMap.le (fun k => if N ≤ k ∧ k - N < bl.length ∧ listed.getD (k - N) false = false then none else ψ' k) ψ') := by
      intro k p hp
      simp only at hp
      split at hp
      · cases hp
      · exact hp
    have hsame : ∀ k, (ψ k).isSome = true → ψ' k = (fun k => if N ≤ k ∧ k - N < bl.length ∧ listed.getD (k - N) false = false then none else ψ' k) k := by
      intro k hk
      obtain ⟨p, hp⟩ := Option.isSome_iff_exists.1 hk
      rw [hle k p hp, h1 k p hp]
    refine hn _ v w' hle (HH.quiet hb ⟨hh.1.limit h2 hlt hsame, fun j hj hl => ?_⟩) (VR_limit (f := fun k => (h₀ k).isSome) (fun k hk => ?_) _ _ hok h3)
    · simp only
      rw [if_pos ⟨by omega, by rw [show N + j - N = j by omega]; exact hj, by rw [show N + j - N = j by omega]; exact hl⟩]
    · have hlt : k < N := by
        refine Nat.lt_of_not_le fun hge => ?_
        simp [hN k hge] at hk
      rw [if_neg (by omega)]

theorem HeadStep.lay {l : List Oper} {N : Nat} {bl : List (Option Blk)} {i : Nat} (hil : i < bl.length) {S : Slots} {o : Oper} {val : Nat → AVal} {b : Blk} (hb : bl.getD i none = some b) (hg : o.guard = none)
    (hlay : ∀ {w : World} {φ : PMap} {g : AHeap} {a : Act} {next : Act → World → Prop} {Q : Exit → Act → World → Prop}, HRel w₀ φ g w → SRel φ n (S.keep (looksL l o)) a → g (N + i) = none → φ (N + i) = none →
        (∀ p v w', HRel w₀ (φ.upd (N + i) p) (g.set (N + i) b) w' → VR (φ.upd (N + i) p) (val (N + i)) v → next (a.put o.dst v) w') → o.wp P a w next Q) : HeadStep P w₀ n h₀ l N bl S i o (val (N + i)) := by
  intro listed ψ w a next Q hl hsz hh hs hn
  have hw : Region.wanted o (yielded l.toArray a.tmps) = true := by simp [Region.wanted, hg]
  rw [if_pos hw]
  have hφ := hh.2 i hil hl
  refine hlay hh.1 hs (by simp only [gOf]; rw [if_pos (by omega), show N + i - N = i by omega, hl]; rfl) hφ fun p v w' h1 h2 => ?_
  refine hn _ v w' (PMap.le_upd hφ p) ⟨by rw [← gOf_set hb hsz]; exact h1, fun j hj hl' => ?_⟩ h2
  have e : j ≠ i := fun e => by subst e; rw [set_self hsz] at hl'; cases hl'
  rw [set_other e] at hl'
  have := hh.2 j hj hl'
  simp only [PMap.upd]
  rw [if_neg (by omega)]
  exact this

theorem HeadStep.one {l : List Oper} (hall : dstsOk n l = true) {N : Nat} (hN : ∀ j, N ≤ j → h₀ j = none) {bl : List (Option Blk)} {H : AHeap} {i : Nat} (hH : ∀ k b, H k = some b → k < N ∧ h₀ k = some b ∨ N ≤ k ∧ k - N < bl.length ∧ bl.getD (k - N) none = some b) (hb : bl.getD i none = none) {S : Slots} {o : Oper} {V : AVal} (hg : o.guard = none)
    (hstep : stepF P w₀ h₀ H (S.keep (looksL l o)) o.op V) : HeadStep P w₀ n h₀ l N bl S i o V := by
  intro listed ψ w a next Q _ _ hh hs hn
  have hw : Region.wanted o (yielded l.toArray a.tmps) = true := by simp [Region.wanted, hg]
  rw [if_pos hw]
  exact HeadStep.of_step hall hN hH hb hstep hh hs hn

theorem HeadStep.guarded {l : List Oper} (hall : dstsOk n l = true) {N : Nat} (hN : ∀ j, N ≤ j → h₀ j = none) {bl : List (Option Blk)} {H : AHeap} {i : Nat} (hH : ∀ k b, H k = some b → k < N ∧ h₀ k = some b ∨ N ≤ k ∧ k - N < bl.length ∧ bl.getD (k - N) none = some b) (hb : bl.getD i none = none) {S : Slots} {o : Oper} {V : AVal} {j d : Nat} {want : Bool} (hg : o.guard = some (j, want)) (hj : nthDst l j = some d) (hk : gKnown (S.get d) = true)
    (hstep : guardB (S.get d) want = true → stepF P w₀ h₀ H (S.keep (looksL l o)) o.op V) : HeadStep P w₀ n h₀ l N bl S i o (condV (guardB (S.get d) want) V) := by
  intro listed ψ w a next Q _ _ hh hs hn
  have hd : (S.keep (looksL l o)).get d = S.get d := by
    rw [Slots.get_keep, if_pos]
    simp [looksL, hg, hj]
  have hw : Region.wanted o (yielded l.toArray a.tmps) = guardB (S.get d) want := by
    have := guard_ok hs l j d hj (nth_lt l j d hall hj) (by rw [hd]; exact hk) want
    rw [hd] at this
    simp only [Region.wanted, hg]
    exact this
  cases hb' : guardB (S.get d) want with
  | true =>
    rw [hw, hb', if_pos rfl]
    rw [hb'] at hn
    exact HeadStep.of_step hall hN hH hb (hstep hb') hh hs hn
  | false =>
    rw [hw, hb', if_neg (by decide)]
    rw [hb'] at hn
    exact hn ψ undef w ψ.le_refl (hh.quiet hb) (VR_undef ψ)

theorem HeadStep.never {l : List Oper} {N : Nat} {bl : List (Option Blk)} {i : Nat} (hb : bl.getD i none = none) {S : Slots} {o : Oper} {j : Nat} {want : Bool} (hg : o.guard = some (j, want)) (hj : nthDst l j = none) : HeadStep P w₀ n h₀ l N bl S i o (.tuple []) := by
  intro listed ψ w a next Q _ _ hh hs hn
  have hd : (l.toArray[j]?).bind (·.dst) = none := by rw [← hj, nthDst_eq]; simp
  have hw : Region.wanted o (yielded l.toArray a.tmps) = false := by
    simp only [Region.wanted, hg, yielded, hd]
    rfl
  rw [if_neg (by rw [hw]; decide)]
  exact hn ψ undef w ψ.le_refl (hh.quiet hb) (VR_undef ψ)

theorem gOf_at {N : Nat} (hN : ∀ j, N ≤ j → h₀ j = none) (A B : List (Option Blk)) : ∀ k b, (gOf h₀ N A fun _ => true) k = some b → k < N ∧ h₀ k = some b ∨ N ≤ k ∧ k - N < (A ++ B).length ∧ (A ++ B).getD (k - N) none = some b := by
  intro k b h
  simp only [gOf] at h
  by_cases c : N ≤ k
  · rw [if_pos c] at h
    simp only [cond_true] at h
    right
    have hlt : k - N < A.length := by
      refine Nat.lt_of_not_le fun hge => ?_
      simp [List.getD, List.getElem?_eq_none hge] at h
    refine ⟨c, by simp; omega, ?_⟩
    simpa [List.getD, List.getElem?_append, hlt] using h
  · rw [if_neg c] at h
    exact .inl ⟨by omega, h⟩

theorem gOf_of {N : Nat} (hN : ∀ j, N ≤ j → h₀ j = none) {C : List (Option Blk)} {k : Nat} {b : Blk} (h : k < N ∧ h₀ k = some b ∨ N ≤ k ∧ k - N < C.length ∧ C.getD (k - N) none = some b) : (gOf h₀ N C fun _ => true) k = some b := by
  simp only [gOf, cond_true]
  rcases h with ⟨c, e⟩ | ⟨c, _, e⟩
  · rw [if_neg (by omega)]; exact e
  · rw [if_pos c]; exact e

theorem gOf_push {N : Nat} (A : List (Option Blk)) (b : Blk) : (gOf h₀ N A fun _ => true).set (N + A.length) b = gOf h₀ N (A ++ [some b]) fun _ => true := by
  funext k
  simp only [gOf, AHeap.set, cond_true]
  by_cases e : k = N + A.length
  · subst e
    rw [if_pos rfl, if_pos (by omega), show N + A.length - N = A.length by omega]
    simp [List.getD]
  · rw [if_neg e]
    by_cases c : N ≤ k
    · rw [if_pos c, if_pos c]
      rcases Nat.lt_or_ge (k - N) A.length with c2 | c2
      · simp [List.getD, List.getElem?_append, c2]
      · have h1 : A[k - N]? = none := List.getElem?_eq_none c2
        have h2 : (A ++ [some b])[k - N]? = none := List.getElem?_eq_none (by simp; omega)
        simp [List.getD, h1, h2]
    · rw [if_neg c, if_neg c]

theorem gOf_skip {N : Nat} (A : List (Option Blk)) : (gOf h₀ N A fun _ => true) = gOf h₀ N (A ++ [none]) fun _ => true := by
  funext k
  simp only [gOf, cond_true]
  by_cases c : N ≤ k
  · rw [if_pos c, if_pos c]
    rcases Nat.lt_trichotomy (k - N) A.length with c2 | c2 | c2
    · simp [List.getD, List.getElem?_append, c2]
    · have h1 : A[k - N]? = none := List.getElem?_eq_none (by omega)
      simp [List.getD, h1, c2]
    · have h1 : A[k - N]? = none := List.getElem?_eq_none (by omega)
      have h2 : (A ++ [none])[k - N]? = none := List.getElem?_eq_none (by simp; omega)
      simp [List.getD, h1, h2]
  · rw [if_neg c, if_neg c]

theorem fOps_steps {l : List Oper} (hall : dstsOk n l = true) {N : Nat} (hN : ∀ j, N ≤ j → h₀ j = none) (hNt : ∀ i, i < l.length → tyOf (N + i) = none) (tl : List Oper) {s : Slots} {K : Slots → AHeap → Prop} : ∀ (rest pre : List Oper) (A : List AVal) (B : List (Option Blk)), l = pre ++ rest ++ tl → A.length = pre.length → B.length = pre.length →
    fOps P w₀ l h₀ rest (slotsAt s l A pre.length) (gOf h₀ N B fun _ => true) K →
    ∃ A' B', A'.length = rest.length ∧ B'.length = rest.length ∧
      (∀ i o, pre.length ≤ i → i < pre.length + rest.length → l[i]? = some o →
        (B ++ B').length = pre.length + rest.length ∧ HeadStep P w₀ n h₀ l N (B ++ B') (slotsAt s l (A ++ A') i) i o ((A ++ A').getD i .dead) ∧ (kindF P o.op = 2 → (B ++ B').getD i none = none ∧ (o.guard = none → ∃ H, (∀ j b, H j = some b → (gOf h₀ N (B ++ B') fun _ => true) j = some b) ∧ (pop P w₀ H ((slotsAt s l (A ++ A') i).keep (looksL l o)) o.op).pre ∧ (A ++ A').getD i .dead = (pop P w₀ H ((slotsAt s l (A ++ A') i).keep (looksL l o)) o.op).val))) ∧
      K (slotsAt s l (A ++ A') (pre.length + rest.length)) (gOf h₀ N (B ++ B') fun _ => true)
  | [], pre, A, B, hl, hA, hB, hv => ⟨[], [], rfl, rfl, fun i o h1 h2 _ => by simp at h2; omega, by simpa [fOps] using hv⟩
  | o :: rest, pre, A, B, hl, hA, hB, hv => by
    have hat : l[pre.length]? = some o := by rw [hl]; simp
    have hAt : ∀ V A', (A ++ V :: A').getD pre.length .dead = V := fun V A' => by simp [List.getD, ← hA]
    have hBt : ∀ b B', (B ++ b :: B').getD pre.length none = b := fun b B' => by simp [List.getD, ← hB]
    have hS : ∀ V, slotsAt s l (A ++ [V]) (pre ++ [o]).length = putD (slotsAt s l A pre.length) o.dst V := fun V => by
      rw [List.length_append, List.length_singleton, slotsAt, hat]
      simp only
      rw [slotsAt_take s l A [V] _ (by omega)]
      congr 1
      simp [List.getD, ← hA]
    have go : ∀ (V : AVal) (b : Option Blk), (∀ (A' : List AVal) (B' : List (Option Blk)), (B ++ b :: B').length = pre.length + (o :: rest).length → HeadStep P w₀ n h₀ l N (B ++ b :: B') (slotsAt s l A pre.length) pre.length o V) →
        (kindF P o.op = 2 → b = none ∧ (o.guard = none → ∃ H, (∀ B' j b', H j = some b' → (gOf h₀ N (B ++ b :: B') fun _ => true) j = some b') ∧ (pop P w₀ H ((slotsAt s l A pre.length).keep (looksL l o)) o.op).pre ∧ V = (pop P w₀ H ((slotsAt s l A pre.length).keep (looksL l o)) o.op).val)) →
        fOps P w₀ l h₀ rest (putD (slotsAt s l A pre.length) o.dst V) (gOf h₀ N (B ++ [b]) fun _ => true) K →
        ∃ A' B', A'.length = (o :: rest).length ∧ B'.length = (o :: rest).length ∧
          (∀ i o', pre.length ≤ i → i < pre.length + (o :: rest).length → l[i]? = some o' →
            (B ++ B').length = pre.length + (o :: rest).length ∧ HeadStep P w₀ n h₀ l N (B ++ B') (slotsAt s l (A ++ A') i) i o' ((A ++ A').getD i .dead) ∧ (kindF P o'.op = 2 → (B ++ B').getD i none = none ∧ (o'.guard = none → ∃ H, (∀ j b, H j = some b → (gOf h₀ N (B ++ B') fun _ => true) j = some b) ∧ (pop P w₀ H ((slotsAt s l (A ++ A') i).keep (looksL l o')) o'.op).pre ∧ (A ++ A').getD i .dead = (pop P w₀ H ((slotsAt s l (A ++ A') i).keep (looksL l o')) o'.op).val))) ∧
          K (slotsAt s l (A ++ A') (pre.length + (o :: rest).length)) (gOf h₀ N (B ++ B') fun _ => true) := by
      intro V b hst hpo hv'
      obtain ⟨A', B', h1, h2, h3, h4⟩ := fOps_steps hall hN hNt tl rest (pre ++ [o]) (A ++ [V]) (B ++ [b]) (by simp [hl]) (by simp [hA]) (by simp [hB]) (by rw [hS]; exact hv')
      have hlen : (B ++ b :: B').length = pre.length + (o :: rest).length := by simp [hB, h2]
      refine ⟨V :: A', b :: B', by simp [h1], by simp [h2], fun i o' hi hi' ho' => ?_, ?_⟩
      · rcases Nat.eq_or_lt_of_le hi with e' | e'
        · subst e'
          rw [hat] at ho'
          obtain rfl := Option.some.inj ho'
          rw [slotsAt_take s l A (V :: A') _ (by omega), hAt]
          rw [hBt]
          exact ⟨hlen, hst A' B' hlen, fun e => ⟨(hpo e).1, fun e' => (hpo e).2 e' |>.elim fun H ⟨q0, q1⟩ => ⟨H, q0 B', q1⟩⟩⟩
        · have := h3 i o' (by simp; omega) (by simp at hi' ⊢; omega) ho'
          refine ⟨hlen, ?_⟩
          simpa using this.2
      · have e : pre.length + (o :: rest).length = (pre ++ [o]).length + rest.length := by simp; omega
        rw [e]
        simpa using h4
    simp only [fOps] at hv
    split at hv
    · rename_i hk
      obtain ⟨hg, he⟩ := hv
      obtain ⟨val, b, hc, hlay⟩ := lay_ok hk he
      have hfree : (gOf h₀ N B fun _ => true) (N + B.length) = none := by
        simp only [gOf]
        rw [if_pos (by omega), show N + B.length - N = B.length by omega]
        simp [List.getD]
      have hc' := hc (N + B.length) hfree
      rw [gOf_push] at hc'
      refine go (val (N + B.length)) (some b) (fun A' B' hlen => ?_) (fun e => by rw [hk] at e; cases e) hc'
      rw [hB]
      exact HeadStep.lay (by rw [hlen]; simp) (hBt _ _) hg fun h1 h2 h3 h4 h5 => hlay (N + pre.length) o rfl h1 h2 h3 h4 (hNt _ (by rw [hl]; simp)) h5
    · rename_i hk
      have hH := fun b B' => gOf_at (h₀ := h₀) hN B (b :: B')
      split at hv
      · rename_i hg
        obtain ⟨V, h1, h2⟩ := hv
        rw [gOf_skip] at h2
        refine go V none (fun A' B' _ => HeadStep.one hall hN (hH none B') (hBt _ _) hg h1) (fun e => ⟨rfl, fun _ => ?_⟩) h2
        unfold stepF at h1
        rw [if_pos e] at h1
        exact ⟨_, fun B' j b' hb' => gOf_of hN (hH none B' j b' hb'), h1⟩
      · rename_i j want hg
        split at hv
        · rename_i hj
          rw [gOf_skip] at hv
          exact go _ none (fun A' B' _ => HeadStep.never (hBt _ _) hg hj) (fun _ => ⟨rfl, fun e => by rw [hg] at e; cases e⟩) hv
        · rename_i d hj
          obtain ⟨hk', V, h1, h2⟩ := hv
          rw [gOf_skip] at h2
          exact go _ none (fun A' B' _ => HeadStep.guarded hall hN (hH none B') (hBt _ _) hg hj hk' h1) (fun _ => ⟨rfl, fun e => by rw [hg] at e; cases e⟩) h2

def heapless : Op → Bool
  | .load _ _ => false
  | .convert _ _ _ => false
  | _ => true

def isLoad : Op → Bool
  | .load _ _ => true
  | _ => false

/-- The late loads look into blocks that the tail leaves (ks). -/
def lateOK (l : List Oper) (ks : List Nat) (s : Slots) : List Nat → Prop
  | [] => True
  | i :: r => (match l[i]? with
      | some o => (match o.op with
        | .load _ x => (match ev s x with
          | .ptr (.own k) _ => k ∈ ks
          | .ptr (.base _) _ => True
          | _ => False)
        | _ => True)
      | none => True) ∧ lateOK l ks s r
theorem lateOK_mem {l : List Oper} {ks : List Nat} {s : Slots} : ∀ {late : List Nat}, lateOK l ks s late → ∀ i ∈ late, ∀ o t x, l[i]? = some o → o.op = .load t x → (∃ k p, ev s x = .ptr (.own k) p ∧ k ∈ ks) ∨ ∃ b p, ev s x = .ptr (.base b) p
  | j :: r, h, i, hi, o, t, x, ho, hop => by
    simp only [lateOK] at h
    rcases List.mem_cons.1 hi with e | e
    · subst e
      have h1 := h.1
      simp only [ho, hop] at h1
      split at h1
      · rename_i k p hv; exact .inl ⟨k, p, hv, h1⟩
      · rename_i b p hv; exact .inr ⟨b, p, hv⟩
      · exact h1.elim
    · exact lateOK_mem h.2 i e o t x ho hop

/-- A tail that leaves the blocks ks. -/
def kOps (P : Program) (w₀ : World) (ks : List Nat) : List Oper → Slots → AHeap → (Slots → AHeap → Prop) → Prop
  | [], s, h, K => K s h
  | o :: rest, s, h, K => o.guard = none ∧ eop P w₀ h s o.op fun x h' => (∀ k ∈ ks, h' k = h k) ∧ kOps P w₀ ks rest (putD s o.dst x) h' K
theorem kOps_of_aOps {ops : List Oper} {K : Slots → AHeap → Prop} : ∀ {l : List Oper} {s : Slots} {h : AHeap}, (∀ o ∈ l, o.guard = none) → aOps P w₀ ops l s h K → kOps P w₀ [] l s h K
  | [], _, _, _, ha => ha
  | o :: r, s, h, hg, ha => by
    have h0 := hg o List.mem_cons_self
    simp only [aOps, h0] at ha
    exact ⟨h0, eop_mono ha fun x h' hx => ⟨fun k hk => (by cases hk), kOps_of_aOps (fun o ho => hg o (List.mem_cons_of_mem _ ho)) hx⟩⟩
/-- A load reads alike where its block is the same. -/
theorem load_same {H g : AHeap} {S : Slots} {t : TypeId} {x : Operand} (hx : (∃ k p, ev S x = .ptr (.own k) p ∧ ∀ b, H k = some b → g k = some b) ∨ ∃ b p, ev S x = .ptr (.base b) p) (hp : (pop P w₀ H S (.load t x)).pre) : pop P w₀ g S (.load t x) = pop P w₀ H S (.load t x) := by
  simp only [pop] at hp ⊢
  rcases hx with ⟨k, p, hv, hg⟩ | ⟨b, p, hv⟩
  · rw [hv] at hp ⊢
    have up : ∀ (n o : Nat), allLive (cellsAt w₀ H (.own k) o n) = true → cellsAt w₀ g (.own k) o n = cellsAt w₀ H (.own k) o n := by
      intro n
      induction n with
      | zero => intro o _; rfl
      | succ n ih =>
        intro o ha
        simp only [cellsAt, allLive, Bool.and_eq_true] at ha ⊢
        rw [ih (o + 1) ha.2]
        congr 1
        have h1 := ha.1
        simp only [rd] at h1 ⊢
        cases hH : H k with
        | none => simp [hH, AVal.live] at h1
        | some b => simp [hg b hH]
    simp only [pLoad] at hp ⊢
    split at hp
    · rw [up _ _ hp]
    · have := up 1 p (by simp only [cellsAt, allLive, Bool.and_true]; exact hp)
      simp only [cellsAt, List.cons.injEq, and_true] at this
      rw [this]
    · exact hp.elim
  · rw [hv] at hp ⊢
    have same : ∀ (n o : Nat), cellsAt w₀ g (.base b) o n = cellsAt w₀ H (.base b) o n := by
      intro n
      induction n with
      | zero => intro o; rfl
      | succ n ih => intro o; simp only [cellsAt]; rw [ih]; rfl
    simp only [pLoad, same]
    rfl

theorem pop_heapless {g H : AHeap} {S : Slots} {op : Op} (h : heapless op = true) : pop P w₀ g S op = pop P w₀ H S op := by
  cases op <;> first
    | rfl
    | (cases h; done)

/-- The static conditions of a statement: k operations in its head, of them the late ones may come behind the tail's first. -/
def floatB (P : Program) (l : List Oper) (k : Nat) (late : List Nat) : Bool :=
  orderB l && decide (k ≤ l.length) && (late.all fun i => decide (i < k)) &&
  ((List.range k).all fun i => if late.contains i then (match l[i]? with | some o => o.guard.isNone && (heapless o.op || isLoad o.op) && (kindF P o.op == 2) && (List.range k).all (fun j => decide (j ≤ i) || match l[j]? with | some oj => (match oj.dst with | some t => !(looksL l o).contains t | none => true) | none => true) | none => true)
    else decide (k = l.length) || (List.range (k + 1)).any fun j => decide (i < j) && !late.contains j && Region.waitsFor .any l.toArray j i) &&
  ((List.range l.length).all fun t => decide (t < k) || ((match l[t]? with | some o => o.guard.isNone | none => true) && (decide (t = k) || Region.waitsFor .any l.toArray t (t - 1))))

structure FloatS (P : Program) (l : List Oper) (k : Nat) (late : List Nat) : Prop where
  order : orderB l = true
  kle : k ≤ l.length
  latek : ∀ i, late.contains i = true → i < k
  lateo : ∀ i o, late.contains i = true → l[i]? = some o → o.guard = none ∧ (heapless o.op = true ∨ isLoad o.op = true) ∧ kindF P o.op = 2
  latew : ∀ i o, late.contains i = true → l[i]? = some o → ∀ j oj t, i < j → j < k → l[j]? = some oj → oj.dst = some t → t ∉ looksL l o
  sink : ∀ i, i < k → late.contains i = false → k < l.length → ∃ j, i < j ∧ j ≤ k ∧ late.contains j = false ∧ Region.waitsFor .any l.toArray j i = true
  tailg : ∀ t o, k ≤ t → l[t]? = some o → o.guard = none
  chain : ∀ t, k < t → t < l.length → Region.waitsFor .any l.toArray t (t - 1) = true

theorem floatB_spec {l : List Oper} {k : Nat} {late : List Nat} (h : floatB P l k late = true) : FloatS P l k late := by
  unfold floatB at h
  simp only [Bool.and_eq_true, decide_eq_true_eq, List.all_eq_true, List.mem_range] at h
  obtain ⟨⟨⟨⟨h1, h2⟩, h3⟩, h4⟩, h5⟩ := h
  have hlk : ∀ i, late.contains i = true → i < k := fun i hi => by
    have := h3 i (by simpa using hi)
    simpa using this
  refine ⟨h1, h2, hlk, fun i o hi ho => ?_, fun i o hi ho j oj t hij hjk hj hd => ?_, fun i hi hl hk => ?_, fun t o ht ho => ?_, fun t ht htl => ?_⟩
  · have := h4 i (hlk i hi)
    rw [if_pos hi, ho] at this
    simp only [Bool.and_eq_true, beq_iff_eq, Option.isNone_iff_eq_none, Bool.or_eq_true] at this
    exact ⟨this.1.1.1, this.1.1.2, this.1.2⟩
  · have := h4 i (hlk i hi)
    rw [if_pos hi, ho] at this
    simp only [Bool.and_eq_true, List.all_eq_true, List.mem_range] at this
    have h6 := this.2 j hjk
    rw [hj] at h6
    simp only [hd, Bool.or_eq_true, decide_eq_true_eq, Bool.not_eq_true'] at h6
    rcases h6 with e | e
    · omega
    · intro hm
      rw [← List.contains_iff_mem] at hm
      rw [hm] at e
      cases e
  · have := h4 i hi
    rw [if_neg (by rw [hl]; decide)] at this
    simp only [Bool.or_eq_true, decide_eq_true_eq] at this
    rcases this with e | e
    · omega
    · rw [List.any_eq_true] at e
      obtain ⟨j, hj, e⟩ := e
      simp only [Bool.and_eq_true, decide_eq_true_eq, Bool.not_eq_true'] at e
      rw [List.mem_range] at hj
      exact ⟨j, e.1.1, by omega, e.1.2, e.2⟩
  · have hlt := (List.getElem?_eq_some_iff.1 ho).1
    have := h5 t hlt
    rw [ho] at this
    simp only [Bool.or_eq_true, decide_eq_true_eq, Bool.and_eq_true, Option.isNone_iff_eq_none] at this
    rcases this with e | e
    · omega
    · exact e.1
  · have := h5 t htl
    simp only [Bool.or_eq_true, decide_eq_true_eq, Bool.and_eq_true] at this
    rcases this with e | ⟨_, e | e⟩
    · omega
    · omega
    · exact e

structure InvF (l : List Oper) (k : Nat) (Vs : List AVal) (s : Slots) (ψ : PMap) (n : Nat) (listed : Array Bool) (a : Act) : Prop where
  size : listed.size = l.length
  closed : ∀ j oj, l[j]? = some oj → listed.getD j false = true → ∀ e ∈ oj.after, Region.binds .any e = true → listed.getD e.on false = true
  tsize : a.tmps.size = n
  defers : a.defers = []
  done : ∀ t j oj, j < k → l[j]? = some oj → oj.dst = some t → listed.getD j false = true → VR ψ (Vs.getD j .dead) (a.tmps.getD t undef)
  still : ∀ t, (∀ j oj, l[j]? = some oj → oj.dst = some t → listed.getD j false = false) → VR ψ (s.get t) (a.tmps.getD t undef)

theorem put_get_ne (a : Act) {d : Option Tmp} {v : Value} {t : Nat} (hne : d ≠ some t) : (a.put d v).tmps.getD t undef = a.tmps.getD t undef := put_tmps_ne a d v hne
theorem put_get_eq (a : Act) {d : Option Tmp} {v : Value} {t : Nat} (hd : d = some t) (ht : t < a.tmps.size) : (a.put d v).tmps.getD t undef = v := by rw [hd]; simp [Act.put, ht]
theorem put_size (a : Act) (d : Option Tmp) (v : Value) : (a.put d v).tmps.size = a.tmps.size := by cases d <;> simp [Act.put]
theorem put_defers (a : Act) (d : Option Tmp) (v : Value) : (a.put d v).defers = a.defers := by cases d <;> simp [Act.put]

/-- What operation i looks at lies in its slots. -/
theorem InvF.looks {l : List Oper} {k : Nat} (hB : orderB l = true) {Vs : List AVal} {s : Slots} {ψ : PMap} {listed : Array Bool} {a : Act} (inv : InvF l k Vs s ψ n listed a) {i : Nat} (hik : i < k) {o : Oper} (hol : l[i]? = some o) (hif : listed.getD i false = false)
    (hedges : ∀ e ∈ o.after, Region.binds .any e = true → listed.getD e.on false = true) : SRel ψ n ((slotsAt s l Vs i).keep (looksL l o)) a := by
  have hilt : i < l.length := (List.getElem?_eq_some_iff.1 hol).1
  have spec := orderB_spec hB hol
  refine ⟨inv.tsize, inv.defers, fun t => ?_⟩
  rw [Slots.get_keep]
  by_cases ht : (looksL l o).contains t = true
  · rw [if_pos ht]
    have ht' : t ∈ looksL l o := by simpa using ht
    by_cases hw : ∃ (j : Nat) (oj : Oper), l[j]? = some oj ∧ oj.dst = some t
    · obtain ⟨j, oj, hj, hd⟩ := hw
      rcases (spec.2 j oj t hj hd).2 ht' with ⟨c1, c2⟩ | ⟨c1, c2⟩
      · rw [slotsAt_writer hB s Vs hj hd i c1 (by omega)]
        refine inv.done t j oj (by omega) hj hd ?_
        obtain ⟨oi, g1, e, g2, g3, g4⟩ := Region.waitsFor_spec c2
        have g1' : l[i]? = some oi := by simpa using g1
        rw [hol] at g1'
        obtain rfl := Option.some.inj g1'
        rw [← g4]
        exact hedges e g2 g3
      · rw [slotsAt_none s Vs i fun j' oj' hj'' hj' hd' => by
          have := ((orderB_spec hB hj').2 j oj t hj hd).1 hd'
          omega]
        refine inv.still t fun j' oj' hj' hd' => ?_
        have e := ((orderB_spec hB hj').2 j oj t hj hd).1 hd'
        subst e
        cases hl : listed.getD j' false with
        | false => rfl
        | true =>
          exfalso
          obtain ⟨oi, g1, e, g2, g3, g4⟩ := Region.waitsFor_spec c2
          have g1' : l[j']? = some oi := by simpa using g1
          have := inv.closed j' oi g1' hl e g2 g3
          rw [g4, hif] at this
          cases this
    · rw [slotsAt_none s Vs i fun j oj _ hj hd => hw ⟨j, oj, hj, hd⟩]
      exact inv.still t fun j oj hj hd => absurd ⟨j, oj, hj, hd⟩ hw
  · rw [if_neg ht]
    trivial

/-- One operation more is listed. -/
theorem InvF.next {l : List Oper} {k : Nat} (hall : dstsOk n l = true) (hB : orderB l = true) {Vs : List AVal} {s : Slots} {ψ ψ' : PMap} (hle : ψ.le ψ') {listed : Array Bool} {a : Act} (inv : InvF l k Vs s ψ n listed a) {i : Nat} {o : Oper} (hol : l[i]? = some o)
    (hedges : ∀ e ∈ o.after, Region.binds .any e = true → listed.getD e.on false = true) {v : Value} (hv : i < k → VR ψ' (Vs.getD i .dead) v) : InvF l k Vs s ψ' n (listed.setIfInBounds i true) (a.put o.dst v) := by
  have hilt : i < l.length := (List.getElem?_eq_some_iff.1 hol).1
  have hisz : i < listed.size := by rw [inv.size]; exact hilt
  have spec := orderB_spec hB hol
  have hdn : ∀ d, o.dst = some d → d < n := fun d hd => nth_lt l i d hall (by rw [nthDst_eq, hol]; exact hd)
  refine ⟨by simp [inv.size], fun j oj hj hl e he hb => ?_, by rw [put_size]; exact inv.tsize, by rw [put_defers]; exact inv.defers, fun t j oj hjk hj hd hl => ?_, fun t hun => ?_⟩
  · by_cases e1 : e.on = i
    · rw [e1]; exact set_self hisz
    · rw [set_other e1]
      by_cases e2 : j = i
      · subst e2
        rw [hol] at hj
        obtain rfl := Option.some.inj hj
        exact hedges e he hb
      · rw [set_other e2] at hl
        exact inv.closed j oj hj hl e he hb
  · by_cases e : j = i
    · subst e
      rw [hol] at hj
      obtain rfl := Option.some.inj hj
      rw [put_get_eq a hd (by rw [inv.tsize]; exact hdn t hd)]
      exact hv hjk
    · rw [set_other e] at hl
      rw [put_get_ne a fun hod => e (((spec.2 j oj t hj hd).1 hod).symm)]
      exact VR_mono hle _ _ (inv.done t j oj hjk hj hd hl)
  · have hne : o.dst ≠ some t := fun hod => by
      have := hun i o hol hod
      rw [set_self hisz] at this
      cases this
    rw [put_get_ne a hne]
    refine VR_mono hle _ _ (inv.still t fun j oj hj hd => ?_)
    have e : j ≠ i := fun e => by subst e; rw [hol] at hj; obtain rfl := Option.some.inj hj; exact hne hd
    have := hun j oj hj hd
    rwa [set_other e] at this

/-- The tail is under way: p is the next of it. -/
def PhaseT (P : Program) (w₀ : World) (l : List Oper) (k : Nat) (late ks : List Nat) (hf : AHeap) (Vs : List AVal) (K : Slots → AHeap → Prop) (listed : Array Bool) (ψ : PMap) (a : Act) (w : World) : Prop :=
  ∃ p S g, k ≤ p ∧ p ≤ l.length ∧ (∀ t, k ≤ t → t < l.length → (listed.getD t false = true ↔ t < p)) ∧ (∀ i, i < k → late.contains i = false → listed.getD i false = true) ∧ HRel w₀ ψ g w ∧ kOps P w₀ ks (l.drop p) S g K ∧ (∀ j ∈ ks, g j = hf j) ∧
    (∀ i oi t, i < k → l[i]? = some oi → oi.dst = some t → S.get t = Vs.getD i .dead) ∧
    ∀ t, (∃ i oi, i < k ∧ l[i]? = some oi ∧ oi.dst = some t ∧ listed.getD i false = false) ∨ VR ψ (S.get t) (a.tmps.getD t undef)

def PhaseH (w₀ : World) (h₀ : AHeap) (l : List Oper) (k N : Nat) (bl : List (Option Blk)) (listed : Array Bool) (ψ : PMap) (w : World) : Prop :=
  (∀ t, k ≤ t → t < l.length → listed.getD t false = false) ∧ HH w₀ h₀ N bl listed ψ w

theorem head_done {l : List Oper} {k : Nat} {late : List Nat} (F : FloatS P l k late) {Vs : List AVal} {s : Slots} {ψ : PMap} {listed : Array Bool} {a : Act} (inv : InvF l k Vs s ψ n listed a) (hkl : k < l.length)
    (hedges : ∀ o, l[k]? = some o → ∀ e ∈ o.after, Region.binds .any e = true → listed.getD e.on false = true) : ∀ d i, i + d = k → i < k → late.contains i = false → listed.getD i false = true := by
  intro d
  induction d using Nat.strongRecOn with
  | ind d ih =>
    intro i hd hik hl
    obtain ⟨j, h1, h2, h3, h4⟩ := F.sink i hik hl hkl
    obtain ⟨oj, g1, e, g2, g3, g4⟩ := Region.waitsFor_spec h4
    have g1' : l[j]? = some oj := by simpa using g1
    rw [← g4]
    rcases Nat.eq_or_lt_of_le h2 with e' | e'
    · subst e'
      exact hedges oj g1' e g2 g3
    · exact inv.closed j oj g1' (ih (k - j) (by omega) j (by omega) e' h3) e g2 g3

theorem any_okF {l : List Oper} {k : Nat} {late ks : List Nat} (hall : dstsOk n l = true) (F : FloatS P l k late) {s : Slots} {Vs : List AVal} {N : Nat} {bl : List (Option Blk)} (hbl : bl.length = k)
    (hst : ∀ i o, i < k → l[i]? = some o → HeadStep P w₀ n h₀ l N bl (slotsAt s l Vs i) i o (Vs.getD i .dead))
    (hlb : ∀ i, late.contains i = true → bl.getD i none = none)
    (hlo : lateOK l ks (slotsAt s l Vs k) late)
    (hlate : ∀ i o, late.contains i = true → l[i]? = some o → ∃ H, (∀ j b, H j = some b → (gOf h₀ N bl fun _ => true) j = some b) ∧ (pop P w₀ H ((slotsAt s l Vs i).keep (looksL l o)) o.op).pre ∧ Vs.getD i .dead = (pop P w₀ H ((slotsAt s l Vs i).keep (looksL l o)) o.op).val)
    {K : Slots → AHeap → Prop} (hK : kOps P w₀ ks (l.drop k) (slotsAt s l Vs k) (gOf h₀ N bl fun _ => true) K) {φ : PMap} {Q : Exit → Act → World → Prop}
    (hq : ∀ ψ S g a w, φ.le ψ → HRel w₀ ψ g w → SRel ψ n S a → K S g → Q .normal a w) : ∀ (fuel : Nat) (listed : Array Bool) (a : Act) (w : World) (ψ : PMap), φ.le ψ → InvF l k Vs s ψ n listed a →
    (PhaseH w₀ h₀ l k N bl listed ψ w ∨ PhaseT P w₀ l k late ks (gOf h₀ N bl fun _ => true) Vs K listed ψ a w) → (listed.toList.filter (!·)).length ≤ fuel → wpAny P .any l.toArray Q fuel listed a w := by
  have hB := F.order
  -- from the head to the tail
  have turn : ∀ (listed : Array Bool) (a : Act) (w : World) (ψ : PMap), InvF l k Vs s ψ n listed a → PhaseH w₀ h₀ l k N bl listed ψ w → (∀ i, i < k → late.contains i = false → listed.getD i false = true) → PhaseT P w₀ l k late ks (gOf h₀ N bl fun _ => true) Vs K listed ψ a w := by
    intro listed a w ψ inv ⟨h1, h2, h3⟩ hd
    have hS : ∀ i oi t, i < k → l[i]? = some oi → oi.dst = some t → (slotsAt s l Vs k).get t = Vs.getD i .dead := fun i oi t hi ho hdt => slotsAt_writer hB s Vs ho hdt k hi F.kle
    refine ⟨k, _, _, Nat.le_refl _, F.kle, fun t ht htl => ?_, hd, ?_, hK, fun _ _ => rfl, hS, fun t => ?_⟩
    · rw [h1 t ht htl]
      simp; omega
    · have e : (gOf h₀ N bl fun i => listed.getD i false) = gOf h₀ N bl fun _ => true := by
        funext j
        simp only [gOf, cond_true]
        by_cases c : N ≤ j
        · rw [if_pos c, if_pos c]
          cases hl : listed.getD (j - N) false with
          | true => rfl
          | false =>
            simp only [cond_false]
            cases hc : late.contains (j - N) with
            | true => exact (hlb _ hc).symm
            | false =>
              by_cases c2 : j - N < k
              · rw [hd _ c2 hc] at hl; cases hl
              · have : bl[j - N]? = none := List.getElem?_eq_none (by omega)
                simp [List.getD, this]
        · rw [if_neg c, if_neg c]
      rw [← e]; exact h2
    · by_cases hw : ∃ i oi, i < k ∧ l[i]? = some oi ∧ oi.dst = some t
      · obtain ⟨i, oi, c1, c2, c3⟩ := hw
        cases hl : listed.getD i false with
        | false => exact .inl ⟨i, oi, c1, c2, c3, hl⟩
        | true =>
          right
          rw [hS i oi t c1 c2 c3]
          exact inv.done t i oi c1 c2 c3 hl
      · right
        rw [slotsAt_none s Vs k fun j oj hj ho hd' => hw ⟨j, oj, hj, ho, hd'⟩]
        refine inv.still t fun j oj ho hd' => ?_
        rcases Nat.lt_or_ge j k with c | c
        · exact absurd ⟨j, oj, c, ho, hd'⟩ hw
        · exact h1 j c (List.getElem?_eq_some_iff.1 ho).1
  have fin : ∀ (listed : Array Bool) (a : Act) (w : World) (ψ : PMap), φ.le ψ → InvF l k Vs s ψ n listed a → (PhaseH w₀ h₀ l k N bl listed ψ w ∨ PhaseT P w₀ l k late ks (gOf h₀ N bl fun _ => true) Vs K listed ψ a w) → Region.ready .any l.toArray listed = [] → Q .normal a w := by
    intro listed a w ψ hle inv hph hrd
    have hal := all_listed hB inv.size hrd
    have hT : PhaseT P w₀ l k late ks (gOf h₀ N bl fun _ => true) Vs K listed ψ a w := by
      rcases hph with hph | hph
      · exact turn listed a w ψ inv hph fun i hi _ => hal i (by have := F.kle; omega)
      · exact hph
    obtain ⟨p, S, g, h1, h2, h3, h4, h5, h6, _, h7, h8⟩ := hT
    have hp : p = l.length := by
      rcases Nat.eq_or_lt_of_le h2 with e | e
      · exact e
      · have := (h3 p h1 e).1 (hal p e)
        omega
    subst hp
    rw [List.drop_length] at h6
    refine hq ψ S g a w hle h5 ⟨inv.tsize, inv.defers, fun t => ?_⟩ h6
    rcases h8 t with ⟨i, oi, c1, c2, _, c4⟩ | c
    · rw [hal i (List.getElem?_eq_some_iff.1 c2).1] at c4; cases c4
    · exact c
  intro fuel
  induction fuel with
  | zero =>
    intro listed a w ψ hle inv hph hc
    have hrd : Region.ready .any l.toArray listed = [] := by
      cases hrd : Region.ready .any l.toArray listed with
      | nil => rfl
      | cons i r =>
        exfalso
        have hm : i ∈ Region.ready .any l.toArray listed := by rw [hrd]; exact List.mem_cons_self
        obtain ⟨h1, o, ho, _⟩ := mem_ready.1 hm
        have hi : i < listed.size := by
          have : l[i]? = some o := by simpa using ho
          rw [inv.size]; exact (List.getElem?_eq_some_iff.1 this).1
        have h2 : listed.toList[i]? = some false := by
          simp [Array.getD, hi] at h1
          simp [hi, h1]
        have := List.mem_of_getElem? h2
        have hmem : false ∈ listed.toList.filter (!·) := by simp [List.mem_filter, this]
        have := List.length_pos_of_mem hmem
        omega
    exact ⟨hrd, fin listed a w ψ hle inv hph hrd⟩
  | succ fuel ih =>
    intro listed a w ψ hle inv hph hc
    refine ⟨fun hrd => fin listed a w ψ hle inv hph hrd, fun i hi => ?_⟩
    obtain ⟨h1, o, ho, hedges⟩ := mem_ready.1 hi
    have hol : l[i]? = some o := by simpa using ho
    have hilt : i < l.length := (List.getElem?_eq_some_iff.1 hol).1
    have hisz : i < listed.size := by rw [inv.size]; exact hilt
    have hif : listed.getD i false = false := by simp [Array.getD, hisz] at h1 ⊢; exact h1
    have hcount : ((listed.setIfInBounds i true).toList.filter (!·)).length ≤ fuel := by
      have h2 : listed.toList[i]? = some false := by
        simp [Array.getD, hisz] at h1
        simp [hisz, h1]
      have := count_set listed.toList i h2
      have e : (listed.setIfInBounds i true).toList = listed.toList.set i true := by simp
      rw [e]
      omega
    have goal : (if Region.wanted o (yielded l.toArray a.tmps) = true then o.wp P a w (wpAny P .any l.toArray Q fuel (listed.setIfInBounds i true)) Q else wpAny P .any l.toArray Q fuel (listed.setIfInBounds i true) (a.put o.dst undef) w) := by
      -- the tail's next operation
      have tailstep : ∀ (hT : PhaseT P w₀ l k late ks (gOf h₀ N bl fun _ => true) Vs K listed ψ a w), k ≤ i → (if Region.wanted o (yielded l.toArray a.tmps) = true then o.wp P a w (wpAny P .any l.toArray Q fuel (listed.setIfInBounds i true)) Q else wpAny P .any l.toArray Q fuel (listed.setIfInBounds i true) (a.put o.dst undef) w) := by
        rintro ⟨p, S, g, t1, t2, t3, t4, t5, t6, tk, t7, t8⟩ hki
        have hg := F.tailg i o hki hol
        have hw : Region.wanted o (yielded l.toArray a.tmps) = true := by simp [Region.wanted, hg]
        rw [if_pos hw]
        have hpi : p ≤ i := by
          refine Nat.le_of_not_lt fun hlt => ?_
          rw [(t3 i hki hilt).2 hlt] at hif; cases hif
        have hip : i = p := by
          rcases Nat.eq_or_lt_of_le hpi with e | e
          · exact e.symm
          · exfalso
            have hch := F.chain i (by omega) hilt
            obtain ⟨oi, g1, e', g2, g3, g4⟩ := Region.waitsFor_spec hch
            have g1' : l[i]? = some oi := by simpa using g1
            rw [hol] at g1'
            obtain rfl := Option.some.inj g1'
            have h5 := hedges e' g2 g3
            rw [g4] at h5
            have := (t3 (i - 1) (by omega) (by omega)).1 h5
            omega
        subst hip
        have hdrop : l.drop i = o :: l.drop (i + 1) := by
          rw [List.drop_eq_getElem_cons hilt]
          congr 1
          exact (List.getElem?_eq_some_iff.1 hol).2
        rw [hdrop] at t6
        have t6 := t6.2
        have spec := orderB_spec hB hol
        have hlook : ∀ t, t ∈ looksL l o → VR ψ (S.get t) (a.tmps.getD t undef) := by
          intro t ht
          rcases t8 t with ⟨j, oj, c1, c2, c3, c4⟩ | c
          · exfalso
            rcases (spec.2 j oj t c2 c3).2 ht with ⟨d1, d2⟩ | ⟨d1, d2⟩
            · obtain ⟨oi, g1, e', g2, g3, g4⟩ := Region.waitsFor_spec d2
              have g1' : l[i]? = some oi := by simpa using g1
              rw [hol] at g1'
              obtain rfl := Option.some.inj g1'
              have := hedges e' g2 g3
              rw [g4, c4] at this
              cases this
            · omega
          · exact c
        have hs : SRel ψ n (S.keep (looksL l o)) a := by
          refine ⟨inv.tsize, inv.defers, fun t => ?_⟩
          rw [Slots.get_keep]
          by_cases ht : (looksL l o).contains t = true
          · rw [if_pos ht]; exact hlook t (by simpa using ht)
          · rw [if_neg ht]; trivial
        have t6' := t6
        rw [← eop_congr (s' := S.keep (looksL l o)) o.op (ev_mem fun t ht => by unfold looksL; exact List.mem_append_left _ ht)] at t6'
        refine eop_ok o t6' t5 hs fun ψ' x h' v w' e1 e2 e3 ⟨ek, e4⟩ => ?_
        refine ih _ _ _ ψ' (PMap.le_trans hle e1) (inv.next hall hB e1 hol hedges fun hik => absurd hik (by omega)) (.inr ⟨i + 1, _, h', by omega, by omega, fun t ht htl => ?_, fun j hj hl => ?_, e2, e4, fun j hj => (ek j hj).trans (tk j hj), fun j oj t hj hoj hd => ?_, fun t => ?_⟩) hcount
        · by_cases e : t = i
          · subst e
            rw [set_self hisz]
            simp
          · rw [set_other e, t3 t ht htl]
            omega
        · rw [set_other (by omega)]
          exact t4 j hj hl
        · rw [put_get, if_neg fun hod => by have := (spec.2 j oj t hoj hd).1 hod; omega]
          exact t7 j oj t hj hoj hd
        · by_cases hod : o.dst = some t
          · right
            rw [put_get, if_pos hod, put_get_eq a hod (by rw [inv.tsize]; exact nth_lt l i t hall (by rw [nthDst_eq, hol]; exact hod))]
            exact e3
          · rcases t8 t with ⟨j, oj, c1, c2, c3, c4⟩ | c
            · exact .inl ⟨j, oj, c1, c2, c3, by rw [set_other (by omega)]; exact c4⟩
            · right
              rw [put_get, if_neg hod, put_get_ne a hod]
              exact VR_mono e1 _ _ c
      rcases hph with hH | hT
      · rcases Nat.lt_or_ge i k with hik | hki
        · -- an operation of the head
          refine hst i o hik hol listed ψ w a _ Q hif hisz hH.2 (inv.looks hB hik hol hif hedges) fun ψ' v w' hle' hh' hv => ?_
          exact ih _ _ _ ψ' (PMap.le_trans hle hle') (inv.next hall hB hle' hol hedges fun _ => hv) (.inl ⟨fun t ht htl => by rw [set_other (by omega)]; exact hH.1 t ht htl, hh'⟩) hcount
        · have hik : i = k := by
            rcases Nat.eq_or_lt_of_le hki with e | e
            · exact e.symm
            · exfalso
              have hch := F.chain i e hilt
              obtain ⟨oi, g1, e', g2, g3, g4⟩ := Region.waitsFor_spec hch
              have g1' : l[i]? = some oi := by simpa using g1
              rw [hol] at g1'
              obtain rfl := Option.some.inj g1'
              have h5 := hedges e' g2 g3
              rw [g4, hH.1 (i - 1) (by omega) (by omega)] at h5
              cases h5
          refine tailstep (turn listed a w ψ inv hH fun j hj hl => ?_) hki
          exact head_done F inv (by omega) (fun o' ho' => by
            subst hik
            rw [hol] at ho'
            obtain rfl := Option.some.inj ho'
            exact hedges) (k - j) j (by omega) hj hl
      · rcases Nat.lt_or_ge i k with hik | hki
        · -- a late one
          obtain ⟨p, S, g, t1, t2, t3, t4, t5, t6, tk, t7, t8⟩ := hT
          have hlt : late.contains i = true := by
            cases hc : late.contains i with
            | true => rfl
            | false => rw [t4 i hik hc] at hif; cases hif
          obtain ⟨hg, hhl, hkf⟩ := F.lateo i o hlt hol
          have hw : Region.wanted o (yielded l.toArray a.tmps) = true := by simp [Region.wanted, hg]
          rw [if_pos hw]
          obtain ⟨H, q0, q1, q2⟩ := hlate i o hlt hol
          have hs := inv.looks hB hik hol hif hedges
          have same : pop P w₀ g ((slotsAt s l Vs i).keep (looksL l o)) o.op = pop P w₀ H ((slotsAt s l Vs i).keep (looksL l o)) o.op := by
            rcases hhl with hhl | hhl
            · exact pop_heapless hhl
            · cases hop : o.op with
              | load ty x =>
                rw [hop] at q1
                refine load_same ?_ q1
                have hev : ev ((slotsAt s l Vs i).keep (looksL l o)) x = ev (slotsAt s l Vs k) x := by
                  rw [ev_keep (looks_of (by rw [hop]; simp [Op.operands]))]
                  cases x with
                  | tmp t =>
                    have htl : t ∈ looksL l o := looks_of (x := .tmp t) (by rw [hop]; simp [Op.operands]) t rfl
                    simp only [ev]
                    have noW : ∀ m, i ≤ m → m ≤ k → (slotsAt s l Vs m).get t = (slotsAt s l Vs i).get t := by
                      intro m
                      induction m with
                      | zero => intro h1 _; rw [Nat.le_zero.1 h1]
                      | succ m ihm =>
                        intro h1 h2
                        rcases Nat.eq_or_lt_of_le h1 with e | e
                        · rw [e]
                        · rw [slotsAt]
                          cases hm : l[m]? with
                          | none => exact ihm (by omega) (by omega)
                          | some om =>
                            simp only
                            rw [put_get, if_neg fun hd => ?_]
                            · exact ihm (by omega) (by omega)
                            · rcases Nat.eq_or_lt_of_le (show i ≤ m by omega) with e' | e'
                              · subst e'
                                rw [hol] at hm
                                obtain rfl := Option.some.inj hm
                                rcases ((orderB_spec hB hol).2 i o t hol hd).2 htl with ⟨c, _⟩ | ⟨c, _⟩ <;> omega
                              · exact F.latew i o hlt hol m om t e' (by omega) hm hd htl
                    exact (noW k (by omega) (Nat.le_refl _)).symm
                  | _ => rfl
                rcases lateOK_mem hlo i (by simpa using hlt) o ty x hol hop with ⟨j, pp, c1, c2⟩ | ⟨b, pp, c1⟩
                · exact .inl ⟨j, pp, by rw [hev]; exact c1, fun b hb => by rw [tk j c2]; exact q0 j b hb⟩
                · exact .inr ⟨b, pp, by rw [hev]; exact c1⟩
              | _ => rw [hop] at hhl; cases hhl
          rw [← same] at q1 q2
          obtain ⟨r, e1, e2⟩ := pop_ok o q1 t5 hs
          rw [← q2] at e2
          refine wp_value (e1 w (Same.refl w)) ?_
          refine ih _ _ _ ψ hle (inv.next hall hB ψ.le_refl hol hedges fun _ => e2) (.inr ⟨p, S, g, t1, t2, fun t ht htl => ?_, fun j hj hl => ?_, t5, t6, tk, t7, fun t => ?_⟩) hcount
          · rw [set_other (by omega)]; exact t3 t ht htl
          · by_cases e : j = i
            · subst e; exact set_self hisz
            · rw [set_other e]; exact t4 j hj hl
          · by_cases hod : o.dst = some t
            · right
              rw [t7 i o t hik hol hod, put_get_eq a hod (by rw [inv.tsize]; exact nth_lt l i t hall (by rw [nthDst_eq, hol]; exact hod))]
              exact e2
            · rcases t8 t with ⟨j, oj, c1, c2, c3, c4⟩ | c
              · refine .inl ⟨j, oj, c1, c2, c3, ?_⟩
                have e : j ≠ i := fun e => by subst e; rw [hol] at c2; obtain rfl := Option.some.inj c2; exact hod c3
                rw [set_other e]; exact c4
              · right
                rw [put_get_ne a hod]
                exact c
        · exact tailstep hT hki
    simp only [wpOp, ho]
    split
    · rename_i hw
      rw [if_pos hw] at goal
      exact .inl goal
    · rename_i hw
      rw [if_neg hw] at goal
      exact goal

/-- A statement of open order: operations that read, call or lay blocks, in any order; late ones that only look at slots; a chained tail. -/
theorem awp_draw_G {Q : Exit → Slots → AHeap → Prop} {s : Slots} {h : AHeap} {id : Nat} {l : List Oper} (k : Nat) (late ks : List Nat) (hm : P.follows .mixedOrders = true) (hB : floatB P l k late = true) (hd : dstsOk n l = true)
    (hc : fOps P w₀ l h (l.take k) s h (fun s' h' => lateOK l ks s' late ∧ kOps P w₀ ks (l.drop k) s' h' fun s'' h'' => Q .normal s'' h'')) : Awp P w₀ n (.region id l.toArray true) Q s h := by
  intro φ a w hr hs
  have F := floatB_spec hB
  obtain ⟨N₀, hN₀⟩ := hr.fin
  obtain ⟨N, hN1, hNt⟩ := tyOf_run N₀ l.length
  have hNφ : ∀ j, N ≤ j → φ j = none := fun j hj => hN₀ j (Nat.le_trans hN1 hj)
  have hN : ∀ j, N ≤ j → h j = none := fun j hj => hr.free (hNφ j hj)
  have hg0 : gOf h N [] (fun _ => true) = h := by
    funext j
    simp only [gOf, cond_true]
    by_cases c : N ≤ j
    · rw [if_pos c, hN j c]; rfl
    · rw [if_neg c]
  have htl : (l.take k).length = k := by have := F.kle; simp; omega
  obtain ⟨Vs, bl, g1, g2, g3, g4⟩ := fOps_steps (P := P) (w₀ := w₀) (n := n) (h₀ := h) hd hN hNt (l.drop k) (s := s) (l.take k) [] [] [] (by simp) rfl rfl (by rw [hg0]; exact hc)
  simp only [List.nil_append, List.length_nil, Nat.zero_le, true_implies, Nat.zero_add, htl] at g1 g2 g3 g4
  refine wp_region_any hm ?_
  have hf : ∀ j, (Array.replicate l.toArray.size false).getD j false = false := fun j => by simp [Array.getD]
  refine any_okF (φ := φ) hd F (s := s) (Vs := Vs) (N := N) (bl := bl) g2 (fun i o hi ho => (g3 i o hi ho).2.1) (fun i hl => ?_) g4.1 (fun i o hl ho => ?_) g4.2 (fun ψ S g a' w' hle h1 h2 h3 => ⟨ψ, S, g, hle, h1, h2, h3⟩) _ _ _ _ φ φ.le_refl
    ⟨by simp, fun j oj _ hl => (by rw [hf] at hl; cases hl), hs.size, hs.defers, fun t j oj _ _ _ hl => (by rw [hf] at hl; cases hl), fun t _ => hs.val t⟩ (.inl ⟨fun t _ _ => hf t, ?_, fun i hi _ => hNφ _ (by omega)⟩) ?_
  · obtain ⟨o, ho⟩ : ∃ o, l[i]? = some o := ⟨_, List.getElem?_eq_getElem (by have := F.latek i hl; have := F.kle; omega)⟩
    obtain ⟨_, _, q3⟩ := F.lateo i o hl ho
    exact ((g3 i o (F.latek i hl) ho).2.2 q3).1
  · obtain ⟨q1, q2, q3⟩ := F.lateo i o hl ho
    exact ((g3 i o (F.latek i hl) ho).2.2 q3).2 q1
  · have e : (gOf h N bl fun i => (Array.replicate l.toArray.size false).getD i false) = h := by
      funext j
      simp only [gOf, hf, cond_false]
      by_cases c : N ≤ j
      · rw [if_pos c, hN j c]
      · rw [if_neg c]
    rw [e]
    exact hr.drew
  · have := List.length_filter_le (!·) (Array.replicate l.toArray.size false).toList
    simpa using this

/-- No late loads. -/
def heaplessB (l : List Oper) (late : List Nat) : Bool := late.all fun i => match l[i]? with | some o => !isLoad o.op | none => true
theorem lateOK_heapless {l : List Oper} {s : Slots} : ∀ {late : List Nat}, heaplessB l late = true → lateOK l [] s late
  | [], _ => trivial
  | i :: r, h => by
    unfold heaplessB at h
    simp only [List.all_cons, Bool.and_eq_true] at h
    refine ⟨?_, lateOK_heapless h.2⟩
    cases hi : l[i]? with
    | none => trivial
    | some o =>
      simp only
      have h1 := h.1
      rw [hi] at h1
      simp only [Bool.not_eq_true'] at h1
      cases hop : o.op <;> first | trivial | (rw [hop] at h1; cases h1)

theorem awp_draw_F {Q : Exit → Slots → AHeap → Prop} {s : Slots} {h : AHeap} {id : Nat} {l : List Oper} (k : Nat) (late : List Nat) (hm : P.follows .mixedOrders = true) (hB : (floatB P l k late && heaplessB l late) = true) (hd : dstsOk n l = true)
    (hc : fOps P w₀ l h (l.take k) s h (fun s' h' => aOps P w₀ l (l.drop k) s' h' fun s'' h'' => Q .normal s'' h'')) : Awp P w₀ n (.region id l.toArray true) Q s h := by
  rw [Bool.and_eq_true] at hB
  have F := floatB_spec hB.1
  refine awp_draw_G k late [] hm hB.1 hd (fOps_mono (fun s' h' ha => ⟨lateOK_heapless hB.2, kOps_of_aOps (fun o ho => ?_) ha⟩) hc)
  obtain ⟨j, hj⟩ := List.getElem?_of_mem ho
  rw [List.getElem?_drop] at hj
  exact F.tailg (k + j) o (by omega) hj

theorem awp_dseq_F {Q : Exit → Slots → AHeap → Prop} {s : Slots} {h : AHeap} {id : Nat} {l : List Oper} {y : Code} (k : Nat) (late L : List Nat) (hm : P.follows .mixedOrders = true) (hB : (floatB P l k late && heaplessB l late) = true) (hd : dstsOk n l = true)
    (hc : ∀ K : Slots → AHeap → Prop, (∀ s h, Awp P w₀ n y Q s h → K s h) → fOps P w₀ l h (l.take k) s h (fun s' h' => aOps P w₀ l (l.drop k) s' h' fun s'' h'' => K (s''.keep L) h'')) : Awp P w₀ n (.seq (.region id l.toArray true) y) Q s h :=
  awp_seq (awp_draw_F k late hm hB hd (fOps_mono (fun _ _ ha => awp_rseq.aOps_mono (fun _ _ hk => Awp.keep L hk) ha) (hc (fun s h => Awp P w₀ n y Q s h) (fun _ _ hk => hk))))
end
end Go.AM

/-
  An assertion layer over the model's wp, part U: rewriting lemmas for the heads of statements of open order.
  Conditions: none. Nothing here is about a particular program.
-/
namespace Go.AM
open Go.RowKit (Below)
section
variable {P : Program} {w₀ : World} {ops rest : List Oper} {s : Slots} {h h₀ : AHeap} {K : Slots → AHeap → Prop} {dst : Option Tmp} {ty : TypeId} {pos : String} {af : Array Edge}

theorem fOps_nil : fOps P w₀ ops h₀ [] s h K = K s h := rfl
theorem fp_of {op : Op} (hk : kindF P op = 2) : fOps P w₀ ops h₀ (⟨dst, op, ty, pos, af, none⟩ :: rest) s h K = ((pop P w₀ h s op).pre ∧ fOps P w₀ ops h₀ rest (putD s dst (pop P w₀ h s op).val) h K) := by
  have e : pop P w₀ h (s.keep (looksL ops ⟨dst, op, ty, pos, af, none⟩)) op = pop P w₀ h s op := pop_congr op (ev_mem fun t ht => by unfold looksL; exact List.mem_append_left _ ht)
  have h0 : ¬ kindF P op = 0 := by omega
  simp only [fOps, if_neg h0, stepF, if_pos hk, e]
  exact propext ⟨fun ⟨V, ⟨h1, h2⟩, h3⟩ => ⟨h1, h2 ▸ h3⟩, fun ⟨h1, h2⟩ => ⟨_, ⟨h1, rfl⟩, h2⟩⟩
theorem kindF_conv {t u : TypeId} {x : Operand} (hs : (!eStrBytes P t u && !eSame P t u) = true) : kindF P (.convert t u x) = 2 := by
  simp only [Bool.and_eq_true, Bool.not_eq_true'] at hs
  simp [kindF, hs.1, hs.2]
theorem fp_move (x : Operand) : fOps P w₀ ops h₀ (⟨dst, .move x, ty, pos, af, none⟩ :: rest) s h K = ((pop P w₀ h s (.move x)).pre ∧ fOps P w₀ ops h₀ rest (putD s dst (pop P w₀ h s (.move x)).val) h K) := fp_of (by rfl)
theorem fp_binOp (o : BinOp) (t : TypeId) (x y : Operand) (u : TypeId) : fOps P w₀ ops h₀ (⟨dst, .binOp o t x y u, ty, pos, af, none⟩ :: rest) s h K = ((pop P w₀ h s (.binOp o t x y u)).pre ∧ fOps P w₀ ops h₀ rest (putD s dst (pop P w₀ h s (.binOp o t x y u)).val) h K) := fp_of (by rfl)
theorem fp_load (t : TypeId) (x : Operand) : fOps P w₀ ops h₀ (⟨dst, .load t x, ty, pos, af, none⟩ :: rest) s h K = ((pop P w₀ h s (.load t x)).pre ∧ fOps P w₀ ops h₀ rest (putD s dst (pop P w₀ h s (.load t x)).val) h K) := fp_of (by rfl)
theorem fp_fieldAddr (t : TypeId) (x : Operand) (f : Nat) : fOps P w₀ ops h₀ (⟨dst, .fieldAddr t x f, ty, pos, af, none⟩ :: rest) s h K = ((pop P w₀ h s (.fieldAddr t x f)).pre ∧ fOps P w₀ ops h₀ rest (putD s dst (pop P w₀ h s (.fieldAddr t x f)).val) h K) := fp_of (by rfl)
theorem fp_indexAddr (t : TypeId) (x i : Operand) : fOps P w₀ ops h₀ (⟨dst, .indexAddr t x i, ty, pos, af, none⟩ :: rest) s h K = ((pop P w₀ h s (.indexAddr t x i)).pre ∧ fOps P w₀ ops h₀ rest (putD s dst (pop P w₀ h s (.indexAddr t x i)).val) h K) := fp_of (by rfl)
theorem fp_extract (x : Operand) (i : Nat) : fOps P w₀ ops h₀ (⟨dst, .extract x i, ty, pos, af, none⟩ :: rest) s h K = ((pop P w₀ h s (.extract x i)).pre ∧ fOps P w₀ ops h₀ rest (putD s dst (pop P w₀ h s (.extract x i)).val) h K) := fp_of (by rfl)
theorem fp_len (a : List Operand) (t : Array TypeId) : fOps P w₀ ops h₀ (⟨dst, .call ⟨.builtin .len, a.toArray, t⟩, ty, pos, af, none⟩ :: rest) s h K = ((pop P w₀ h s (.call ⟨.builtin .len, a.toArray, t⟩)).pre ∧ fOps P w₀ ops h₀ rest (putD s dst (pop P w₀ h s (.call ⟨.builtin .len, a.toArray, t⟩)).val) h K) := fp_of (by rfl)
theorem fp_convert (t u : TypeId) (x : Operand) (hs : (!eStrBytes P t u && !eSame P t u) = true) : fOps P w₀ ops h₀ (⟨dst, .convert t u x, ty, pos, af, none⟩ :: rest) s h K = ((pop P w₀ h s (.convert t u x)).pre ∧ fOps P w₀ ops h₀ rest (putD s dst (pop P w₀ h s (.convert t u x)).val) h K) := fp_of (kindF_conv hs)
theorem fp_slice (t : TypeId) (x : Operand) (a b c : Option Operand) : fOps P w₀ ops h₀ (⟨dst, .slice t x a b c, ty, pos, af, none⟩ :: rest) s h K = ((pop P w₀ h s (.slice t x a b c)).pre ∧ fOps P w₀ ops h₀ rest (putD s dst (pop P w₀ h s (.slice t x a b c)).val) h K) := fp_of (by rfl)
/-- A block is laid. -/
theorem fOps_lay {op : Op} (hk : kindF P op = 0) (he : aOps P w₀ ops [⟨dst, op, ty, pos, af, none⟩] s h (fun s' h' => fOps P w₀ ops h₀ rest s' h' K)) : fOps P w₀ ops h₀ (⟨dst, op, ty, pos, af, none⟩ :: rest) s h K := by
  simp only [aOps] at he
  simp only [fOps, if_pos hk]
  refine ⟨trivial, ?_⟩
  rw [eop_congr op (ev_mem fun t ht => by unfold looksL; exact List.mem_append_left _ ht)]
  exact he
/-- A call whose answer is one value and that leaves the heap. -/
theorem fOps_callV {fo : Operand} {args : List Operand} {ts : Array TypeId} {f : FuncId} {cap xs : List AVal} {V : AVal} (hf : ev s fo = .func f cap) (hx : evs s args ++ cap = xs) (hV : V.okIn (fun k => (h₀ k).isSome)) (hc : ∀ g, Sub h₀ g → ACall P w₀ f xs g (fun x h' => x = V ∧ h' = g))
    (hk : fOps P w₀ ops h₀ rest (putD s dst V) h K) : fOps P w₀ ops h₀ (⟨dst, .call ⟨.value fo, args.toArray, ts⟩, ty, pos, af, none⟩ :: rest) s h K := by
  have h0 : ¬ kindF P (.call ⟨.value fo, args.toArray, ts⟩) = 0 := by simp [kindF]
  simp only [fOps, if_neg h0]
  refine ⟨V, ?_, hk⟩
  have h2 : ¬ kindF P (.call ⟨.value fo, args.toArray, ts⟩) = 2 := by simp [kindF]
  rw [stepF, if_neg h2]
  refine ⟨rfl, hV, fun g hg => ?_⟩
  rw [eop_congr _ (ev_mem fun t ht => by unfold looksL; exact List.mem_append_left _ ht)]
  simp only [eop, hf, hx]
  exact hc g hg
theorem kOps_nil {ks : List Nat} : kOps P w₀ ks [] s h K = K s h := rfl
end
end Go.AM

/-
  An assertion layer over the model's wp, part V: heaps that are chains of blocks; slices whose elements are rows of cells.
  Conditions: none. Nothing here is about a particular program.
-/
namespace Go.AM
open Go.RowKit (Below)

theorem AHeap.set_none (h : AHeap) (k j : Nat) (b : Blk) : ((h.set k b) j = none) = (j ≠ k ∧ k ≠ j ∧ h j = none) := by
  refine propext ⟨fun e => ?_, fun ⟨e1, _, e2⟩ => by rw [AHeap.set_ne _ _ e1]; exact e2⟩
  have hne : j ≠ k := fun e' => by subst e'; rw [AHeap.set_same] at e; cases e
  exact ⟨hne, Ne.symm hne, by rwa [AHeap.set_ne _ _ hne] at e⟩
theorem rd_ne' (w₀ : World) (h : AHeap) {j k : Nat} (hj : j ≠ k) (b : Blk) (o : Nat) : rd w₀ (h.set k b) (.own j) o = rd w₀ h (.own j) o := rd_ne w₀ h b hj o
theorem lv_bool (b : Bool) : (AVal.bool b).live = true := rfl
theorem lv_int (k : IntKind) (n : Int) : (AVal.int k n).live = true := rfl
theorem lv_str (s : List UInt8) : (AVal.str s).live = true := rfl
theorem lv_nilPtr : AVal.nilPtr.live = true := rfl
theorem lv_ptr (l : Loc) (o : Nat) : (AVal.ptr l o).live = true := rfl
theorem lv_nilSlice : AVal.nilSlice.live = true := rfl
theorem lv_slice (l : Loc) (o n : Nat) (c : Cap) : (AVal.slice l o n c).live = true := rfl
theorem lv_nilFunc : AVal.nilFunc.live = true := rfl
theorem lv_func (f : FuncId) (c : List AVal) : (AVal.func f c).live = true := rfl
theorem lv_nilIface : AVal.nilIface.live = true := rfl
theorem lv_iface (t : TypeId) (v : AVal) : (AVal.iface t v).live = true := rfl
theorem lv_nilMap : AVal.nilMap.live = true := rfl
theorem lv_agg (cs : List AVal) : (AVal.agg cs).live = true := rfl
theorem lv_tuple (cs : List AVal) : (AVal.tuple cs).live = true := rfl
theorem IsB.live {w₀ : World} {h : AHeap} {v : AVal} {bs : List UInt8} (hb : IsB w₀ h v bs) : v.live = true := by cases hb <;> rfl
theorem IsB.scal {w₀ : World} {h : AHeap} {v : AVal} {bs : List UInt8} (hb : IsB w₀ h v bs) : v.scal = true := by cases hb <;> rfl

section
variable {P : Program} {w₀ : World} {s : Slots} {h : AHeap}
end

section
variable {P : Program}
theorem pSliceS_00 {t : TypeId} (ht : P.underlying t = some .string) (s : List UInt8) : pSlice P t (.str s) none none none = pSliceS s (bndA none 0) (bndA none s.length) := pSliceS_str ht s _ _
theorem pSliceS_0i {t : TypeId} (ht : P.underlying t = some .string) (s : List UInt8) (k : IntKind) (b : Int) : pSlice P t (.str s) none (some (.int k b)) none = pSliceS s (bndA none 0) (bndA (some (.int k b)) s.length) := pSliceS_str ht s _ _
theorem pSliceS_i0 {t : TypeId} (ht : P.underlying t = some .string) (s : List UInt8) (k : IntKind) (b : Int) : pSlice P t (.str s) (some (.int k b)) none none = pSliceS s (bndA (some (.int k b)) 0) (bndA none s.length) := pSliceS_str ht s _ _
theorem pSliceS_ii {t : TypeId} (ht : P.underlying t = some .string) (s : List UInt8) (k k' : IntKind) (a b : Int) : pSlice P t (.str s) (some (.int k a)) (some (.int k' b)) none = pSliceS s (bndA (some (.int k a)) 0) (bndA (some (.int k' b)) s.length) := pSliceS_str ht s _ _
end
end Go.AM

/-
  Facts on the types of this seat's translation, by program (gen_ty.py): cells, bytes, zero values.
  Conditions: none.
-/
namespace Go.Proofs.YteagjfcmhmmljaaDoor
open Go.AM

theorem sz3 : szOf Tryd.prog 3 = some 1 := by kernel_rfl
theorem ag3 : aggOf Tryd.prog 3 = some false := by kernel_rfl
theorem sz4 : szOf Tryd.prog 4 = some 1 := by kernel_rfl
theorem ag4 : aggOf Tryd.prog 4 = some false := by kernel_rfl
theorem sz5 : szOf Tryd.prog 5 = some 1 := by kernel_rfl
theorem by5 : byOf Tryd.prog 5 = some 1 := by kernel_rfl
theorem ze5 : zeOf Tryd.prog 5 = some (.int .u8 0) := by kernel_rfl
theorem sz9 : szOf Tryd.prog 9 = some 1 := by kernel_rfl
theorem ag9 : aggOf Tryd.prog 9 = some false := by kernel_rfl
theorem sz32 : szOf Tryd.prog 32 = some 3 := by kernel_rfl
theorem ze32 : zeOf Tryd.prog 32 = some (.agg #[.bool false, .string .empty, .int .i64 0]) := by kernel_rfl
theorem ag32 : aggOf Tryd.prog 32 = some true := by kernel_rfl
theorem egt32 : Tryd.prog.eqGuardType Tryd.prog.depth 32 = false := by kernel_rfl
theorem sz35 : szOf Tryd.prog 35 = some 1 := by kernel_rfl
theorem ag35 : aggOf Tryd.prog 35 = some false := by kernel_rfl
theorem sz66 : szOf Tryd.prog 66 = some 256 := by kernel_rfl
theorem fa32_0 (l : AM.Loc) (o : Nat) : pFieldAddr Tryd.prog 32 (.ptr l o) 0 = ⟨1 ≠ 0, .ptr l (o + 0)⟩ := by kernel_rfl
theorem fa32_1 (l : AM.Loc) (o : Nat) : pFieldAddr Tryd.prog 32 (.ptr l o) 1 = ⟨1 ≠ 0, .ptr l (o + 1)⟩ := by kernel_rfl
theorem fa32_2 (l : AM.Loc) (o : Nat) : pFieldAddr Tryd.prog 32 (.ptr l o) 2 = ⟨1 ≠ 0, .ptr l (o + 2)⟩ := by kernel_rfl
theorem eqv32 (a0 b0 : Bool) (a1 b1 : List UInt8) (a2 b2 : Int) : (eqA Tryd.prog 40 32 (.agg [.bool a0, .str a1, .int .i64 a2]) (.agg [.bool b0, .str b1, .int .i64 b2])).val = .bool ((a0 == b0) && (decide (a1 = b1) && (decide (a2 = b2) && true))) := by kernel_rfl
theorem eqp32 (a0 b0 : Bool) (a1 b1 : List UInt8) (a2 b2 : Int) : (eqA Tryd.prog 40 32 (.agg [.bool a0, .str a1, .int .i64 a2]) (.agg [.bool b0, .str b1, .int .i64 b2])).pre = ((0 < 3) ∧ (0 < 3) ∧ True ∧ ((1 < 3) ∧ (1 < 3) ∧ True ∧ ((2 < 3) ∧ (2 < 3) ∧ True ∧ True))) := by kernel_rfl
theorem eq32 (a0 b0 : Bool) (a1 b1 : List UInt8) (a2 b2 : Int) : pAggEq Tryd.prog .eql 32 (.agg [.bool a0, .str a1, .int .i64 a2]) (.agg [.bool b0, .str b1, .int .i64 b2]) = ⟨True, .bool ((a0 == b0) && (decide (a1 = b1) && (decide (a2 = b2) && true)))⟩ := by
  simp only [pAggEq, eqv32, eqp32, egt32, PR.mk.injEq, and_true]; decide
theorem ne32 (a0 b0 : Bool) (a1 b1 : List UInt8) (a2 b2 : Int) : pAggEq Tryd.prog .neq 32 (.agg [.bool a0, .str a1, .int .i64 a2]) (.agg [.bool b0, .str b1, .int .i64 b2]) = ⟨True, .bool (!((a0 == b0) && (decide (a1 = b1) && (decide (a2 = b2) && true))))⟩ := by
  simp only [pAggEq, eqv32, eqp32, egt32, PR.mk.injEq, and_true]; decide
theorem bld32_ : pBuild Tryd.prog 32 [] = ⟨True, .agg [.bool false, .str [], .int .i64 0]⟩ := by kernel_rfl
theorem bld32_1 (x1 : List UInt8) : pBuild Tryd.prog 32 [(1, .str x1)] = ⟨True, .agg [.bool false, .str x1, .int .i64 0]⟩ := by kernel_rfl
theorem bld32_0_1_2 (x0 : Bool) (x1 : List UInt8) (x2 : Int) : pBuild Tryd.prog 32 [(0, .bool x0), (1, .str x1), (2, .int .i64 x2)] = ⟨True, .agg [.bool x0, .str x1, .int .i64 x2]⟩ := by kernel_rfl
theorem mixed : Tryd.prog.follows .mixedOrders = true := by kernel_rfl
end Go.Proofs.YteagjfcmhmmljaaDoor

/-
  DERIVED: THE SHELF's CONTRACTS AT THIS DUMP, IN PLAIN WORDS (tools/lay-plain.mjs out of 'TrydShelf.lean', which tools/lay-shelf.mjs wrote): THE SAME DECLARATIONS UNDER THE SAME NAMES: 'import', 'namespace', 'open', 'def', 'theorem' AND NOTHING ELSE: no command of the shelf's: FOR A HAND-IN. Each laying: the table of numbers ('.._ren') and one theorem, a field a fact of the dump's own or the kernel's comparison; each contract: ONE APPLICATION.
-/
namespace Go.Proofs
open Go.Shelf
open Go.RowKit in
open Go.RowKit in
open Go.RowKit in
open Go.RowKit in
open Go.RowKit in
open Go.RowKit in
open Go.RowKit in
open Go.RowKit in
def Tryd.lays161_ren : Go.Shelf.Ren := ⟨fun | 161 => 41 | 231 => 33 | 227 => 35 | 233 => 36 | 235 => 38 | 228 => 53 | 197 => 54 | 151 => 55 | 260 => 67 | 152 => 68 | 137 => 77 | 119 => 78 | 224 => 79 | 225 => 80 | 217 => 83 | 266 => 84 | n => n, fun | 9 => 9 | 4 => 4 | 3 => 3 | 5 => 5 | 117 => 67 | 116 => 66 | 0 => 0 | 124 => 70 | 105 => 91 | 21 => 21 | 119 => 117 | 46 => 73 | 139 => 120 | 138 => 119 | n => n, fun | 3 => 2 | 4 => 3 | n => n⟩
theorem Tryd.lays161 : Go.Proofs.Lays.n161 Tryd.prog Tryd.lays161_ren := {
  mixed := by kernel_rfl
  f119 := Tryd.func78.trans (congrArg some (by kernel_rfl))
  f137 := Tryd.func77.trans (congrArg some (by kernel_rfl))
  f151 := Tryd.func55.trans (congrArg some (by kernel_rfl))
  f152 := Tryd.func68.trans (congrArg some (by kernel_rfl))
  f161 := Tryd.func41.trans (congrArg some (by kernel_rfl))
  f197 := Tryd.func54.trans (congrArg some (by kernel_rfl))
  f217 := Tryd.func83.trans (congrArg some (by kernel_rfl))
  f224 := Tryd.func79.trans (congrArg some (by kernel_rfl))
  f225 := Tryd.func80.trans (congrArg some (by kernel_rfl))
  f227 := Tryd.func35.trans (congrArg some (by kernel_rfl))
  f228 := Tryd.func53.trans (congrArg some (by kernel_rfl))
  f231 := Tryd.func33.trans (congrArg some (by kernel_rfl))
  f233 := Tryd.func36.trans (congrArg some (by kernel_rfl))
  f235 := Tryd.func38.trans (congrArg some (by kernel_rfl))
  f260 := Tryd.func67.trans (congrArg some (by kernel_rfl))
  f266 := Tryd.func84.trans (congrArg some (by kernel_rfl))
  t0 := Tryd.underlying0
  a0 := Tryd.isAgg0
  z0 := Tryd.sizeOf0
  v0 := Tryd.zeroValue0
  t3 := Tryd.underlying3
  a3 := Tryd.isAgg3
  z3 := Tryd.sizeOf3
  v3 := Tryd.zeroValue3
  t4 := Tryd.underlying4
  a4 := Tryd.isAgg4
  z4 := Tryd.sizeOf4
  v4 := Tryd.zeroValue4
  t5 := Tryd.underlying5
  a5 := Tryd.isAgg5
  z5 := Tryd.sizeOf5
  v5 := Tryd.zeroValue5
  t9 := Tryd.underlying9
  a9 := Tryd.isAgg9
  z9 := Tryd.sizeOf9
  v9 := Tryd.zeroValue9
  t21 := Tryd.underlying21
  a21 := Tryd.isAgg21
  z21 := Tryd.sizeOf21
  v21 := Tryd.zeroValue21
  t46 := Tryd.underlying73
  a46 := Tryd.isAgg73
  z46 := Tryd.sizeOf73
  v46 := Tryd.zeroValue73
  t105 := Tryd.underlying91
  a105 := Tryd.isAgg91
  z105 := Tryd.sizeOf91
  v105 := Tryd.zeroValue91
  t116 := Tryd.underlying66
  a116 := Tryd.isAgg66
  z116 := Tryd.sizeOf66
  t117 := Tryd.underlying67
  a117 := Tryd.isAgg67
  z117 := Tryd.sizeOf67
  v117 := Tryd.zeroValue67
  t119 := Tryd.underlying117
  a119 := Tryd.isAgg117
  z119 := Tryd.sizeOf117
  t124 := Tryd.underlying70
  a124 := Tryd.isAgg70
  z124 := Tryd.sizeOf70
  v124 := Tryd.zeroValue70
  t138 := Tryd.underlying119
  a138 := Tryd.isAgg119
  z138 := Tryd.sizeOf119
  v138 := Tryd.zeroValue119
  t139 := Tryd.underlying120
  a139 := Tryd.isAgg120
  z139 := Tryd.sizeOf120
  v139 := Tryd.zeroValue120
  g3 := by kernel_rfl
  g4 := by kernel_rfl }
open Go.RowKit in
/-- strings.TrimLeft: "TrimLeft returns a slice of the string s with all leading Unicode code points contained in cutset removed.": AT A cutset OF ONE ASCII BYTE. The world is as it was. (LAID: no walk: one application.) -/
theorem Tryd.strings_TrimLeft_one (s : ByteArray) (c : UInt8) (hc : c.toNat < 128) (w : World) :
    Calls Tryd.prog 41 #[.string s, .string ⟨#[c]⟩] w fun e w' => e = .returned (.string ⟨(Lib.trimLeftB s.data.toList c).toArray⟩) ∧ w' = w := Any.strings_TrimLeft_one Tryd.lays161 s c hc w
def Tryd.lays160_ren : Go.Shelf.Ren := ⟨fun | 160 => 21 | 232 => 34 | 231 => 33 | 227 => 35 | 234 => 37 | 233 => 36 | 236 => 39 | 235 => 38 | 228 => 53 | 271 => 56 | 151 => 55 | 197 => 54 | 120 => 69 | 152 => 68 | 260 => 67 | 137 => 77 | 119 => 78 | 224 => 79 | 225 => 80 | 217 => 83 | 266 => 84 | n => n, fun | 9 => 9 | 4 => 4 | 3 => 3 | 5 => 5 | 117 => 67 | 116 => 66 | 0 => 0 | 124 => 70 | 21 => 21 | 105 => 91 | 46 => 73 | 119 => 117 | 139 => 120 | 138 => 119 | n => n, fun | 3 => 2 | 4 => 3 | n => n⟩
theorem Tryd.lays160 : Go.Proofs.Lays.n160 Tryd.prog Tryd.lays160_ren := {
  mixed := by kernel_rfl
  f119 := Tryd.func78.trans (congrArg some (by kernel_rfl))
  f120 := Tryd.func69.trans (congrArg some (by kernel_rfl))
  f137 := Tryd.func77.trans (congrArg some (by kernel_rfl))
  f151 := Tryd.func55.trans (congrArg some (by kernel_rfl))
  f152 := Tryd.func68.trans (congrArg some (by kernel_rfl))
  f160 := Tryd.func21.trans (congrArg some (by kernel_rfl))
  f197 := Tryd.func54.trans (congrArg some (by kernel_rfl))
  f217 := Tryd.func83.trans (congrArg some (by kernel_rfl))
  f224 := Tryd.func79.trans (congrArg some (by kernel_rfl))
  f225 := Tryd.func80.trans (congrArg some (by kernel_rfl))
  f227 := Tryd.func35.trans (congrArg some (by kernel_rfl))
  f228 := Tryd.func53.trans (congrArg some (by kernel_rfl))
  f231 := Tryd.func33.trans (congrArg some (by kernel_rfl))
  f232 := Tryd.func34.trans (congrArg some (by kernel_rfl))
  f233 := Tryd.func36.trans (congrArg some (by kernel_rfl))
  f234 := Tryd.func37.trans (congrArg some (by kernel_rfl))
  f235 := Tryd.func38.trans (congrArg some (by kernel_rfl))
  f236 := Tryd.func39.trans (congrArg some (by kernel_rfl))
  f260 := Tryd.func67.trans (congrArg some (by kernel_rfl))
  f266 := Tryd.func84.trans (congrArg some (by kernel_rfl))
  f271 := Tryd.func56.trans (congrArg some (by kernel_rfl))
  t0 := Tryd.underlying0
  a0 := Tryd.isAgg0
  z0 := Tryd.sizeOf0
  v0 := Tryd.zeroValue0
  t3 := Tryd.underlying3
  a3 := Tryd.isAgg3
  z3 := Tryd.sizeOf3
  v3 := Tryd.zeroValue3
  t4 := Tryd.underlying4
  a4 := Tryd.isAgg4
  z4 := Tryd.sizeOf4
  v4 := Tryd.zeroValue4
  t5 := Tryd.underlying5
  a5 := Tryd.isAgg5
  z5 := Tryd.sizeOf5
  v5 := Tryd.zeroValue5
  t9 := Tryd.underlying9
  a9 := Tryd.isAgg9
  z9 := Tryd.sizeOf9
  v9 := Tryd.zeroValue9
  t21 := Tryd.underlying21
  a21 := Tryd.isAgg21
  z21 := Tryd.sizeOf21
  v21 := Tryd.zeroValue21
  t46 := Tryd.underlying73
  a46 := Tryd.isAgg73
  z46 := Tryd.sizeOf73
  v46 := Tryd.zeroValue73
  t105 := Tryd.underlying91
  a105 := Tryd.isAgg91
  z105 := Tryd.sizeOf91
  v105 := Tryd.zeroValue91
  t116 := Tryd.underlying66
  a116 := Tryd.isAgg66
  z116 := Tryd.sizeOf66
  t117 := Tryd.underlying67
  a117 := Tryd.isAgg67
  z117 := Tryd.sizeOf67
  v117 := Tryd.zeroValue67
  t119 := Tryd.underlying117
  a119 := Tryd.isAgg117
  z119 := Tryd.sizeOf117
  t124 := Tryd.underlying70
  a124 := Tryd.isAgg70
  z124 := Tryd.sizeOf70
  v124 := Tryd.zeroValue70
  t138 := Tryd.underlying119
  a138 := Tryd.isAgg119
  z138 := Tryd.sizeOf119
  v138 := Tryd.zeroValue119
  t139 := Tryd.underlying120
  a139 := Tryd.isAgg120
  z139 := Tryd.sizeOf120
  v139 := Tryd.zeroValue120
  g3 := by kernel_rfl
  g4 := by kernel_rfl }
open Go.RowKit in
/-- strings.Trim: "Trim returns a slice of the string s with all leading and trailing Unicode code points contained in cutset removed.": AT A cutset OF ONE ASCII BYTE. THE WORLD BEHIND IT: as it was, or (where s is not empty) with ONE DRAW MORE off the tape: the statement 'return trimLeftByte(trimRightByte(s, c), c)' draws its order of evaluation. (LAID: no walk: one application.) -/
theorem Tryd.strings_Trim_one (s : ByteArray) (c : UInt8) (hc : c.toNat < 128) (w : World) (hs : s.size ≤ 9223372036854775807) :
    Calls Tryd.prog 21 #[.string s, .string ⟨#[c]⟩] w fun e w' => e = .returned (.string ⟨(Lib.trimB s.data.toList c).toArray⟩) ∧ (w' = w ∨ w' = w.drew) := Any.strings_Trim_one Tryd.lays160 s c hc w hs
open Go.RowKit in
open Go.RowKit in
open Go.RowKit in
open Go.RowKit in
open Go.RowKit in
open Go.RowKit in
open Go.RowKit in
open Go.RowKit in
open Go.RowKit in
open Go.RowKit in
open Go.Lib in
open Go.Lib in
open Go.Lib in
open Go.Lib in
open Go.RowKit Go.Sort Go.Lib in
open Go.RowKit Go.Sort Go.Lib in
open Go.RowKit Go.Sort Go.Lib in
open Go.RowKit Go.Sort Go.Lib in
open Go.RowKit Go.Sort Go.Lib in
def Tryd.laysM171_ren : Go.Shelf.Ren := ⟨fun | 171 => 14 | 243 => 22 | 246 => 40 | 283 => 57 | 284 => 58 | 285 => 59 | 286 => 60 | 129 => 71 | 317 => 70 | 318 => 72 | 319 => 73 | 320 => 74 | 337 => 81 | 338 => 82 | n => n, fun | 3 => 3 | 9 => 9 | 2 => 2 | 4 => 4 | 171 => 94 | 0 => 0 | 53 => 95 | 37 => 77 | 5 => 5 | 173 => 98 | 212 => 110 | 51 => 100 | 20 => 20 | 213 => 111 | 46 => 73 | 232 => 125 | 233 => 126 | n => n, fun | 17 => 1 | 18 => 5 | 19 => 6 | n => n⟩
theorem Tryd.laysM171 : Go.Proofs.LaysM.n171 Tryd.prog Tryd.laysM171_ren := {
  mixed := by kernel_rfl
  f129 := Tryd.func71.trans (congrArg some (by kernel_rfl))
  f171 := Tryd.func14.trans (congrArg some (by kernel_rfl))
  f243 := Tryd.func22.trans (congrArg some (by kernel_rfl))
  f246 := Tryd.func40.trans (congrArg some (by kernel_rfl))
  f283 := Tryd.func57.trans (congrArg some (by kernel_rfl))
  f284 := Tryd.func58.trans (congrArg some (by kernel_rfl))
  f285 := Tryd.func59.trans (congrArg some (by kernel_rfl))
  f286 := Tryd.func60.trans (congrArg some (by kernel_rfl))
  f317 := Tryd.func70.trans (congrArg some (by kernel_rfl))
  f318 := Tryd.func72.trans (congrArg some (by kernel_rfl))
  f319 := Tryd.func73.trans (congrArg some (by kernel_rfl))
  f320 := Tryd.func74.trans (congrArg some (by kernel_rfl))
  f337 := Tryd.func81.trans (congrArg some (by kernel_rfl))
  f338 := Tryd.func82.trans (congrArg some (by kernel_rfl))
  t0 := Tryd.underlying0
  a0 := Tryd.isAgg0
  z0 := Tryd.sizeOf0
  v0 := Tryd.zeroValue0
  t2 := Tryd.underlying2
  a2 := Tryd.isAgg2
  z2 := Tryd.sizeOf2
  v2 := Tryd.zeroValue2
  t3 := Tryd.underlying3
  a3 := Tryd.isAgg3
  z3 := Tryd.sizeOf3
  v3 := Tryd.zeroValue3
  t4 := Tryd.underlying4
  a4 := Tryd.isAgg4
  z4 := Tryd.sizeOf4
  v4 := Tryd.zeroValue4
  t5 := Tryd.underlying5
  a5 := Tryd.isAgg5
  z5 := Tryd.sizeOf5
  v5 := Tryd.zeroValue5
  t9 := Tryd.underlying9
  a9 := Tryd.isAgg9
  z9 := Tryd.sizeOf9
  v9 := Tryd.zeroValue9
  t20 := Tryd.underlying20
  a20 := Tryd.isAgg20
  z20 := Tryd.sizeOf20
  v20 := Tryd.zeroValue20
  t37 := Tryd.underlying77
  a37 := Tryd.isAgg77
  z37 := Tryd.sizeOf77
  v37 := Tryd.zeroValue77
  t46 := Tryd.underlying73
  a46 := Tryd.isAgg73
  z46 := Tryd.sizeOf73
  v46 := Tryd.zeroValue73
  t51 := Tryd.underlying100
  a51 := Tryd.isAgg100
  z51 := Tryd.sizeOf100
  v51 := Tryd.zeroValue100
  t53 := Tryd.underlying95
  a53 := Tryd.isAgg95
  z53 := Tryd.sizeOf95
  v53 := Tryd.zeroValue95
  t171 := Tryd.underlying94
  a171 := Tryd.isAgg94
  z171 := Tryd.sizeOf94
  v171 := Tryd.zeroValue94
  t173 := Tryd.underlying98
  a173 := Tryd.isAgg98
  z173 := Tryd.sizeOf98
  v173 := Tryd.zeroValue98
  t212 := Tryd.underlying110
  a212 := Tryd.isAgg110
  z212 := Tryd.sizeOf110
  v212 := Tryd.zeroValue110
  t213 := Tryd.underlying111
  a213 := Tryd.isAgg111
  z213 := Tryd.sizeOf111
  t232 := Tryd.underlying125
  a232 := Tryd.isAgg125
  z232 := Tryd.sizeOf125
  v232 := Tryd.zeroValue125
  t233 := Tryd.underlying126
  a233 := Tryd.isAgg126
  z233 := Tryd.sizeOf126
  v233 := Tryd.zeroValue126
  g17 := by kernel_rfl
  g18 := by kernel_rfl
  g19 := by kernel_rfl
  i0 := by kernel_rfl
  i2 := by kernel_rfl
  i3 := by kernel_rfl
  i4 := by kernel_rfl
  i5 := by kernel_rfl
  i9 := by kernel_rfl
  i20 := by kernel_rfl
  i37 := by kernel_rfl
  i46 := by kernel_rfl
  i51 := by kernel_rfl
  i53 := by kernel_rfl
  i171 := by kernel_rfl
  i173 := by kernel_rfl
  i212 := by kernel_rfl
  i232 := by kernel_rfl
  i233 := by kernel_rfl
  m17 := by kernel_rfl
  m18 := by kernel_rfl
  m19 := by kernel_rfl }
open Go.RowKit Go.Sort Go.Lib in
/-- strconv.Itoa: "Itoa is equivalent to FormatInt(int64(i), 10).": i's DECIMAL NUMERAL ('Lib.itoa': a '-' where i is negative, then the digits), FOR EVERY int. The world behind the call: the world before it, new blocks behind the heap (the library's 'var a [24]byte'), draws. (LAID: no walk: one application.) -/
theorem Tryd.strconv_Itoa (n : Int) (h0 : -9223372036854775808 ≤ n) (h1 : n ≤ 9223372036854775807) (w : World) (htab : Lib.TabIs Tryd.prog w "internal/strconv.uint64pow10" .u64 Lib.pow10Tab) :
    Calls Tryd.prog 14 #[.int .i64 n] w fun e w' => e = .returned (.string ⟨(Lib.itoa n).toArray⟩) ∧ ∃ k os, w' = grow (w.drewN k) os := Any.strconv_Itoa Tryd.laysM171 n h0 h1 w htab
def Tryd.lays171_ren : Go.Shelf.Ren := ⟨fun | 171 => 14 | 243 => 22 | 246 => 40 | 283 => 57 | 284 => 58 | 285 => 59 | 286 => 60 | 129 => 71 | 317 => 70 | 318 => 72 | 319 => 73 | 320 => 74 | 337 => 81 | 338 => 82 | n => n, fun | 3 => 3 | 9 => 9 | 2 => 2 | 4 => 4 | 171 => 94 | 0 => 0 | 53 => 95 | 37 => 77 | 5 => 5 | 173 => 98 | 212 => 110 | 51 => 100 | 20 => 20 | 213 => 111 | 46 => 73 | 232 => 125 | 233 => 126 | n => n, fun | 17 => 1 | 18 => 5 | 19 => 6 | n => n⟩
theorem Tryd.lays171 : Go.Proofs.Lays.n171 Tryd.prog Tryd.lays171_ren := {
  mixed := by kernel_rfl
  f129 := Tryd.func71.trans (congrArg some (by kernel_rfl))
  f171 := Tryd.func14.trans (congrArg some (by kernel_rfl))
  f243 := Tryd.func22.trans (congrArg some (by kernel_rfl))
  f246 := Tryd.func40.trans (congrArg some (by kernel_rfl))
  f283 := Tryd.func57.trans (congrArg some (by kernel_rfl))
  f284 := Tryd.func58.trans (congrArg some (by kernel_rfl))
  f285 := Tryd.func59.trans (congrArg some (by kernel_rfl))
  f286 := Tryd.func60.trans (congrArg some (by kernel_rfl))
  f317 := Tryd.func70.trans (congrArg some (by kernel_rfl))
  f318 := Tryd.func72.trans (congrArg some (by kernel_rfl))
  f319 := Tryd.func73.trans (congrArg some (by kernel_rfl))
  f320 := Tryd.func74.trans (congrArg some (by kernel_rfl))
  f337 := Tryd.func81.trans (congrArg some (by kernel_rfl))
  f338 := Tryd.func82.trans (congrArg some (by kernel_rfl))
  t0 := Tryd.underlying0
  a0 := Tryd.isAgg0
  z0 := Tryd.sizeOf0
  v0 := Tryd.zeroValue0
  t2 := Tryd.underlying2
  a2 := Tryd.isAgg2
  z2 := Tryd.sizeOf2
  v2 := Tryd.zeroValue2
  t3 := Tryd.underlying3
  a3 := Tryd.isAgg3
  z3 := Tryd.sizeOf3
  v3 := Tryd.zeroValue3
  t4 := Tryd.underlying4
  a4 := Tryd.isAgg4
  z4 := Tryd.sizeOf4
  v4 := Tryd.zeroValue4
  t5 := Tryd.underlying5
  a5 := Tryd.isAgg5
  z5 := Tryd.sizeOf5
  v5 := Tryd.zeroValue5
  t9 := Tryd.underlying9
  a9 := Tryd.isAgg9
  z9 := Tryd.sizeOf9
  v9 := Tryd.zeroValue9
  t20 := Tryd.underlying20
  a20 := Tryd.isAgg20
  z20 := Tryd.sizeOf20
  v20 := Tryd.zeroValue20
  t37 := Tryd.underlying77
  a37 := Tryd.isAgg77
  z37 := Tryd.sizeOf77
  v37 := Tryd.zeroValue77
  t46 := Tryd.underlying73
  a46 := Tryd.isAgg73
  z46 := Tryd.sizeOf73
  v46 := Tryd.zeroValue73
  t51 := Tryd.underlying100
  a51 := Tryd.isAgg100
  z51 := Tryd.sizeOf100
  v51 := Tryd.zeroValue100
  t53 := Tryd.underlying95
  a53 := Tryd.isAgg95
  z53 := Tryd.sizeOf95
  v53 := Tryd.zeroValue95
  t171 := Tryd.underlying94
  a171 := Tryd.isAgg94
  z171 := Tryd.sizeOf94
  v171 := Tryd.zeroValue94
  t173 := Tryd.underlying98
  a173 := Tryd.isAgg98
  z173 := Tryd.sizeOf98
  v173 := Tryd.zeroValue98
  t212 := Tryd.underlying110
  a212 := Tryd.isAgg110
  z212 := Tryd.sizeOf110
  v212 := Tryd.zeroValue110
  t213 := Tryd.underlying111
  a213 := Tryd.isAgg111
  z213 := Tryd.sizeOf111
  t232 := Tryd.underlying125
  a232 := Tryd.isAgg125
  z232 := Tryd.sizeOf125
  v232 := Tryd.zeroValue125
  t233 := Tryd.underlying126
  a233 := Tryd.isAgg126
  z233 := Tryd.sizeOf126
  v233 := Tryd.zeroValue126
  g17 := by kernel_rfl
  g18 := by kernel_rfl
  g19 := by kernel_rfl }
open Go.RowKit Go.Sort Go.Lib in
/-- THE ROAD WITHOUT THE TABLE: 0 <= i < 100: NO PREMISE ON THE WORLD, AND THE WORLD IS AS IT WAS: a row that keeps its argument in that range need list no table ('laid = []'). (LAID: no walk: one application.) -/
theorem Tryd.strconv_Itoa_small (i : Nat) (hi : i < 100) (w : World) :
    Calls Tryd.prog 14 #[.int .i64 i] w fun e w' => e = .returned (.string ⟨(Lib.decDigits i).toArray⟩) ∧ w' = w := Any.strconv_Itoa_small Tryd.lays171 i hi w
open Go.RowKit Go.Lib in
open Go.RowKit Go.Lib in
open Go.RowKit Go.Lib in
open Go.RowKit Go.Lib in
open Go.RowKit Go.Lib in
def Tryd.lays100_ren : Go.Shelf.Ren := ⟨fun | 100 => 42 | 207 => 61 | n => n, fun | 9 => 9 | 4 => 4 | 3 => 3 | n => n, fun | n => n⟩
theorem Tryd.lays100 : Go.Proofs.Lays.n100 Tryd.prog Tryd.lays100_ren := {
  mixed := by kernel_rfl
  f100 := Tryd.func42.trans (congrArg some (by kernel_rfl))
  f207 := Tryd.func61.trans (congrArg some (by kernel_rfl))
  t3 := Tryd.underlying3
  a3 := Tryd.isAgg3
  z3 := Tryd.sizeOf3
  v3 := Tryd.zeroValue3
  t4 := Tryd.underlying4
  a4 := Tryd.isAgg4
  z4 := Tryd.sizeOf4
  v4 := Tryd.zeroValue4
  t9 := Tryd.underlying9
  a9 := Tryd.isAgg9
  z9 := Tryd.sizeOf9
  v9 := Tryd.zeroValue9 }
open Go.RowKit Go.Lib in
/-- strings.HasSuffix: "HasSuffix reports whether the string s ends with suffix.": IT RETURNS 'Lib.hasSuffix s suffix'; the world is as it was. ('hs': no Go string is longer: a caller has it of every string that it was handed.) (LAID: no walk: one application.) -/
theorem Tryd.strings_HasSuffix (s p : ByteArray) (w : World) (hs : s.size ≤ 9223372036854775807) :
    Calls Tryd.prog 42 #[.string s, .string p] w fun e w' => e = .returned (.bool (Lib.hasSuffix s.data.toList p.data.toList)) ∧ w' = w := Any.strings_HasSuffix Tryd.lays100 s p w hs
open Go.RowKit Go.Lib in
open Go.RowKit Go.Lib in
open Go.RowKit Go.Lib in
def Tryd.lays227_ren : Go.Shelf.Ren := ⟨fun | 227 => 35 | n => n, fun | 9 => 9 | 116 => 66 | 4 => 4 | 0 => 0 | 3 => 3 | 5 => 5 | n => n, fun | n => n⟩
theorem Tryd.lays227 : Go.Proofs.Lays.n227 Tryd.prog Tryd.lays227_ren := {
  mixed := by kernel_rfl
  f227 := Tryd.func35.trans (congrArg some (by kernel_rfl))
  t0 := Tryd.underlying0
  a0 := Tryd.isAgg0
  z0 := Tryd.sizeOf0
  v0 := Tryd.zeroValue0
  t3 := Tryd.underlying3
  a3 := Tryd.isAgg3
  z3 := Tryd.sizeOf3
  v3 := Tryd.zeroValue3
  t4 := Tryd.underlying4
  a4 := Tryd.isAgg4
  z4 := Tryd.sizeOf4
  v4 := Tryd.zeroValue4
  t5 := Tryd.underlying5
  a5 := Tryd.isAgg5
  z5 := Tryd.sizeOf5
  v5 := Tryd.zeroValue5
  t9 := Tryd.underlying9
  a9 := Tryd.isAgg9
  z9 := Tryd.sizeOf9
  v9 := Tryd.zeroValue9
  t116 := Tryd.underlying66
  a116 := Tryd.isAgg66
  z116 := Tryd.sizeOf66 }
open Go.RowKit Go.Lib in
theorem Tryd.strings_makeASCIISet (hv116 : ∀ w, (zeroValue 66).run Tryd.prog w = .ok (.agg (Array.replicate 256 (.bool false))) w) (chars : ByteArray) (w : World) (hs : chars.size < 4294967281) (hascii : ∀ (j : Nat) b, chars.data.toList[j]? = some b → b.toNat < 128) :
    Calls Tryd.prog 35 #[.string chars] w fun e w' => e = .returned (.tuple #[.agg (Lib.setCells chars.data.toList), .bool true]) ∧ w' = w.alloc (.cells (Lib.setCells chars.data.toList) 66) := Any.strings_makeASCIISet Tryd.lays227 hv116 (by kernel_rfl) chars w hs hascii
open Go.RowKit Go.Lib in
open Go.RowKit Go.Lib in
open Go.RowKit Go.Lib in
def Tryd.lays105_ren : Go.Shelf.Ren := ⟨fun | 105 => 25 | 212 => 43 | 99 => 44 | 165 => 45 | 166 => 46 | 170 => 47 | 169 => 48 | 263 => 62 | 264 => 63 | 206 => 64 | 240 => 65 | 241 => 66 | 276 => 75 | 277 => 76 | n => n, fun | 9 => 9 | 3 => 3 | 4 => 4 | 20 => 20 | 0 => 0 | 46 => 73 | 109 => 74 | 5 => 5 | 72 => 79 | 76 => 83 | 51 => 100 | 146 => 101 | 53 => 95 | 148 => 103 | 70 => 76 | 37 => 77 | 75 => 82 | 127 => 105 | 164 => 114 | 80 => 86 | n => n, fun | n => n⟩
theorem Tryd.lays105 : Go.Proofs.Lays.n105 Tryd.prog Tryd.lays105_ren := {
  mixed := by kernel_rfl
  f99 := Tryd.func44.trans (congrArg some (by kernel_rfl))
  f105 := Tryd.func25.trans (congrArg some (by kernel_rfl))
  f165 := Tryd.func45.trans (congrArg some (by kernel_rfl))
  f166 := Tryd.func46.trans (congrArg some (by kernel_rfl))
  f169 := Tryd.func48.trans (congrArg some (by kernel_rfl))
  f170 := Tryd.func47.trans (congrArg some (by kernel_rfl))
  f206 := Tryd.func64.trans (congrArg some (by kernel_rfl))
  f212 := Tryd.func43.trans (congrArg some (by kernel_rfl))
  f240 := Tryd.func65.trans (congrArg some (by kernel_rfl))
  f241 := Tryd.func66.trans (congrArg some (by kernel_rfl))
  f263 := Tryd.func62.trans (congrArg some (by kernel_rfl))
  f264 := Tryd.func63.trans (congrArg some (by kernel_rfl))
  f276 := Tryd.func75.trans (congrArg some (by kernel_rfl))
  f277 := Tryd.func76.trans (congrArg some (by kernel_rfl))
  t0 := Tryd.underlying0
  a0 := Tryd.isAgg0
  z0 := Tryd.sizeOf0
  v0 := Tryd.zeroValue0
  t3 := Tryd.underlying3
  a3 := Tryd.isAgg3
  z3 := Tryd.sizeOf3
  v3 := Tryd.zeroValue3
  t4 := Tryd.underlying4
  a4 := Tryd.isAgg4
  z4 := Tryd.sizeOf4
  v4 := Tryd.zeroValue4
  t5 := Tryd.underlying5
  a5 := Tryd.isAgg5
  z5 := Tryd.sizeOf5
  v5 := Tryd.zeroValue5
  t9 := Tryd.underlying9
  a9 := Tryd.isAgg9
  z9 := Tryd.sizeOf9
  v9 := Tryd.zeroValue9
  t20 := Tryd.underlying20
  a20 := Tryd.isAgg20
  z20 := Tryd.sizeOf20
  v20 := Tryd.zeroValue20
  t37 := Tryd.underlying77
  a37 := Tryd.isAgg77
  z37 := Tryd.sizeOf77
  v37 := Tryd.zeroValue77
  t46 := Tryd.underlying73
  a46 := Tryd.isAgg73
  z46 := Tryd.sizeOf73
  v46 := Tryd.zeroValue73
  t51 := Tryd.underlying100
  a51 := Tryd.isAgg100
  z51 := Tryd.sizeOf100
  v51 := Tryd.zeroValue100
  t53 := Tryd.underlying95
  a53 := Tryd.isAgg95
  z53 := Tryd.sizeOf95
  v53 := Tryd.zeroValue95
  t70 := Tryd.underlying76
  a70 := Tryd.isAgg76
  z70 := Tryd.sizeOf76
  v70 := Tryd.zeroValue76
  t72 := Tryd.underlying79
  a72 := Tryd.isAgg79
  z72 := Tryd.sizeOf79
  v72 := Tryd.zeroValue79
  t75 := Tryd.underlying82
  a75 := Tryd.isAgg82
  z75 := Tryd.sizeOf82
  v75 := Tryd.zeroValue82
  t76 := Tryd.underlying83
  a76 := Tryd.isAgg83
  z76 := Tryd.sizeOf83
  v76 := Tryd.zeroValue83
  t109 := Tryd.underlying74
  a109 := Tryd.isAgg74
  z109 := Tryd.sizeOf74
  v109 := Tryd.zeroValue74
  t127 := Tryd.underlying105
  a127 := Tryd.isAgg105
  z127 := Tryd.sizeOf105
  v127 := Tryd.zeroValue105
  t146 := Tryd.underlying101
  a146 := Tryd.isAgg101
  z146 := Tryd.sizeOf101
  v146 := Tryd.zeroValue101
  t148 := Tryd.underlying103
  a148 := Tryd.isAgg103
  z148 := Tryd.sizeOf103
  v148 := Tryd.zeroValue103
  t164 := Tryd.underlying114
  a164 := Tryd.isAgg114
  z164 := Tryd.sizeOf114
  v164 := Tryd.zeroValue114 }
theorem Tryd.Builder_Extra_105 : Builder.Extra Tryd.prog Tryd.lays105_ren := {
  sizeBuilder := by kernel_rfl
  liesBuilder := by kernel_rfl
  t5 := Tryd.underlying5
  a5 := Tryd.isAgg5
  z5 := Tryd.sizeOf5
  v5 := Tryd.zeroValue5
  infoByte := by kernel_rfl
  cellsByte := by kernel_rfl
  sizeByte := by kernel_rfl
  neB5 := by decide }
open Go.RowKit Go.Lib in
open Go.RowKit Go.Lib in
open Go.RowKit Go.Lib in
open Go.RowKit Go.Lib in
open Go.RowKit Go.Lib in
open Go.RowKit Go.Lib in
open Go.RowKit Go.Lib in
/-- **strings.Repeat: count ≥ 0, the result within one allocation: count copies of s.** (LAID: no walk: one application.) -/
theorem Tryd.strings_Repeat (s : ByteArray) (c : Nat) (w : World) (hc : c ≤ 9223372036854775807) (hlen : s.size * c ≤ 140737488355328) :
    Calls Tryd.prog 25 #[.string s, .int .i64 c] w fun e w' => e = .returned (.string ⟨(Lib.repeatL s.data.toList c).toArray⟩) ∧ Below w.heap.size w w' := Any.strings_Repeat Tryd.lays105 Tryd.Builder_Extra_105 s c w hc hlen
open Go.RowKit Go.Lib in
open Go.RowKit Go.Lib in
open Go.RowKit Go.Lib in
def Tryd.lays109_ren : Go.Shelf.Ren := ⟨fun | 109 => 7 | n => n, fun | 31 => 22 | 9 => 9 | 3 => 3 | 0 => 0 | 4 => 4 | n => n, fun | n => n⟩
theorem Tryd.lays109 : Go.Proofs.Lays.n109 Tryd.prog Tryd.lays109_ren := {
  mixed := by kernel_rfl
  f109 := Tryd.func7.trans (congrArg some (by kernel_rfl))
  t0 := Tryd.underlying0
  a0 := Tryd.isAgg0
  z0 := Tryd.sizeOf0
  v0 := Tryd.zeroValue0
  t3 := Tryd.underlying3
  a3 := Tryd.isAgg3
  z3 := Tryd.sizeOf3
  v3 := Tryd.zeroValue3
  t4 := Tryd.underlying4
  a4 := Tryd.isAgg4
  z4 := Tryd.sizeOf4
  v4 := Tryd.zeroValue4
  t9 := Tryd.underlying9
  a9 := Tryd.isAgg9
  z9 := Tryd.sizeOf9
  v9 := Tryd.zeroValue9
  t31 := Tryd.underlying22
  a31 := Tryd.isAgg22
  z31 := Tryd.sizeOf22
  v31 := Tryd.zeroValue22 }
open Go.Lib in
/-- slices.Index at []string: "Index returns the index of the first occurrence of v in s, or -1 if not present.": IT RETURNS 'Lib.idxOfS (the elements) v'; the world is as it was. 'zs': what the cells behind the slice's address hold (its spare capacity too, if you have it); 'zs.take n': its elements. (LAID: no walk: one application.) -/
theorem Tryd.slices_Index_string (b off n c : Nat) (zs : List ByteArray) (x : ByteArray) (w : World) (hz : n ≤ zs.length) (hbig : n ≤ 9223372036854775807) (hc : ∀ j, j < zs.length → w.cell? ⟨b, off + j, none⟩ = some (.string (zs.getD j ByteArray.empty))) :
    Calls Tryd.prog 7 #[.slice (some ⟨b, off, none⟩) n c, .string x] w fun e w' => e = .returned (.int .i64 (Lib.idxOfS (zs.take n) x)) ∧ w' = w := Any.slices_Index_string Tryd.lays109 b off n c zs x w hz hbig hc
end Go.Proofs

/-
  Plain Lean: texts of decimal digits and the numbers that they spell; numbers with a scale in their one form.
  Conditions: none.
-/
namespace Go.Dec
open Go.Lib (decDigits)

/-- A digit. -/
def dg (b : UInt8) : Bool := decide (48 ≤ b.toNat) && decide (b.toNat ≤ 57)
/-- The number of a digit. -/
def dv (b : UInt8) : Nat := b.toNat - 48
/-- The digit of a number below ten. -/
def dch (n : Nat) : UInt8 := UInt8.ofNat (48 + n)
/-- The number that a text of digits spells. -/
def natOf (s : List UInt8) : Nat := s.foldl (fun a b => 10 * a + dv b) 0

theorem dg_iff (b : UInt8) : dg b = true ↔ 48 ≤ b.toNat ∧ b.toNat ≤ 57 := by simp [dg]
theorem dch_toNat {n : Nat} (h : n < 10) : (dch n).toNat = 48 + n := by simp [dch]; omega
theorem dch_dg {n : Nat} (h : n < 10) : dg (dch n) = true := by rw [dg_iff, dch_toNat h]; omega
theorem dv_dch {n : Nat} (h : n < 10) : dv (dch n) = n := by rw [dv, dch_toNat h]; omega
theorem dch_dv {b : UInt8} (h : dg b = true) : dch (dv b) = b := by
  rw [dg_iff] at h
  apply UInt8.toNat_inj.1
  rw [dch_toNat (by simp only [dv]; omega)]
  simp only [dv]; omega
theorem dv_lt {b : UInt8} (h : dg b = true) : dv b < 10 := by rw [dg_iff] at h; simp only [dv]; omega

theorem natOf_foldl (s : List UInt8) : ∀ a, s.foldl (fun a b => 10 * a + dv b) a = a * 10 ^ s.length + natOf s := by
  induction s with
  | nil => intro a; simp [natOf]
  | cons b s ih =>
    intro a
    simp only [List.foldl_cons, natOf, List.length_cons]
    rw [ih (10 * a + dv b), ih (10 * 0 + dv b)]
    rw [Nat.mul_zero, Nat.zero_add, Nat.pow_succ, Nat.add_mul, Nat.mul_comm 10 a, Nat.mul_assoc a 10, Nat.mul_comm 10 (10 ^ s.length)]
    omega
theorem natOf_nil : natOf [] = 0 := rfl
theorem natOf_cons (b : UInt8) (s : List UInt8) : natOf (b :: s) = dv b * 10 ^ s.length + natOf s := by
  rw [natOf, List.foldl_cons, natOf_foldl]; simp
theorem natOf_append (s t : List UInt8) : natOf (s ++ t) = natOf s * 10 ^ t.length + natOf t := by
  rw [natOf, List.foldl_append, natOf_foldl]; rfl
theorem natOf_snoc (s : List UInt8) (b : UInt8) : natOf (s ++ [b]) = 10 * natOf s + dv b := by
  rw [natOf_append]; simp [natOf_cons, natOf_nil]; omega
theorem natOf_zeros (n : Nat) : natOf (List.replicate n 48) = 0 := by
  induction n with
  | zero => rfl
  | succ n ih => rw [List.replicate_succ, natOf_cons, ih]; simp [dv]
theorem natOf_lt : ∀ (s : List UInt8), s.all dg = true → natOf s < 10 ^ s.length
  | [], _ => by simp [natOf]
  | b :: s, h => by
    simp only [List.all_cons, Bool.and_eq_true] at h
    have := natOf_lt s h.2
    have hb := dv_lt h.1
    rw [natOf_cons, List.length_cons, Nat.pow_succ]
    have : dv b * 10 ^ s.length ≤ 9 * 10 ^ s.length := Nat.mul_le_mul_right _ (by omega)
    omega

theorem all_append (s t : List UInt8) : (s ++ t).all dg = (s.all dg && t.all dg) := by simp
theorem all_zeros (n : Nat) : (List.replicate n (48 : UInt8)).all dg = true := by
  rw [List.all_eq_true]
  intro b hb
  rw [List.eq_of_mem_replicate hb]; rfl

/-! ### The shortest text of a number -/
theorem decDigits_small {n : Nat} (h : n < 10) : decDigits n = [dch n] := by rw [decDigits, dif_pos h]; rfl
theorem decDigits_big {n : Nat} (h : ¬ n < 10) : decDigits n = decDigits (n / 10) ++ [dch (n % 10)] := by rw [decDigits, dif_neg h]; rfl

theorem decDigits_all (n : Nat) : (decDigits n).all dg = true := by
  induction n using Nat.strongRecOn with
  | ind n ih =>
    by_cases h : n < 10
    · rw [decDigits_small h]; simp [dch_dg h]
    · rw [decDigits_big h, all_append, ih (n / 10) (by omega)]
      simp [dch_dg (Nat.mod_lt n (by omega : 0 < 10))]
theorem natOf_decDigits (n : Nat) : natOf (decDigits n) = n := by
  induction n using Nat.strongRecOn with
  | ind n ih =>
    by_cases h : n < 10
    · rw [decDigits_small h, natOf_cons, dv_dch h]; simp [natOf_nil]
    · rw [decDigits_big h, natOf_snoc, ih (n / 10) (by omega), dv_dch (Nat.mod_lt n (by omega))]
      omega
theorem decDigits_ne (n : Nat) : decDigits n ≠ [] := by
  by_cases h : n < 10
  · rw [decDigits_small h]; simp
  · rw [decDigits_big h]; simp
theorem decDigits_snoc {m k : Nat} (hm : 0 < m) (hk : k < 10) : decDigits (10 * m + k) = decDigits m ++ [dch k] := by
  rw [decDigits_big (by omega)]
  congr 2
  · congr 1; omega
  · congr 1; omega

/-- The digits behind the zeros are the shortest text. -/
theorem drop_zeros : ∀ (s : List UInt8), s.all dg = true → s.dropWhile (· == 48) = if natOf s = 0 then [] else decDigits (natOf s) := by
  intro s
  have key : ∀ (t s : List UInt8), (t ++ s).all dg = true → natOf t ≠ 0 → decDigits (natOf t) ++ s = decDigits (natOf (t ++ s)) := by
    intro t s
    induction s generalizing t with
    | nil => intro _ _; simp
    | cons b s ih =>
      intro h1 h2
      have hb : dg b = true := by simp at h1; exact h1.2.1
      have e := ih (t ++ [b]) (by simpa using h1) (by rw [natOf_snoc]; omega)
      rw [natOf_snoc, decDigits_snoc (by omega) (dv_lt hb), dch_dv hb] at e
      simpa using e
  induction s with
  | nil => intro _; simp [natOf]
  | cons b s ih =>
    intro h
    have hh := h
    simp only [List.all_cons, Bool.and_eq_true] at h
    rw [List.dropWhile_cons]
    by_cases hb : b = 48
    · subst hb
      rw [if_pos (by rfl), ih h.2]
      have e : natOf (48 :: s) = natOf s := by rw [natOf_cons]; simp [dv]
      rw [e]
    · rw [if_neg (by simpa using hb)]
      have hd : dv b ≠ 0 := fun e => hb (by rw [← dch_dv h.1, e]; rfl)
      have e1 : natOf [b] = dv b := by rw [natOf_cons]; simp [natOf_nil]
      have e := key [b] s (by simpa using hh) (by rw [e1]; exact hd)
      rw [e1, decDigits_small (dv_lt h.1), dch_dv h.1] at e
      simp only [List.singleton_append] at e
      have hp : 0 < natOf (b :: s) := by
        rw [natOf_cons]
        have : 0 < dv b * 10 ^ s.length := Nat.mul_pos (by omega) (Nat.pow_pos (by omega))
        omega
      rw [if_neg (by omega)]
      exact e

/-! ### Lengths -/
theorem decDigits_lt {n k : Nat} (hk : 0 < k) : (decDigits n).length ≤ k ↔ n < 10 ^ k := by
  induction k generalizing n with
  | zero => omega
  | succ k ih =>
    by_cases h : n < 10
    · rw [decDigits_small h]
      simp only [List.length_singleton]
      have : 10 ≤ 10 ^ (k + 1) := by rw [Nat.pow_succ]; have := Nat.pow_pos (n := k) (show 0 < 10 by omega); omega
      omega
    · rw [decDigits_big h, List.length_append, List.length_singleton]
      rcases Nat.eq_zero_or_pos k with e | e
      · subst e
        have : 0 < (decDigits (n / 10)).length := List.length_pos_iff.2 (decDigits_ne _)
        omega
      · rw [Nat.add_le_add_iff_right, ih e, Nat.pow_succ]
        omega

/-- A text that is as long as another but spells no more. -/
theorem natOf_eq_iff : ∀ (s t : List UInt8), s.length = t.length → s.all dg = true → t.all dg = true → (natOf s = natOf t ↔ s = t)
  | [], [], _, _, _ => by simp
  | a :: s, b :: t, hl, hs, ht => by
    simp only [List.all_cons, Bool.and_eq_true] at hs ht
    have hl' : s.length = t.length := by simpa using hl
    have h1 := natOf_lt s hs.2
    have h2 := natOf_lt t ht.2
    rw [natOf_cons, natOf_cons, hl']
    rw [hl'] at h1
    constructor
    · intro e
      have hd : dv a = dv b := by
        have ha : (dv a * 10 ^ t.length + natOf s) / 10 ^ t.length = dv a := by
          rw [Nat.add_comm, Nat.add_mul_div_right _ _ (Nat.pow_pos (by omega)), Nat.div_eq_of_lt h1, Nat.zero_add]
        have hb : (dv b * 10 ^ t.length + natOf t) / 10 ^ t.length = dv b := by
          rw [Nat.add_comm, Nat.add_mul_div_right _ _ (Nat.pow_pos (by omega)), Nat.div_eq_of_lt h2, Nat.zero_add]
        rw [← ha, e, hb]
      rw [hd] at e
      have e2 : s = t := (natOf_eq_iff s t hl' hs.2 ht.2).1 (by omega)
      rw [e2, ← dch_dv hs.1, hd, dch_dv ht.1]
    · intro e
      cases e; rfl
  | [], _ :: _, h, _, _ => by simp at h
  | _ :: _, [], h, _, _ => by simp at h

/-! ### Numbers with a scale, in their one form -/
structure D where
  neg : Bool
  dig : List UInt8
  scale : Int
  deriving DecidableEq

/-- Zeros behind the point are struck. -/
def strip : Nat → Nat → Nat × Nat
  | n, 0 => (n, 0)
  | n, k + 1 => if n % 10 = 0 then strip (n / 10) k else (n, k + 1)
def zeroD : D := ⟨false, [48], 0⟩
def noD : D := ⟨false, [], 0⟩
/-- The number n divided by ten to the power of k. -/
def canon (neg : Bool) (n k : Nat) : D := if n = 0 then zeroD else ⟨neg, decDigits (strip n k).1, (strip n k).2⟩
def long (d : D) : Int := max (d.dig.length : Int) d.scale

theorem strip_pos : ∀ (k n : Nat), n ≠ 0 → (strip n k).1 ≠ 0
  | 0, n, h => h
  | k + 1, n, h => by
    simp only [strip]
    split
    · exact strip_pos k _ (by omega)
    · exact h
theorem strip_val : ∀ (k n : Nat), (strip n k).1 * 10 ^ k = n * 10 ^ (strip n k).2 ∧ (strip n k).2 ≤ k
  | 0, n => by simp [strip]
  | k + 1, n => by
    simp only [strip]
    split
    · obtain ⟨h1, h2⟩ := strip_val k (n / 10)
      refine ⟨?_, by omega⟩
      rw [Nat.pow_succ, ← Nat.mul_assoc, h1, Nat.mul_right_comm]
      congr 1; omega
    · exact ⟨rfl, Nat.le_refl _⟩
theorem strip_end : ∀ (k n : Nat), (strip n k).2 = 0 ∨ (strip n k).1 % 10 ≠ 0
  | 0, n => .inl rfl
  | k + 1, n => by
    simp only [strip]
    split
    · exact strip_end k _
    · rename_i h; exact .inr h
theorem strip_done {n k : Nat} (h : k = 0 ∨ n % 10 ≠ 0) : strip n k = (n, k) := by
  cases k with
  | zero => rfl
  | succ k =>
    rcases h with h | h
    · omega
    · rw [strip, if_neg h]
theorem strip_mul : ∀ (j n k : Nat), strip (n * 10 ^ j) (k + j) = strip n k
  | 0, n, k => by simp
  | j + 1, n, k => by
    rw [show k + (j + 1) = (k + j) + 1 by omega, strip, Nat.pow_succ, ← Nat.mul_assoc]
    rw [if_pos (by omega), Nat.mul_div_cancel _ (by omega)]
    exact strip_mul j n k
theorem canon_mul (neg : Bool) (j n k : Nat) : canon neg (n * 10 ^ j) (k + j) = canon neg n k := by
  have hp : 0 < 10 ^ j := Nat.pow_pos (by omega)
  unfold canon
  by_cases h : n = 0
  · subst h; simp
  · rw [if_neg h, if_neg (Nat.mul_ne_zero h (by omega)), strip_mul]
theorem canon_big (neg : Bool) (n : Nat) (h : n ≠ 0) : canon neg n 0 = ⟨neg, decDigits n, 0⟩ := by rw [canon, if_neg h]; rfl
theorem decDigits_zeros {m : Nat} (h : 0 < m) : ∀ j, decDigits m ++ List.replicate j 48 = decDigits (m * 10 ^ j)
  | 0 => by simp
  | j + 1 => by
    have hp : 0 < m * 10 ^ j := Nat.mul_pos h (Nat.pow_pos (by omega))
    rw [List.replicate_succ', ← List.append_assoc, decDigits_zeros h j, Nat.pow_succ, ← Nat.mul_assoc, Nat.mul_comm _ 10]
    exact (decDigits_snoc (k := 0) hp (by omega)).symm
theorem suffix_zero (m : Nat) : [48].isSuffixOf (decDigits m) = decide (m % 10 = 0) := by
  have key : ∀ (l : List UInt8) (x : UInt8), [48].isSuffixOf (l ++ [x]) = decide (x = 48) := by
    intro l x
    rw [Bool.eq_iff_iff, List.isSuffixOf_iff_suffix, decide_eq_true_eq]
    constructor
    · rintro ⟨t, e⟩
      have := (List.append_inj' e rfl).2
      simpa using this.symm
    · rintro rfl
      exact ⟨l, rfl⟩
  have hd : ∀ k, k < 10 → (dch k = 48 ↔ k = 0) := by
    intro k hk
    constructor
    · intro e
      have := dch_toNat hk
      rw [e] at this
      have e2 : (48 : UInt8).toNat = 48 := rfl
      omega
    · rintro rfl; rfl
  by_cases h : m < 10
  · have := key [] (dch m)
    rw [List.nil_append] at this
    rw [decDigits_small h, this, Bool.eq_iff_iff, decide_eq_true_eq, decide_eq_true_eq, hd m h]
    omega
  · rw [decDigits_big h, key, Bool.eq_iff_iff, decide_eq_true_eq, decide_eq_true_eq, hd _ (Nat.mod_lt _ (by omega))]
theorem decDigits_init {m : Nat} (h : ¬ m < 10) : (decDigits m).take ((decDigits m).length - 1) = decDigits (m / 10) := by
  rw [decDigits_big h]; simp

/-- A number that may be too long. -/
def resE (c : D) : D × Int := if 62 < long c then (noD, 14) else (c, 0)
def normE (neg : Bool) (n : Nat) (scale : Int) : D × Int := resE (canon neg (n * 10 ^ (-scale).toNat) scale.toNat)
theorem normE_zero (neg : Bool) (scale : Int) : normE neg 0 scale = (zeroD, 0) := by
  have e : canon neg (0 * 10 ^ (-scale).toNat) scale.toNat = zeroD := by rw [Nat.zero_mul, canon, if_pos rfl]
  rw [normE, e]; rfl
theorem norm_final (neg : Bool) {n m : Nat} {scale sc : Int} (hn : n ≠ 0) (hneg : sc < 0 → m = n ∧ sc = scale) (hpos : 0 ≤ sc → 0 ≤ scale ∧ strip m sc.toNat = strip n scale.toNat) (hex : ¬ (0 < sc ∧ m % 10 = 0)) :
    canon neg (n * 10 ^ (-scale).toNat) scale.toNat = if sc < 0 then ⟨neg, decDigits (m * 10 ^ (-sc).toNat), 0⟩ else ⟨neg, decDigits m, sc⟩ := by
  by_cases h : sc < 0
  · obtain ⟨rfl, rfl⟩ := hneg h
    rw [if_pos h, show sc.toNat = 0 by omega, canon_big _ _ (Nat.mul_ne_zero hn (by have := Nat.pow_pos (n := (-sc).toNat) (show 0 < 10 by omega); omega))]
  · obtain ⟨h1, h2⟩ := hpos (by omega)
    rw [if_neg h, show (-scale).toNat = 0 by omega, Nat.pow_zero, Nat.mul_one, canon, if_neg hn, ← h2, strip_done (by omega)]
    simp only [D.mk.injEq, true_and]
    omega
theorem resE_long {c : D} (h : 62 < long c) : resE c = (noD, 14) := by rw [resE, if_pos h]
theorem resE_ok {c : D} (h : ¬ 62 < long c) : resE c = (c, 0) := by rw [resE, if_neg h]
theorem decDigits_last (m : Nat) : (((decDigits m).getD ((decDigits m).length - 1) 0).toNat : Int) = 48 ↔ m % 10 = 0 := by
  have key : ∀ (l : List UInt8) (x : UInt8), (l ++ [x]).getD ((l ++ [x]).length - 1) 0 = x := by
    intro l x
    simp [List.getD]
  by_cases h : m < 10
  · rw [decDigits_small h]
    simp only [List.length_singleton, Nat.sub_self, List.getD_cons_zero, dch_toNat h]
    omega
  · rw [decDigits_big h, key, dch_toNat (Nat.mod_lt _ (by omega))]
    omega

/-! ### Texts of a given length -/
def fixS (n : Nat) : Nat → List UInt8
  | 0 => []
  | L + 1 => fixS (n / 10) L ++ [dch (n % 10)]
theorem fixS_length : ∀ (L n : Nat), (fixS n L).length = L
  | 0, _ => rfl
  | L + 1, n => by simp [fixS, fixS_length L]
theorem fixS_all : ∀ (L n : Nat), (fixS n L).all dg = true
  | 0, _ => rfl
  | L + 1, n => by rw [fixS, all_append, fixS_all L]; simp [dch_dg (Nat.mod_lt n (by omega : 0 < 10))]
theorem natOf_fixS : ∀ (L n : Nat), n < 10 ^ L → natOf (fixS n L) = n
  | 0, n, h => by simp at h; subst h; rfl
  | L + 1, n, h => by
    rw [fixS, natOf_snoc, natOf_fixS L (n / 10) (by rw [Nat.pow_succ] at h; omega), dv_dch (Nat.mod_lt n (by omega))]
    omega
theorem fixS_of {s : List UInt8} (hs : s.all dg = true) {n L : Nat} (hn : natOf s = n) (hL : s.length = L) : s = fixS n L := by
  subst hn hL
  exact ((natOf_eq_iff s (fixS (natOf s) s.length) (by rw [fixS_length]) hs (fixS_all _ _)).1 (by rw [natOf_fixS _ _ (natOf_lt s hs)]))
theorem drop_cons (s : List UInt8) (i : Nat) (hi : i < s.length) : s.drop i = s.getD i 0 :: s.drop (i + 1) := by
  rw [List.drop_eq_getElem_cons hi]
  simp [List.getD, List.getElem?_eq_getElem hi]
theorem natOf_drop (s : List UInt8) (k : Nat) (hk : k < s.length) : natOf (s.drop (s.length - (k + 1))) = dv (s.getD (s.length - 1 - k) 0) * 10 ^ k + natOf (s.drop (s.length - k)) := by
  rw [show s.length - (k + 1) = s.length - 1 - k by omega, drop_cons s _ (by omega), natOf_cons, show s.length - 1 - k + 1 = s.length - k by omega, List.length_drop, show s.length - (s.length - k) = k by omega]

theorem natOf_split (s : List UInt8) (hs : s.all dg = true) (m : Nat) (hm : m ≤ s.length) : natOf (s.take (s.length - m)) = natOf s / 10 ^ m ∧ natOf (s.drop (s.length - m)) = natOf s % 10 ^ m := by
  have e := natOf_append (s.take (s.length - m)) (s.drop (s.length - m))
  rw [List.take_append_drop, List.length_drop, show s.length - (s.length - m) = m by omega] at e
  have hd : (s.drop (s.length - m)).all dg = true := by
    rw [List.all_eq_true] at hs ⊢
    exact fun b hb => hs b (List.mem_of_mem_drop hb)
  have hl := natOf_lt _ hd
  rw [List.length_drop, show s.length - (s.length - m) = m by omega] at hl
  have hp : 0 < 10 ^ m := Nat.pow_pos (by omega)
  rw [e]
  constructor
  · rw [Nat.add_comm, Nat.add_mul_div_right _ _ hp, Nat.div_eq_of_lt hl, Nat.zero_add]
  · rw [Nat.add_comm, Nat.add_mul_mod_self_right, Nat.mod_eq_of_lt hl]
theorem natOf_zero_iff : ∀ (s : List UInt8), s.all dg = true → (natOf s = 0 ↔ ∀ b ∈ s, b = 48)
  | [], _ => by simp [natOf_nil]
  | b :: s, h => by
    simp only [List.all_cons, Bool.and_eq_true] at h
    have ih := natOf_zero_iff s h.2
    rw [natOf_cons]
    have hp : 0 < 10 ^ s.length := Nat.pow_pos (by omega)
    constructor
    · intro e
      have h1 : dv b * 10 ^ s.length = 0 := by omega
      have h2 : dv b = 0 := by
        rcases Nat.mul_eq_zero.1 h1 with h | h
        · exact h
        · omega
      have h3 : b = 48 := by rw [← dch_dv h.1, h2]; rfl
      intro c hc
      rcases List.mem_cons.1 hc with e' | e'
      · rw [e', h3]
      · exact ih.1 (by omega) c e'
    · intro e
      have h1 : b = 48 := e b List.mem_cons_self
      have h2 : natOf s = 0 := ih.2 fun c hc => e c (List.mem_cons_of_mem _ hc)
      rw [h1, h2]; simp [dv]
end Go.Dec

/-
  Contracts of the library's functions that the package decimals calls; number.
  Conditions: none.
-/
namespace Go.Proofs.YteagjfcmhmmljaaDoor
open Go.AM
open Go.Proofs
open Go.Dec
set_option maxRecDepth 100000

def digCells : List AVal := (List.range 256).map fun j => .bool (decide (48 ≤ j) && decide (j ≤ 57))
theorem digCells_get (x : UInt8) : digCells.getD x.toNat .dead = .bool (dg x) := by
  have := x.toNat_lt
  simp only [digCells, List.getD, List.getElem?_map, List.getElem?_range this, Option.map_some, Option.getD_some, dg]

theorem c_asciiSet (w₀ : World) (h : AHeap) : ACall Tryd.prog w₀ 35 [.str [48, 49, 50, 51, 52, 53, 54, 55, 56, 57]] h (fun v h' => v = .tuple [.agg digCells, .bool true] ∧ h' = h) := by
  refine acall_of_calls (vals := [.string ⟨⟨[48, 49, 50, 51, 52, 53, 54, 55, 56, 57]⟩⟩]) (val := .tuple #[.agg (Go.Lib.setCells [48, 49, 50, 51, 52, 53, 54, 55, 56, 57]), .bool true]) Tryd.func35 rfl rfl (fun φ vs hv => ?_) (fun φ => ?_) fun w => ?_
  · simp only [VRs, VR] at hv
    obtain ⟨v, vs', rfl, rfl, rfl⟩ := hv
    rfl
  · have e : Go.Lib.setCells [48, 49, 50, 51, 52, 53, 54, 55, 56, 57] = (digCells.map fun v => match v with | .bool b => Value.bool b | _ => Value.bool false).toArray := by kernel_rfl
    rw [e]
    simp only [VR]
    refine ⟨_, rfl, ?_⟩
    simp only [VRs]
    refine ⟨_, _, rfl, ?_, _, _, rfl, by simp only [VR], rfl⟩
    simp only [VR]
    refine ⟨_, rfl, VRs_of_get (by simp) fun j hj => ?_⟩
    simp only [List.getD, List.getElem?_map]
    cases e2 : digCells[j]? with
    | none => rw [List.getElem?_eq_none_iff] at e2; omega
    | some v =>
      simp only [Option.map_some, Option.getD_some]
      have hv : ∃ b, v = .bool b := by
        have hm := List.mem_of_getElem? e2
        simp only [digCells, List.mem_map] at hm
        obtain ⟨q, _, rfl⟩ := hm
        exact ⟨_, rfl⟩
      obtain ⟨b, rfl⟩ := hv
      simp only [VR]
  · refine (Tryd.strings_makeASCIISet (fun w => run_zero' (by kernel_rfl) w) ⟨⟨[48, 49, 50, 51, 52, 53, 54, 55, 56, 57]⟩⟩ w (by decide) (fun j b hj => by
      have hm := List.mem_of_getElem? hj
      simp only [List.mem_cons, List.not_mem_nil, or_false] at hm
      rcases hm with rfl | rfl | rfl | rfl | rfl | rfl | rfl | rfl | rfl | rfl <;> decide)).mono fun e w' ⟨e1, e2⟩ => ⟨e1, ?_⟩
    subst e2
    exact Below.allocd w _

theorem c_contains (w₀ : World) (h : AHeap) (k : Nat) (hk : h k = some ⟨digCells, 0⟩) (x : UInt8) : ACall Tryd.prog w₀ 53 [.ptr (.own k) 0, .int .u8 x.toNat] h (fun v h' => v = .bool (dg x) ∧ h' = h) := by
  have hx := x.toNat_lt
  refine acall_intro (n := 10) (rs := [.tmp 4]) Tryd.func53 rfl rfl rfl rfl (Nat.le_of_ble_eq_true rfl) ?_
  simp only [initSlots]
  -- region 0  strings.go:964
  refine awp_rseq [0, 1] (by rfl) fun K hK => ?_
  simp (decide := true) only [aOps_nil, vOps_nil, fOps_nil, kOps_nil, ev, absV, absS, putD, Slots.put, Slots.get, Slots.keep, if_true, if_false, List.contains_cons, List.contains_nil, true_and, and_true, ↓ap_assign, pop_assign]
  repeat (with_reducible refine And.intro ?_ ?_; · first | trivial | omega | (intro hg; simp only [Bool.and_eq_true, Bool.or_eq_true, Bool.not_eq_true', Bool.and_eq_false_iff, Bool.or_eq_false_iff, Bool.not_eq_false', decide_eq_true_eq, decide_eq_false_iff_not, eqNil] at hg; omega) )
  apply hK; clear hK K
  -- region 1  strings.go:965
  refine awp_rseq [4] (by rfl) fun K hK => ?_
  simp (decide := true) only [aOps_nil, vOps_nil, fOps_nil, kOps_nil, ev, absV, absS, putD, Slots.put, Slots.get, Slots.keep, if_true, if_false, List.contains_cons, List.contains_nil, true_and, and_true, ↓ap_move, pop_move, ↓ap_nilCheck, pop_nilCheck, pNil_ptr, pNil_func, ↓ap_indexAddrL, apL_mk, pIndexAddr_ptr Tryd.underlying66 sz4, ↓ap_loadL, pLoad_one ag4, ↓ap_assign, pop_assign, rd_own w₀ hk, Nat.zero_add, Nat.mul_one, Int.toNat_natCast, digCells_get, AVal.live]
  repeat (with_reducible refine And.intro ?_ ?_; · first | trivial | omega | (intro hg; simp only [Bool.and_eq_true, Bool.or_eq_true, Bool.not_eq_true', Bool.and_eq_false_iff, Bool.or_eq_false_iff, Bool.not_eq_false', decide_eq_true_eq, decide_eq_false_iff_not, eqNil] at hg; omega) )
  apply hK; clear hK K
  refine awp_ret ?_
  try simp only [thenA_ret, inBlockA_ret]
  refine retA_ret _ (Sub.refl _) (resPre_tmp (resPre_nil)) ?_
  simp (decide := true) only [aOps_nil, vOps_nil, fOps_nil, kOps_nil, ev, absV, absS, putD, Slots.put, Slots.get, Slots.keep, if_true, if_false, List.contains_cons, List.contains_nil, true_and, and_true, resOf_one]
  all_goals first | rfl | exact ⟨rfl, rfl⟩ | (simp (decide := true) only [if_true, if_false, *]; done) | (trace_state; fail)

theorem drop_one (t : List UInt8) (h : 0 < t.length) : t = t.getD 0 0 :: t.drop 1 := by
  cases t with
  | nil => simp at h
  | cons x r => rfl
theorem rev_last (t : List UInt8) (h : 0 < t.length) : t.reverse = t.getD (t.length - 1) 0 :: (t.take (t.length - 1)).reverse := by
  have e : t.drop (t.length - 1) = [t.getD (t.length - 1) 0] := by
    rw [List.drop_eq_getElem_cons (by omega), List.getD, List.getElem?_eq_getElem (by omega), List.drop_eq_nil_of_le (by omega)]
    rfl
  have e2 := List.take_append_drop (t.length - 1) t
  rw [e] at e2
  conv => lhs; rw [← e2]
  simp
theorem sub_left (t : List UInt8) (n : Int) (hn : n = t.length) (k : Nat) : List.take (n.toNat - k) (List.drop k t) = t.drop k := by
  subst hn
  rw [Int.toNat_natCast]
  exact List.take_of_length_le (by simp)

theorem c_trimLeftA (w₀ : World) (h : AHeap) (k : Nat) (hk : h k = some ⟨digCells, 0⟩) (s : List UInt8) (hl : s.length ≤ 9223372036854775807) : ACall Tryd.prog w₀ 36 [.str s, .ptr (.own k) 0] h (fun v h' => v = .str (s.dropWhile dg) ∧ h' = h) := by
  refine acall_intro (n := 16) (rs := [.tmp 4]) Tryd.func36 rfl rfl rfl rfl (Nat.le_of_ble_eq_true rfl) ?_
  simp only [initSlots]
  -- region 0  strings.go:1017
  refine awp_rseq [0, 1] (by rfl) fun K hK => ?_
  simp (decide := true) only [aOps_nil, vOps_nil, fOps_nil, kOps_nil, ev, absV, absS, putD, Slots.put, Slots.get, Slots.keep, if_true, if_false, List.contains_cons, List.contains_nil, true_and, and_true, ↓ap_assign, pop_assign]
  repeat (with_reducible refine And.intro ?_ ?_; · first | trivial | omega | (intro hg; simp only [Bool.and_eq_true, Bool.or_eq_true, Bool.not_eq_true', Bool.and_eq_false_iff, Bool.or_eq_false_iff, Bool.not_eq_false', decide_eq_true_eq, decide_eq_false_iff_not, eqNil] at hg; omega) )
  apply hK; clear hK K
  refine awp_seq ?_
  refine awp_block ?_
  refine awp_loopG [0, 1] (fun t : List UInt8 => [(0, .str t), (1, .ptr (.own k) 0)]) (fun t : List UInt8 => h) (fun t : List UInt8 => t.dropWhile dg = s.dropWhile dg ∧ t.length ≤ s.length) (fun t : List UInt8 => t.length) s rfl (Sub.refl _) ⟨rfl, Nat.le_refl _⟩ ?_
  rintro t ⟨ht1, ht2⟩
  refine awp_seq ?_
  -- region 1  strings.go:1018
  refine awp_rseq [0, 1, 7] (by rfl) fun K hK => ?_
  simp (decide := true) only [aOps_nil, vOps_nil, fOps_nil, kOps_nil, ev, absV, absS, putD, Slots.put, Slots.get, Slots.keep, if_true, if_false, List.contains_cons, List.contains_nil, true_and, and_true, ↓ap_move, pop_move, ↓ap_len, pop_len, pLen_str Tryd.underlying9, ↓ap_binOp, pop_binOp, isNilC_int, cond_false, pBinX_int, pI_gtr]
  repeat (with_reducible refine And.intro ?_ ?_; · first | trivial | omega | (intro hg; simp only [Bool.and_eq_true, Bool.or_eq_true, Bool.not_eq_true', Bool.and_eq_false_iff, Bool.or_eq_false_iff, Bool.not_eq_false', decide_eq_true_eq, decide_eq_false_iff_not, eqNil] at hg; omega) )
  apply hK; clear hK K
  refine awp_cond (b := _) rfl (fun hb1 => ?_) (fun hb1 => ?_)
  · try simp only [decide_eq_true_eq, decide_eq_false_iff_not, Bool.not_eq_true', Bool.not_eq_false', Bool.and_eq_true, Bool.and_eq_false_iff, Bool.or_eq_true, Bool.or_eq_false_iff, Bool.true_eq, Bool.false_eq, reduceCtorEq] at hb1
    refine awp_skip ?_
    change Awp _ _ _ _ _ _ _
    refine awp_block ?_
    refine awp_seq ?_
    -- region 2  strings.go:1019
    refine awp_rseq [0, 1, 12] (by rfl) fun K hK => ?_
    simp (decide := true) only [aOps_nil, vOps_nil, fOps_nil, kOps_nil, ev, absV, absS, putD, Slots.put, Slots.get, Slots.keep, if_true, if_false, List.contains_cons, List.contains_nil, true_and, and_true, ↓ap_move, pop_move, ↓ap_index, pop_index, pIndex_str Tryd.underlying9]
    repeat (with_reducible refine And.intro ?_ ?_; · first | trivial | omega | (intro hg; simp only [Bool.and_eq_true, Bool.or_eq_true, Bool.not_eq_true', Bool.and_eq_false_iff, Bool.or_eq_false_iff, Bool.not_eq_false', decide_eq_true_eq, decide_eq_false_iff_not, eqNil] at hg; omega) )
    refine aOps_callV (V := .bool (dg (t.getD 0 0))) (by rfl) (by rfl) (c_contains w₀ _ k hk _) ?_
    simp (decide := true) only [aOps_nil, vOps_nil, fOps_nil, kOps_nil, ev, absV, absS, putD, Slots.put, Slots.get, Slots.keep, if_true, if_false, List.contains_cons, List.contains_nil, true_and, and_true, ↓ap_unOp, pop_unOp, pU_not]
    try simp (disch := omega) only [wrap_i64, wrap_u8]
    repeat (with_reducible refine And.intro ?_ ?_; · first | trivial | omega | (intro hg; simp only [Bool.and_eq_true, Bool.or_eq_true, Bool.not_eq_true', Bool.and_eq_false_iff, Bool.or_eq_false_iff, Bool.not_eq_false', decide_eq_true_eq, decide_eq_false_iff_not, eqNil] at hg; omega) )
    apply hK; clear hK K
    refine awp_cond (b := _) rfl (fun hb2 => ?_) (fun hb2 => ?_)
    · try simp only [decide_eq_true_eq, decide_eq_false_iff_not, Bool.not_eq_true', Bool.not_eq_false', Bool.and_eq_true, Bool.and_eq_false_iff, Bool.or_eq_true, Bool.or_eq_false_iff, Bool.true_eq, Bool.false_eq, reduceCtorEq] at hb2
      refine awp_exit ?_
      change Awp _ _ _ _ _ _ _
      -- region 4  strings.go:1024
      refine awp_rseq [4] (by rfl) fun K hK => ?_
      simp (decide := true) only [aOps_nil, vOps_nil, fOps_nil, kOps_nil, ev, absV, absS, putD, Slots.put, Slots.get, Slots.keep, if_true, if_false, List.contains_cons, List.contains_nil, true_and, and_true, ↓ap_move, pop_move, ↓ap_assign, pop_assign]
      repeat (with_reducible refine And.intro ?_ ?_; · first | trivial | omega | (intro hg; simp only [Bool.and_eq_true, Bool.or_eq_true, Bool.not_eq_true', Bool.and_eq_false_iff, Bool.or_eq_false_iff, Bool.not_eq_false', decide_eq_true_eq, decide_eq_false_iff_not, eqNil] at hg; omega) )
      apply hK; clear hK K
      refine awp_ret ?_
      try simp only [thenA_ret, inBlockA_ret]
      refine retA_ret _ (Sub.refl _) (resPre_tmp (resPre_nil)) ?_
      simp (decide := true) only [aOps_nil, vOps_nil, fOps_nil, kOps_nil, ev, absV, absS, putD, Slots.put, Slots.get, Slots.keep, if_true, if_false, List.contains_cons, List.contains_nil, true_and, and_true, resOf_one]
      have e := drop_one t (by omega)
      rw [← ht1, e, List.dropWhile_cons, if_neg (by rw [hb2]; decide)]
    · try simp only [decide_eq_true_eq, decide_eq_false_iff_not, Bool.not_eq_true', Bool.not_eq_false', Bool.and_eq_true, Bool.and_eq_false_iff, Bool.or_eq_true, Bool.or_eq_false_iff, Bool.true_eq, Bool.false_eq, reduceCtorEq] at hb2
      refine awp_skip ?_
      change Awp _ _ _ _ _ _ _
      -- region 3  strings.go:1022
      refine awp_r [0, 1] (by rfl) ?_
      simp (decide := true) only [aOps_nil, vOps_nil, fOps_nil, kOps_nil, ev, absV, absS, putD, Slots.put, Slots.get, Slots.keep, if_true, if_false, List.contains_cons, List.contains_nil, true_and, and_true, ↓ap_move, pop_move, ↓ap_slice, pop_slice, evO, pSliceS_00 Tryd.underlying9, pSliceS_0i Tryd.underlying9, pSliceS_i0 Tryd.underlying9, pSliceS_ii Tryd.underlying9, pSliceS, bndA_none, bndA_int, ↓ap_assign, pop_assign]
      repeat (with_reducible refine And.intro ?_ ?_; · first | trivial | omega | (intro hg; simp only [Bool.and_eq_true, Bool.or_eq_true, Bool.not_eq_true', Bool.and_eq_false_iff, Bool.or_eq_false_iff, Bool.not_eq_false', decide_eq_true_eq, decide_eq_false_iff_not, eqNil] at hg; omega) )
      try simp only [thenA_normal, inBlockA_normal]
      have hl0 : 0 < t.length := by omega
      have e := drop_one t hl0
      refine ⟨t.drop 1, ?_, Sub.refl _, ⟨?_, by simp; omega⟩, by simp; omega⟩
      · rw [show Int.toNat 1 = 1 from rfl, sub_left t _ rfl]; rfl
      · rw [← ht1]
        conv => rhs; rw [e]
        rw [List.dropWhile_cons, if_pos hb2]
  · try simp only [decide_eq_true_eq, decide_eq_false_iff_not, Bool.not_eq_true', Bool.not_eq_false', Bool.and_eq_true, Bool.and_eq_false_iff, Bool.or_eq_true, Bool.or_eq_false_iff, Bool.true_eq, Bool.false_eq, reduceCtorEq] at hb1
    refine awp_exit ?_
    change Awp _ _ _ _ _ _ _
    -- region 4  strings.go:1024
    refine awp_rseq [4] (by rfl) fun K hK => ?_
    simp (decide := true) only [aOps_nil, vOps_nil, fOps_nil, kOps_nil, ev, absV, absS, putD, Slots.put, Slots.get, Slots.keep, if_true, if_false, List.contains_cons, List.contains_nil, true_and, and_true, ↓ap_move, pop_move, ↓ap_assign, pop_assign]
    repeat (with_reducible refine And.intro ?_ ?_; · first | trivial | omega | (intro hg; simp only [Bool.and_eq_true, Bool.or_eq_true, Bool.not_eq_true', Bool.and_eq_false_iff, Bool.or_eq_false_iff, Bool.not_eq_false', decide_eq_true_eq, decide_eq_false_iff_not, eqNil] at hg; omega) )
    apply hK; clear hK K
    refine awp_ret ?_
    try simp only [thenA_ret, inBlockA_ret]
    refine retA_ret _ (Sub.refl _) (resPre_tmp (resPre_nil)) ?_
    simp (decide := true) only [aOps_nil, vOps_nil, fOps_nil, kOps_nil, ev, absV, absS, putD, Slots.put, Slots.get, Slots.keep, if_true, if_false, List.contains_cons, List.contains_nil, true_and, and_true, resOf_one]
    have e : t = [] := List.eq_nil_of_length_eq_zero (by omega)
    rw [← ht1, e]; rfl

theorem c_trimRightA (w₀ : World) (h : AHeap) (k : Nat) (hk : h k = some ⟨digCells, 0⟩) (s : List UInt8) (hl : s.length ≤ 9223372036854775807) : ACall Tryd.prog w₀ 37 [.str s, .ptr (.own k) 0] h (fun v h' => v = .str (s.reverse.dropWhile dg).reverse ∧ h' = h) := by
  refine acall_intro (n := 22) (rs := [.tmp 4]) Tryd.func37 rfl rfl rfl rfl (Nat.le_of_ble_eq_true rfl) ?_
  simp only [initSlots]
  -- region 0  strings.go:1062
  refine awp_rseq [0, 1] (by rfl) fun K hK => ?_
  simp (decide := true) only [aOps_nil, vOps_nil, fOps_nil, kOps_nil, ev, absV, absS, putD, Slots.put, Slots.get, Slots.keep, if_true, if_false, List.contains_cons, List.contains_nil, true_and, and_true, ↓ap_assign, pop_assign]
  repeat (with_reducible refine And.intro ?_ ?_; · first | trivial | omega | (intro hg; simp only [Bool.and_eq_true, Bool.or_eq_true, Bool.not_eq_true', Bool.and_eq_false_iff, Bool.or_eq_false_iff, Bool.not_eq_false', decide_eq_true_eq, decide_eq_false_iff_not, eqNil] at hg; omega) )
  apply hK; clear hK K
  refine awp_seq ?_
  refine awp_block ?_
  refine awp_loopG [0, 1] (fun t : List UInt8 => [(0, .str t), (1, .ptr (.own k) 0)]) (fun t : List UInt8 => h) (fun t : List UInt8 => t.reverse.dropWhile dg = s.reverse.dropWhile dg ∧ t.length ≤ s.length) (fun t : List UInt8 => t.length) s rfl (Sub.refl _) ⟨rfl, Nat.le_refl _⟩ ?_
  rintro t ⟨ht1, ht2⟩
  refine awp_seq ?_
  -- region 1  strings.go:1063
  refine awp_rseq [0, 1, 7] (by rfl) fun K hK => ?_
  simp (decide := true) only [aOps_nil, vOps_nil, fOps_nil, kOps_nil, ev, absV, absS, putD, Slots.put, Slots.get, Slots.keep, if_true, if_false, List.contains_cons, List.contains_nil, true_and, and_true, ↓ap_move, pop_move, ↓ap_len, pop_len, pLen_str Tryd.underlying9, ↓ap_binOp, pop_binOp, isNilC_int, cond_false, pBinX_int, pI_gtr]
  repeat (with_reducible refine And.intro ?_ ?_; · first | trivial | omega | (intro hg; simp only [Bool.and_eq_true, Bool.or_eq_true, Bool.not_eq_true', Bool.and_eq_false_iff, Bool.or_eq_false_iff, Bool.not_eq_false', decide_eq_true_eq, decide_eq_false_iff_not, eqNil] at hg; omega) )
  apply hK; clear hK K
  refine awp_cond (b := _) rfl (fun hb1 => ?_) (fun hb1 => ?_)
  · try simp only [decide_eq_true_eq, decide_eq_false_iff_not, Bool.not_eq_true', Bool.not_eq_false', Bool.and_eq_true, Bool.and_eq_false_iff, Bool.or_eq_true, Bool.or_eq_false_iff, Bool.true_eq, Bool.false_eq, reduceCtorEq] at hb1
    refine awp_skip ?_
    change Awp _ _ _ _ _ _ _
    refine awp_block ?_
    refine awp_seq ?_
    -- region 2  strings.go:1064
    refine awp_rseq [0, 1, 15] (by rfl) fun K hK => ?_
    simp (decide := true) only [aOps_nil, vOps_nil, fOps_nil, kOps_nil, ev, absV, absS, putD, Slots.put, Slots.get, Slots.keep, if_true, if_false, List.contains_cons, List.contains_nil, true_and, and_true, ↓ap_move, pop_move, ↓ap_len, pop_len, pLen_str Tryd.underlying9, ↓ap_binOp, pop_binOp, isNilC_int, cond_false, pBinX_int, pI_sub]
    try simp (disch := omega) only [wrap_i64, wrap_u8]
    try simp (decide := true) only [aOps_nil, vOps_nil, fOps_nil, kOps_nil, ev, absV, absS, putD, Slots.put, Slots.get, Slots.keep, if_true, if_false, List.contains_cons, List.contains_nil, true_and, and_true, ↓ap_index, pop_index, pIndex_str Tryd.underlying9]
    repeat (with_reducible refine And.intro ?_ ?_; · first | trivial | omega | (intro hg; simp only [Bool.and_eq_true, Bool.or_eq_true, Bool.not_eq_true', Bool.and_eq_false_iff, Bool.or_eq_false_iff, Bool.not_eq_false', decide_eq_true_eq, decide_eq_false_iff_not, eqNil] at hg; omega) )
    refine aOps_callV (V := .bool (dg (t.getD ((t.length : Int) - 1).toNat 0))) (by rfl) (by rfl) (c_contains w₀ _ k hk _) ?_
    simp (decide := true) only [aOps_nil, vOps_nil, fOps_nil, kOps_nil, ev, absV, absS, putD, Slots.put, Slots.get, Slots.keep, if_true, if_false, List.contains_cons, List.contains_nil, true_and, and_true, ↓ap_unOp, pop_unOp, pU_not]
    try simp (disch := omega) only [wrap_i64, wrap_u8]
    repeat (with_reducible refine And.intro ?_ ?_; · first | trivial | omega | (intro hg; simp only [Bool.and_eq_true, Bool.or_eq_true, Bool.not_eq_true', Bool.and_eq_false_iff, Bool.or_eq_false_iff, Bool.not_eq_false', decide_eq_true_eq, decide_eq_false_iff_not, eqNil] at hg; omega) )
    apply hK; clear hK K
    refine awp_cond (b := _) rfl (fun hb2 => ?_) (fun hb2 => ?_)
    · try simp only [decide_eq_true_eq, decide_eq_false_iff_not, Bool.not_eq_true', Bool.not_eq_false', Bool.and_eq_true, Bool.and_eq_false_iff, Bool.or_eq_true, Bool.or_eq_false_iff, Bool.true_eq, Bool.false_eq, reduceCtorEq] at hb2
      refine awp_exit ?_
      change Awp _ _ _ _ _ _ _
      -- region 4  strings.go:1069
      refine awp_rseq [4] (by rfl) fun K hK => ?_
      simp (decide := true) only [aOps_nil, vOps_nil, fOps_nil, kOps_nil, ev, absV, absS, putD, Slots.put, Slots.get, Slots.keep, if_true, if_false, List.contains_cons, List.contains_nil, true_and, and_true, ↓ap_move, pop_move, ↓ap_assign, pop_assign]
      repeat (with_reducible refine And.intro ?_ ?_; · first | trivial | omega | (intro hg; simp only [Bool.and_eq_true, Bool.or_eq_true, Bool.not_eq_true', Bool.and_eq_false_iff, Bool.or_eq_false_iff, Bool.not_eq_false', decide_eq_true_eq, decide_eq_false_iff_not, eqNil] at hg; omega) )
      apply hK; clear hK K
      refine awp_ret ?_
      try simp only [thenA_ret, inBlockA_ret]
      refine retA_ret _ (Sub.refl _) (resPre_tmp (resPre_nil)) ?_
      simp (decide := true) only [aOps_nil, vOps_nil, fOps_nil, kOps_nil, ev, absV, absS, putD, Slots.put, Slots.get, Slots.keep, if_true, if_false, List.contains_cons, List.contains_nil, true_and, and_true, resOf_one]
      have e := rev_last t (by omega)
      have e0 : ((t.length : Int) - 1).toNat = t.length - 1 := by omega
      rw [e0] at hb2
      rw [← ht1, e, List.dropWhile_cons, if_neg (by rw [hb2]; decide), ← e, List.reverse_reverse]
    · try simp only [decide_eq_true_eq, decide_eq_false_iff_not, Bool.not_eq_true', Bool.not_eq_false', Bool.and_eq_true, Bool.and_eq_false_iff, Bool.or_eq_true, Bool.or_eq_false_iff, Bool.true_eq, Bool.false_eq, reduceCtorEq] at hb2
      refine awp_skip ?_
      change Awp _ _ _ _ _ _ _
      -- region 3  strings.go:1067
      refine awp_r [0, 1] (by rfl) ?_
      simp (decide := true) only [aOps_nil, vOps_nil, fOps_nil, kOps_nil, ev, absV, absS, putD, Slots.put, Slots.get, Slots.keep, if_true, if_false, List.contains_cons, List.contains_nil, true_and, and_true, ↓ap_move, pop_move, ↓ap_len, pop_len, pLen_str Tryd.underlying9, ↓ap_binOp, pop_binOp, isNilC_int, cond_false, pBinX_int, pI_sub]
      try simp (disch := omega) only [wrap_i64, wrap_u8]
      try simp (decide := true) only [aOps_nil, vOps_nil, fOps_nil, kOps_nil, ev, absV, absS, putD, Slots.put, Slots.get, Slots.keep, if_true, if_false, List.contains_cons, List.contains_nil, true_and, and_true, ↓ap_slice, pop_slice, evO, pSliceS_00 Tryd.underlying9, pSliceS_0i Tryd.underlying9, pSliceS_i0 Tryd.underlying9, pSliceS_ii Tryd.underlying9, pSliceS, bndA_none, bndA_int, ↓ap_assign, pop_assign]
      repeat (with_reducible refine And.intro ?_ ?_; · first | trivial | omega | (intro hg; simp only [Bool.and_eq_true, Bool.or_eq_true, Bool.not_eq_true', Bool.and_eq_false_iff, Bool.or_eq_false_iff, Bool.not_eq_false', decide_eq_true_eq, decide_eq_false_iff_not, eqNil] at hg; omega) )
      try simp only [thenA_normal, inBlockA_normal]
      have hl0 : 0 < t.length := by omega
      have e := rev_last t hl0
      have e0 : ((t.length : Int) - 1).toNat = t.length - 1 := by omega
      rw [e0] at hb2
      refine ⟨t.take (t.length - 1), ?_, Sub.refl _, ⟨?_, by simp; omega⟩, by simp; omega⟩
      · rw [e0]; simp only [Int.toNat_natCast, List.drop_zero, Nat.sub_zero]; rfl
      · rw [← ht1, e, List.dropWhile_cons, if_pos hb2]
  · try simp only [decide_eq_true_eq, decide_eq_false_iff_not, Bool.not_eq_true', Bool.not_eq_false', Bool.and_eq_true, Bool.and_eq_false_iff, Bool.or_eq_true, Bool.or_eq_false_iff, Bool.true_eq, Bool.false_eq, reduceCtorEq] at hb1
    refine awp_exit ?_
    change Awp _ _ _ _ _ _ _
    -- region 4  strings.go:1069
    refine awp_rseq [4] (by rfl) fun K hK => ?_
    simp (decide := true) only [aOps_nil, vOps_nil, fOps_nil, kOps_nil, ev, absV, absS, putD, Slots.put, Slots.get, Slots.keep, if_true, if_false, List.contains_cons, List.contains_nil, true_and, and_true, ↓ap_move, pop_move, ↓ap_assign, pop_assign]
    repeat (with_reducible refine And.intro ?_ ?_; · first | trivial | omega | (intro hg; simp only [Bool.and_eq_true, Bool.or_eq_true, Bool.not_eq_true', Bool.and_eq_false_iff, Bool.or_eq_false_iff, Bool.not_eq_false', decide_eq_true_eq, decide_eq_false_iff_not, eqNil] at hg; omega) )
    apply hK; clear hK K
    refine awp_ret ?_
    try simp only [thenA_ret, inBlockA_ret]
    refine retA_ret _ (Sub.refl _) (resPre_tmp (resPre_nil)) ?_
    simp (decide := true) only [aOps_nil, vOps_nil, fOps_nil, kOps_nil, ev, absV, absS, putD, Slots.put, Slots.get, Slots.keep, if_true, if_false, List.contains_cons, List.contains_nil, true_and, and_true, resOf_one]
    have e : t = [] := List.eq_nil_of_length_eq_zero (by omega)
    rw [← ht1, e]; rfl


theorem ze_ascii : zeOf Tryd.prog 66 = some (.agg (Array.replicate 256 (.bool false))) := by kernel_rfl

theorem c_trimD (w₀ : World) (h : AHeap) (s : List UInt8) (hl : s.length ≤ 9223372036854775807) :
    ACall Tryd.prog w₀ 21 [.str s, .str [48, 49, 50, 51, 52, 53, 54, 55, 56, 57]] h (fun v h' => v = .str ((s.reverse.dropWhile dg).reverse.dropWhile dg) ∧ h' = h) := by
  refine acall_intro (n := 43) (rs := [.tmp 4]) Tryd.func21 rfl rfl rfl rfl (Nat.le_of_ble_eq_true rfl) ?_
  simp only [initSlots]
  -- region 0  strings.go:980
  refine awp_rseq [0, 1] (by rfl) fun K hK => ?_
  simp (decide := true) only [aOps_nil, vOps_nil, fOps_nil, kOps_nil, ev, absV, absS, putD, Slots.put, Slots.get, Slots.keep, if_true, if_false, List.contains_cons, List.contains_nil, true_and, and_true, ↓ap_assign, pop_assign]
  repeat (with_reducible refine And.intro ?_ ?_; · first | trivial | omega | (intro hg; simp only [Bool.and_eq_true, Bool.or_eq_true, Bool.not_eq_true', Bool.and_eq_false_iff, Bool.or_eq_false_iff, Bool.not_eq_false', decide_eq_true_eq, decide_eq_false_iff_not, eqNil] at hg; omega) )
  apply hK; clear hK K
  refine awp_seq ?_
  -- region 1  strings.go:981
  refine awp_rseq [0, 1, 12] (by rfl) fun K hK => ?_
  simp (decide := true) only [aOps_nil, vOps_nil, fOps_nil, kOps_nil, ev, absV, absS, putD, Slots.put, Slots.get, Slots.keep, if_true, if_false, List.contains_cons, List.contains_nil, true_and, and_true, ↓ap_move, pop_move, ↓ap_binOp, pop_binOp, isNilC_str, cond_false, pBinX_str, pS_eql, ↓ag_move, agP, agQ_some, gv, nthDst, gKnown_bool, gKnown_cond, guardB_cond, guardB_bool_true, guardB_bool_false, cv_cv, implies_true, Bool.not_not, decide_true, decide_false, Bool.not_false, Bool.not_true, condV_true, condV_false, forall_const, false_implies, pickV_true, pickV_false, Bool.and_true, Bool.and_false, Bool.true_and, Bool.false_and, Bool.or_true, Bool.or_false, Bool.true_or, Bool.false_or, ↓ag_binOp, cv_binl, cv_binr, cp_binl, cp_binr, ↓ap_pick, pop_pick, pPick_bool, pickV_cond_l, pickV_cond_r, pickV_cond_rn, cp_nest1, cp_nest2, cp_nest3, cp_nest4, pickV_and, pickV_or]
  repeat (with_reducible refine And.intro ?_ ?_; · first | trivial | omega | (intro hg; simp only [Bool.and_eq_true, Bool.or_eq_true, Bool.not_eq_true', Bool.and_eq_false_iff, Bool.or_eq_false_iff, Bool.not_eq_false', decide_eq_true_eq, decide_eq_false_iff_not, eqNil] at hg; omega) )
  apply hK; clear hK K
  refine awp_cond (b := _) rfl (fun hb1 => ?_) (fun hb1 => ?_)
  · try simp only [decide_eq_true_eq, decide_eq_false_iff_not, Bool.not_eq_true', Bool.not_eq_false', Bool.and_eq_true, Bool.and_eq_false_iff, Bool.or_eq_true, Bool.or_eq_false_iff, Bool.true_eq, Bool.false_eq, reduceCtorEq] at hb1
    -- region 2  strings.go:982
    refine awp_rseq [4] (by rfl) fun K hK => ?_
    simp (decide := true) only [aOps_nil, vOps_nil, fOps_nil, kOps_nil, ev, absV, absS, putD, Slots.put, Slots.get, Slots.keep, if_true, if_false, List.contains_cons, List.contains_nil, true_and, and_true, ↓ap_move, pop_move, ↓ap_assign, pop_assign]
    repeat (with_reducible refine And.intro ?_ ?_; · first | trivial | omega | (intro hg; simp only [Bool.and_eq_true, Bool.or_eq_true, Bool.not_eq_true', Bool.and_eq_false_iff, Bool.or_eq_false_iff, Bool.not_eq_false', decide_eq_true_eq, decide_eq_false_iff_not, eqNil] at hg; omega) )
    apply hK; clear hK K
    refine awp_ret ?_
    try simp only [thenA_ret, inBlockA_ret]
    refine retA_ret _ (Sub.refl _) (resPre_tmp (resPre_nil)) ?_
    simp (decide := true) only [aOps_nil, vOps_nil, fOps_nil, kOps_nil, ev, absV, absS, putD, Slots.put, Slots.get, Slots.keep, if_true, if_false, List.contains_cons, List.contains_nil, true_and, and_true, resOf_one]
    rw [hb1]; rfl
  · try simp only [decide_eq_true_eq, decide_eq_false_iff_not, Bool.not_eq_true', Bool.not_eq_false', Bool.and_eq_true, Bool.and_eq_false_iff, Bool.or_eq_true, Bool.or_eq_false_iff, Bool.true_eq, Bool.false_eq, reduceCtorEq] at hb1
    refine awp_skip ?_
    change Awp _ _ _ _ _ _ _
    refine awp_seq ?_
    -- region 3  strings.go:984
    refine awp_rseq [0, 1, 21] (by rfl) fun K hK => ?_
    simp (decide := true) only [aOps_nil, vOps_nil, fOps_nil, kOps_nil, ev, absV, absS, putD, Slots.put, Slots.get, Slots.keep, if_true, if_false, List.contains_cons, List.contains_nil, true_and, and_true, ↓ap_move, pop_move, ↓ap_len, pop_len, pLen_str Tryd.underlying9, ↓ap_binOp, pop_binOp, isNilC_int, cond_false, pBinX_int, pI_eql, ↓ag_move, agP, agQ_some, gv, nthDst, gKnown_bool, gKnown_cond, guardB_cond, guardB_bool_true, guardB_bool_false, cv_cv, implies_true, Bool.not_not, decide_true, decide_false, Bool.not_false, Bool.not_true, condV_true, condV_false, forall_const, false_implies, pickV_true, pickV_false, Bool.and_true, Bool.and_false, Bool.true_and, Bool.false_and, Bool.or_true, Bool.or_false, Bool.true_or, Bool.false_or, ↓ag_index, pop_index, pIndex_str Tryd.underlying9, cv_indexl, cv_indexr, cp_indexl, cp_indexr, ↓ag_binOp, cv_binl, cv_binr, cp_binl, cp_binr, pI_lss, ↓ap_pick, pop_pick, pPick_bool, pickV_cond_l, pickV_cond_r, pickV_cond_rn, cp_nest1, cp_nest2, cp_nest3, cp_nest4, pickV_and, pickV_or]
    repeat (with_reducible refine And.intro ?_ ?_; · first | trivial | omega | (intro hg; simp only [Bool.and_eq_true, Bool.or_eq_true, Bool.not_eq_true', Bool.and_eq_false_iff, Bool.or_eq_false_iff, Bool.not_eq_false', decide_eq_true_eq, decide_eq_false_iff_not, eqNil] at hg; omega) )
    apply hK; clear hK K
    refine awp_cond (b := _) rfl (fun hb2 => ?_) (fun hb2 => ?_)
    · cases hb2
    · try simp only [decide_eq_true_eq, decide_eq_false_iff_not, Bool.not_eq_true', Bool.not_eq_false', Bool.and_eq_true, Bool.and_eq_false_iff, Bool.or_eq_true, Bool.or_eq_false_iff, Bool.true_eq, Bool.false_eq, reduceCtorEq] at hb2
      refine awp_skip ?_
      change Awp _ _ _ _ _ _ _
      refine awp_seq ?_
      -- region 5  strings.go:987
      refine awp_rseq [0, 1, 5, 6] (by rfl) fun K hK => ?_
      simp (decide := true) only [aOps_nil, vOps_nil, fOps_nil, kOps_nil, ev, absV, absS, putD, Slots.put, Slots.get, Slots.keep, if_true, if_false, List.contains_cons, List.contains_nil, true_and, and_true, ↓ap_move, pop_move]
      repeat (with_reducible refine And.intro ?_ ?_; · first | trivial | omega | (intro hg; simp only [Bool.and_eq_true, Bool.or_eq_true, Bool.not_eq_true', Bool.and_eq_false_iff, Bool.or_eq_false_iff, Bool.not_eq_false', decide_eq_true_eq, decide_eq_false_iff_not, eqNil] at hg; omega) )
      refine aOps_callV (V := .tuple [.agg digCells, .bool true]) (by rfl) (by rfl) (c_asciiSet w₀ h) ?_
      simp (decide := true) only [aOps_nil, vOps_nil, fOps_nil, kOps_nil, ev, absV, absS, putD, Slots.put, Slots.get, Slots.keep, if_true, if_false, List.contains_cons, List.contains_nil, true_and, and_true, ↓ap_move, pop_move, ↓ap_extract, pop_extract, pExt_tuple, List.length_cons, List.length_nil, List.getD_cons_zero, List.getD_cons_succ]
      repeat (with_reducible refine And.intro ?_ ?_; · first | trivial | omega | (intro hg; simp only [Bool.and_eq_true, Bool.or_eq_true, Bool.not_eq_true', Bool.and_eq_false_iff, Bool.or_eq_false_iff, Bool.not_eq_false', decide_eq_true_eq, decide_eq_false_iff_not, eqNil] at hg; omega) )
      refine aOps_alloc ze_ascii (cs := List.replicate 256 (.bool false)) (by kernel_rfl) fun k hk => ?_
      refine aOps_store (v := .agg digCells) (by rfl) (by rfl) (AHeap.set_same _ _ _) sz66 (by rfl) (by kernel_rfl) (by decide +kernel) (Nat.zero_le _) (by kernel_rfl) ?_
      rw [AHeap.set_set, show setAt (List.replicate 256 (.bool false)) 0 (AVal.agg digCells).cells = digCells by kernel_rfl]
      simp (decide := true) only [aOps_nil, vOps_nil, fOps_nil, kOps_nil, ev, absV, absS, putD, Slots.put, Slots.get, Slots.keep, if_true, if_false, List.contains_cons, List.contains_nil, true_and, and_true, ↓ap_assign, pop_assign]
      repeat (with_reducible refine And.intro ?_ ?_; · first | trivial | omega | (intro hg; simp only [Bool.and_eq_true, Bool.or_eq_true, Bool.not_eq_true', Bool.and_eq_false_iff, Bool.or_eq_false_iff, Bool.not_eq_false', decide_eq_true_eq, decide_eq_false_iff_not, eqNil] at hg; omega) )
      apply hK; clear hK K
      -- region 6  strings.go:987
      refine awp_rseq [0, 1, 5, 34] (by rfl) fun K hK => ?_
      simp (decide := true) only [aOps_nil, vOps_nil, fOps_nil, kOps_nil, ev, absV, absS, putD, Slots.put, Slots.get, Slots.keep, if_true, if_false, List.contains_cons, List.contains_nil, true_and, and_true, ↓ap_move, pop_move]
      repeat (with_reducible refine And.intro ?_ ?_; · first | trivial | omega | (intro hg; simp only [Bool.and_eq_true, Bool.or_eq_true, Bool.not_eq_true', Bool.and_eq_false_iff, Bool.or_eq_false_iff, Bool.not_eq_false', decide_eq_true_eq, decide_eq_false_iff_not, eqNil] at hg; omega) )
      apply hK; clear hK K
      refine awp_cond (b := _) rfl (fun hb3 => ?_) (fun hb3 => ?_)
      · try simp only [decide_eq_true_eq, decide_eq_false_iff_not, Bool.not_eq_true', Bool.not_eq_false', Bool.and_eq_true, Bool.and_eq_false_iff, Bool.or_eq_true, Bool.or_eq_false_iff, Bool.true_eq, Bool.false_eq, reduceCtorEq] at hb3
        -- region 7  strings.go:988
        refine awp_rseq [4] (by rfl) fun K hK => ?_
        simp (decide := true) only [aOps_nil, vOps_nil, fOps_nil, kOps_nil, ev, absV, absS, putD, Slots.put, Slots.get, Slots.keep, if_true, if_false, List.contains_cons, List.contains_nil, true_and, and_true, ↓ap_move, pop_move]
        repeat (with_reducible refine And.intro ?_ ?_; · first | trivial | omega | (intro hg; simp only [Bool.and_eq_true, Bool.or_eq_true, Bool.not_eq_true', Bool.and_eq_false_iff, Bool.or_eq_false_iff, Bool.not_eq_false', decide_eq_true_eq, decide_eq_false_iff_not, eqNil] at hg; omega) )
        refine aOps_callV (V := .str (s.reverse.dropWhile dg).reverse) (by rfl) (by rfl) (c_trimRightA w₀ _ k (AHeap.set_same _ _ _) s hl) ?_
        refine aOps_callV (V := .str ((s.reverse.dropWhile dg).reverse.dropWhile dg)) (by rfl) (by rfl) (c_trimLeftA w₀ _ k (AHeap.set_same _ _ _) _ (by have := (List.dropWhile_sublist (p := dg) (l := s.reverse)).length_le; simp at this ⊢; omega)) ?_
        simp (decide := true) only [aOps_nil, vOps_nil, fOps_nil, kOps_nil, ev, absV, absS, putD, Slots.put, Slots.get, Slots.keep, if_true, if_false, List.contains_cons, List.contains_nil, true_and, and_true, ↓ap_assign, pop_assign]
        repeat (with_reducible refine And.intro ?_ ?_; · first | trivial | omega | (intro hg; simp only [Bool.and_eq_true, Bool.or_eq_true, Bool.not_eq_true', Bool.and_eq_false_iff, Bool.or_eq_false_iff, Bool.not_eq_false', decide_eq_true_eq, decide_eq_false_iff_not, eqNil] at hg; omega) )
        apply hK; clear hK K
        refine awp_ret ?_
        try simp only [thenA_ret, inBlockA_ret]
        refine retA_ret h (Sub.set hk) (resPre_tmp (resPre_nil)) ?_
        simp (decide := true) only [aOps_nil, vOps_nil, fOps_nil, kOps_nil, ev, absV, absS, putD, Slots.put, Slots.get, Slots.keep, if_true, if_false, List.contains_cons, List.contains_nil, true_and, and_true, resOf_one]
        all_goals first | rfl | exact ⟨rfl, rfl⟩ | (simp (decide := true) only [if_true, if_false, *]; done) | (trace_state; fail)
      · cases hb3

theorem dropWhile_nil (p : UInt8 → Bool) : ∀ l : List UInt8, l.dropWhile p = [] ↔ ∀ b ∈ l, p b = true
  | [] => by simp
  | x :: l => by
    rw [List.dropWhile_cons]
    by_cases h : p x = true
    · rw [if_pos h, dropWhile_nil p l]; simp [h]
    · rw [if_neg h]; simp [h]

theorem takeWhile_all (p : UInt8 → Bool) : ∀ (l : List UInt8) (b : UInt8), b ∈ l.takeWhile p → p b = true
  | [], b, h => by simp at h
  | x :: l, b, h => by
    rw [List.takeWhile_cons] at h
    by_cases hx : p x = true
    · rw [if_pos hx] at h
      rcases List.mem_cons.1 h with e | e
      · rw [e]; exact hx
      · exact takeWhile_all p l b e
    · rw [if_neg hx] at h; simp at h

theorem trimD_nil (s : List UInt8) : decide ((s.reverse.dropWhile dg).reverse.dropWhile dg = []) = s.all dg := by
  rw [Bool.eq_iff_iff, decide_eq_true_eq, dropWhile_nil, List.all_eq_true]
  constructor
  · intro h b hb
    by_cases hd : dg b = true
    · exact hd
    · have hm : b ∈ s.reverse.dropWhile dg := by
        have := List.takeWhile_append_dropWhile (p := dg) (l := s.reverse)
        have hb' : b ∈ s.reverse := by simpa using hb
        rw [← this, List.mem_append] at hb'
        rcases hb' with h1 | h1
        · exact absurd (takeWhile_all dg _ _ h1) hd
        · exact h1
      exact h b (by simpa using hm)
  · intro h b hb
    refine h b ?_
    have : b ∈ s.reverse.dropWhile dg := by simpa using hb
    have := (List.dropWhile_sublist (p := dg) (l := s.reverse)).mem this
    simpa using this

def numB (s : List UInt8) : Bool := !decide (s = []) && s.all dg

theorem c_number (w₀ : World) (h : AHeap) (s : List UInt8) (hl : s.length ≤ 9223372036854775807) : ACall Tryd.prog w₀ 28 [.str s] h (fun v h' => v = .bool (numB s) ∧ h' = h) := by
  refine acall_intro (n := 10) (rs := [.tmp 2]) Tryd.func28 rfl rfl rfl rfl (Nat.le_of_ble_eq_true rfl) ?_
  simp only [initSlots]
  -- region 0  decimals.go:32
  refine awp_rseq [0] (by rfl) fun K hK => ?_
  simp (decide := true) only [aOps_nil, vOps_nil, fOps_nil, kOps_nil, ev, absV, absS, putD, Slots.put, Slots.get, Slots.keep, if_true, if_false, List.contains_cons, List.contains_nil, true_and, and_true, ↓ap_assign, pop_assign]
  repeat (with_reducible refine And.intro ?_ ?_; · first | trivial | omega | (intro hg; simp only [Bool.and_eq_true, Bool.or_eq_true, Bool.not_eq_true', Bool.and_eq_false_iff, Bool.or_eq_false_iff, Bool.not_eq_false', decide_eq_true_eq, decide_eq_false_iff_not, eqNil] at hg; omega) )
  apply hK; clear hK K
  -- region 1  decimals.go:32
  refine awp_rseq [2] (by rfl) fun K hK => ?_
  simp (decide := true) only [aOps_nil, vOps_nil, fOps_nil, kOps_nil, ev, absV, absS, putD, Slots.put, Slots.get, Slots.keep, if_true, if_false, List.contains_cons, List.contains_nil, true_and, and_true, ↓ap_move, pop_move, ↓ap_binOp, pop_binOp, isNilC_str, cond_false, pBinX_str, pS_neq, ↓ag_move, agP, agQ_some, gv, nthDst, gKnown_bool, gKnown_cond, guardB_cond, guardB_bool_true, guardB_bool_false, cv_cv, implies_true, Bool.not_not, decide_true, decide_false, Bool.not_false, Bool.not_true, condV_true, condV_false, forall_const, false_implies, pickV_true, pickV_false, Bool.and_true, Bool.and_false, Bool.true_and, Bool.false_and, Bool.or_true, Bool.or_false, Bool.true_or, Bool.false_or]
  repeat (with_reducible refine And.intro ?_ ?_; · first | trivial | omega | (intro hg; simp only [Bool.and_eq_true, Bool.or_eq_true, Bool.not_eq_true', Bool.and_eq_false_iff, Bool.or_eq_false_iff, Bool.not_eq_false', decide_eq_true_eq, decide_eq_false_iff_not, eqNil] at hg; omega) )
  first
  | (refine aOps_yes (by rfl) ?_; refine aOps_callV (V := .str ((s.reverse.dropWhile dg).reverse.dropWhile dg)) (by rfl) (by rfl) (c_trimD w₀ _ s hl) ?_)
  | (refine aOps_no (by rfl) (by rfl) ?_)
  | (refine aOps_gcall (V := .str ((s.reverse.dropWhile dg).reverse.dropWhile dg)) (f := _) (cap := _) (xs := _) (by first | rfl | (simp (decide := true) only [gv, nthDst, Slots.get, if_true, if_false, gKnown_cond, gKnown_bool])) (fun hg => ⟨rfl, ?_⟩) (fun hg => c_trimD w₀ _ s hl) ?_; · (simp (decide := true) only [gv, nthDst, putD, Slots.put, Slots.get, if_true, if_false, guardB_bool_true, guardB_bool_false, guardB_cond, Bool.not_not] at hg; simp (decide := true) only [evs, ev, putD, Slots.put, Slots.get, if_true, if_false, hg, condV_true, List.append_nil, List.map_cons, List.map_nil, absV, absS] <;> try rfl))
  simp (decide := true) only [aOps_nil, vOps_nil, fOps_nil, kOps_nil, ev, absV, absS, putD, Slots.put, Slots.get, Slots.keep, if_true, if_false, List.contains_cons, List.contains_nil, true_and, and_true, gv, nthDst, guardB_bool_true, guardB_bool_false, guardB_cond, ↓ag_binOp, pop_binOp, agP, agQ_some, gKnown_bool, gKnown_cond, cv_cv, implies_true, Bool.not_not, decide_true, decide_false, Bool.not_false, Bool.not_true, condV_true, condV_false, forall_const, false_implies, pickV_true, pickV_false, Bool.and_true, Bool.and_false, Bool.true_and, Bool.false_and, Bool.or_true, Bool.or_false, Bool.true_or, Bool.false_or, isNilC_str, cond_false, cv_binl, cv_binr, cp_binl, cp_binr, pBinX_str, pS_eql, ↓ap_pick, pop_pick, pPick_bool, pickV_cond_l, pickV_cond_r, pickV_cond_rn, cp_nest1, cp_nest2, cp_nest3, cp_nest4, pickV_and, pickV_or, ↓ap_assign, pop_assign]
  repeat (with_reducible refine And.intro ?_ ?_; · first | trivial | omega | (intro hg; simp only [Bool.and_eq_true, Bool.or_eq_true, Bool.not_eq_true', Bool.and_eq_false_iff, Bool.or_eq_false_iff, Bool.not_eq_false', decide_eq_true_eq, decide_eq_false_iff_not, eqNil] at hg; omega) )
  apply hK; clear hK K
  refine awp_ret ?_
  try simp only [thenA_ret, inBlockA_ret]
  refine retA_ret _ (Sub.refl _) (resPre_tmp (resPre_nil)) ?_
  simp (decide := true) only [aOps_nil, vOps_nil, fOps_nil, kOps_nil, ev, absV, absS, putD, Slots.put, Slots.get, Slots.keep, if_true, if_false, List.contains_cons, List.contains_nil, true_and, and_true, resOf_one]
  rw [trimD_nil]; rfl

/-! ### Contracts of the shelf -/
theorem c_trimLeft0 (w₀ : World) (h : AHeap) (s : List UInt8) (c : UInt8) (hc : c.toNat < 128) : ACall Tryd.prog w₀ 41 [.str s, .str [c]] h (fun v h' => v = .str (s.dropWhile (· == c)) ∧ h' = h) := by
  refine acall_of_calls (vals := [.string ⟨⟨s⟩⟩, .string ⟨⟨[c]⟩⟩]) (val := .string ⟨⟨s.dropWhile (· == c)⟩⟩) Tryd.func41 rfl rfl (fun φ vs hv => VRs_ss hv) (fun φ => rfl) fun w => ?_
  refine (Tryd.strings_TrimLeft_one ⟨⟨s⟩⟩ c hc w).mono fun e w' ⟨e1, e2⟩ => ⟨e1, ?_⟩
  subst e2; exact Go.RowKit.Below.refl _ _
theorem c_trim0 (w₀ : World) (h : AHeap) (s : List UInt8) (c : UInt8) (hc : c.toNat < 128) (hl : s.length ≤ 9223372036854775807) : ACall Tryd.prog w₀ 21 [.str s, .str [c]] h (fun v h' => v = .str (Go.Lib.trimB s c) ∧ h' = h) := by
  refine acall_of_calls (vals := [.string ⟨⟨s⟩⟩, .string ⟨⟨[c]⟩⟩]) (val := .string ⟨⟨Go.Lib.trimB s c⟩⟩) Tryd.func21 rfl rfl (fun φ vs hv => VRs_ss hv) (fun φ => rfl) fun w => ?_
  refine (Tryd.strings_Trim_one ⟨⟨s⟩⟩ c hc w hl).mono fun e w' ⟨e1, e2⟩ => ⟨e1, ?_⟩
  rcases e2 with e2 | e2
  · subst e2; exact Go.RowKit.Below.refl _ _
  · subst e2; exact (Go.RowKit.Below.refl _ _).drew
theorem c_hasSuffix (w₀ : World) (h : AHeap) (s p : List UInt8) (hl : s.length ≤ 9223372036854775807) : ACall Tryd.prog w₀ 42 [.str s, .str p] h (fun v h' => v = .bool (p.isSuffixOf s) ∧ h' = h) := by
  refine acall_of_calls (vals := [.string ⟨⟨s⟩⟩, .string ⟨⟨p⟩⟩]) (val := .bool (p.isSuffixOf s)) Tryd.func42 rfl rfl (fun φ vs hv => VRs_ss hv) (fun φ => rfl) fun w => ?_
  refine (Tryd.strings_HasSuffix ⟨⟨s⟩⟩ ⟨⟨p⟩⟩ w hl).mono fun e w' ⟨e1, e2⟩ => ⟨e1, ?_⟩
  subst e2; exact Go.RowKit.Below.refl _ _
theorem repeatL_one (b : UInt8) : ∀ n, Go.Lib.repeatL [b] n = List.replicate n b
  | 0 => rfl
  | n + 1 => by
    rw [Go.Lib.repeatL, repeatL_one b n]
    simp [List.replicate_succ]
theorem c_repeat (w₀ : World) (h : AHeap) (b : UInt8) (n : Nat) (hn : n ≤ 140737488355328) : ACall Tryd.prog w₀ 25 [.str [b], .int .i64 n] h (fun v h' => v = .str (List.replicate n b) ∧ h' = h) := by
  refine acall_of_calls (vals := [.string ⟨⟨[b]⟩⟩, .int .i64 n]) (val := .string ⟨⟨List.replicate n b⟩⟩) Tryd.func25 rfl rfl (fun φ vs hv => VRs_si hv) (fun φ => rfl) fun w => ?_
  have := Tryd.strings_Repeat ⟨⟨[b]⟩⟩ n w (by omega) (by show 1 * n ≤ _; omega)
  rw [show (⟨⟨[b]⟩⟩ : ByteArray).data.toList = [b] from rfl, repeatL_one] at this
  exact this
end Go.Proofs.YteagjfcmhmmljaaDoor

/-
  Contracts: normal of the package decimals.
  Conditions: none.
-/
namespace Go.Proofs.YteagjfcmhmmljaaDoor
open Go.AM
open Go.Proofs
open Go.Dec
open Go.Lib (decDigits)
set_option maxRecDepth 100000

def decA (d : D) : AVal := .agg [.bool d.neg, .str d.dig, .int .i64 d.scale]

theorem c_normal (w₀ : World) (h : AHeap) (neg : Bool) (s : List UInt8) (scale : Int) (hs : s.all dg = true) (hl : s.length ≤ 1073741824) (h0 : -1073741824 ≤ scale) (h1 : scale ≤ 1073741824) :
    ACall Tryd.prog w₀ 24 [.bool neg, .str s, .int .i64 scale] h (fun v h' => v = .tuple [decA (normE neg (natOf s) scale).1, .int .i64 (normE neg (natOf s) scale).2] ∧ h' = h) := by
  have hlen := natOf_lt s hs
  refine acall_intro (n := 43) (rs := [.cell 6 32, .tmp 7]) Tryd.func24 rfl rfl rfl rfl (Nat.le_of_ble_eq_true rfl) ?_
  simp only [initSlots]
  -- region 0  decimals.go:35
  refine awp_rseq [0, 1, 2, 6] (by rfl) fun K hK => ?_
  refine aOps_alloc ze32 (cs := [.bool false, .str [], .int .i64 0]) (by rfl) fun k0q0 hk0q0 => ?_
  simp (decide := true) only [aOps_nil, vOps_nil, fOps_nil, kOps_nil, ev, absV, absS, putD, Slots.put, Slots.get, Slots.keep, if_true, if_false, List.contains_cons, List.contains_nil, true_and, and_true, ↓ap_assign, pop_assign]
  repeat (with_reducible refine And.intro ?_ ?_; · first | trivial | omega | (intro hg; simp only [Bool.and_eq_true, Bool.or_eq_true, Bool.not_eq_true', Bool.and_eq_false_iff, Bool.or_eq_false_iff, Bool.not_eq_false', decide_eq_true_eq, decide_eq_false_iff_not, eqNil] at hg; omega) )
  apply hK; clear hK K
  -- region 1  decimals.go:36
  refine awp_rseq [0, 1, 2, 6] (by rfl) fun K hK => ?_
  simp (decide := true) only [aOps_nil, vOps_nil, fOps_nil, kOps_nil, ev, absV, absS, putD, Slots.put, Slots.get, Slots.keep, if_true, if_false, List.contains_cons, List.contains_nil, true_and, and_true, ↓ap_move, pop_move]
  repeat (with_reducible refine And.intro ?_ ?_; · first | trivial | omega | (intro hg; simp only [Bool.and_eq_true, Bool.or_eq_true, Bool.not_eq_true', Bool.and_eq_false_iff, Bool.or_eq_false_iff, Bool.not_eq_false', decide_eq_true_eq, decide_eq_false_iff_not, eqNil] at hg; omega) )
  refine aOps_callV (V := .str (s.dropWhile (· == 48))) (by rfl) (by rfl) (c_trimLeft0 w₀ _ s 48 (by decide)) ?_
  simp (decide := true) only [aOps_nil, vOps_nil, fOps_nil, kOps_nil, ev, absV, absS, putD, Slots.put, Slots.get, Slots.keep, if_true, if_false, List.contains_cons, List.contains_nil, true_and, and_true, ↓ap_assign, pop_assign]
  rw [drop_zeros s hs]
  apply hK; clear hK K
  refine awp_seq ?_
  -- region 2  decimals.go:37
  refine awp_rseq [0, 1, 2, 6, 11] (by rfl) fun K hK => ?_
  simp (decide := true) only [aOps_nil, vOps_nil, fOps_nil, kOps_nil, ev, absV, absS, putD, Slots.put, Slots.get, Slots.keep, if_true, if_false, List.contains_cons, List.contains_nil, true_and, and_true, ↓ap_move, pop_move, ↓ap_binOp, pop_binOp, isNilC_str, cond_false, pBinX_str, pS_eql]
  repeat (with_reducible refine And.intro ?_ ?_; · first | trivial | omega | (intro hg; simp only [Bool.and_eq_true, Bool.or_eq_true, Bool.not_eq_true', Bool.and_eq_false_iff, Bool.or_eq_false_iff, Bool.not_eq_false', decide_eq_true_eq, decide_eq_false_iff_not, eqNil] at hg; omega) )
  apply hK; clear hK K
  refine awp_cond (b := _) rfl (fun hb1 => ?_) (fun hb1 => ?_)
  · try simp only [decide_eq_true_eq, decide_eq_false_iff_not, Bool.not_eq_true', Bool.not_eq_false', Bool.and_eq_true, Bool.and_eq_false_iff, Bool.or_eq_true, Bool.or_eq_false_iff, Bool.true_eq, Bool.false_eq, reduceCtorEq] at hb1
    -- region 3  decimals.go:38
    refine awp_rseq [6, 7] (by rfl) fun K hK => ?_
    simp (decide := true) only [aOps_nil, vOps_nil, fOps_nil, kOps_nil, ev, absV, absS, putD, Slots.put, Slots.get, Slots.keep, if_true, if_false, List.contains_cons, List.contains_nil, true_and, and_true, ↓ap_build, pop_build, ↓pop_buildL, bld32_1, evP, List.map_cons, List.map_nil, Sc_slice, Sc_nilSlice, Sc_nilPtr, Sc_ptr, Sc_nilFunc, Sc_func, Sc_nilMap]
    repeat (with_reducible refine And.intro ?_ ?_; · first | trivial | omega | (intro hg; simp only [Bool.and_eq_true, Bool.or_eq_true, Bool.not_eq_true', Bool.and_eq_false_iff, Bool.or_eq_false_iff, Bool.not_eq_false', decide_eq_true_eq, decide_eq_false_iff_not, eqNil] at hg; omega) )
    refine aOps_store (by rfl) (by rfl) (AHeap.set_same _ _ _) sz32 (by rfl) (by rfl) (by first | exact Nat.le_refl _ | decide | (simp; done) | (simp; omega)) (Nat.zero_le _) (by rfl) ?_
    simp only [AHeap.set_set, setAt, AVal.cells, List.set_cons_zero, List.set_cons_succ, Nat.zero_add, Nat.reduceAdd]
    simp (decide := true) only [aOps_nil, vOps_nil, fOps_nil, kOps_nil, ev, absV, absS, putD, Slots.put, Slots.get, Slots.keep, if_true, if_false, List.contains_cons, List.contains_nil, true_and, and_true, ↓ap_assign, pop_assign]
    repeat (with_reducible refine And.intro ?_ ?_; · first | trivial | omega | (intro hg; simp only [Bool.and_eq_true, Bool.or_eq_true, Bool.not_eq_true', Bool.and_eq_false_iff, Bool.or_eq_false_iff, Bool.not_eq_false', decide_eq_true_eq, decide_eq_false_iff_not, eqNil] at hg; omega) )
    apply hK; clear hK K
    refine awp_ret ?_
    try simp only [thenA_ret, inBlockA_ret]
    refine retA_ret h (Sub.set hk0q0) (?_) ?_
    · simp (decide := true) only [resPre, resV_tmp, resV_cell, aOps_nil, ev, Slots.get, if_true, if_false, and_true, true_and, AHeap.set_same, resV_tmp, resV_cell, pLoad_agg ag32 sz32, rd_set, cellsAt, List.getD_cons_zero, List.getD_cons_succ, Nat.zero_add, Nat.reduceAdd, setAt, List.set_cons_zero, List.set_cons_succ, AVal.cells, lv_bool, lv_int, lv_str, lv_nilPtr, lv_ptr, lv_nilSlice, lv_slice, lv_nilFunc, lv_func, lv_nilIface, lv_iface, lv_nilMap, lv_agg, lv_tuple, allLive, Bool.and_true, Bool.true_and, rd_any]
    
    simp (decide := true) only [aOps_nil, vOps_nil, fOps_nil, kOps_nil, ev, absV, absS, putD, Slots.put, Slots.get, Slots.keep, if_true, if_false, List.contains_cons, List.contains_nil, true_and, and_true, resOfG_two, resV_tmp, resV_cell, pLoad_agg ag32 sz32, rd_set, cellsAt, List.getD_cons_zero, List.getD_cons_succ, Nat.zero_add, Nat.reduceAdd, setAt, List.set_cons_zero, List.set_cons_succ, AVal.cells, lv_bool, lv_int, lv_str, lv_nilPtr, lv_ptr, lv_nilSlice, lv_slice, lv_nilFunc, lv_func, lv_nilIface, lv_iface, lv_nilMap, lv_agg, lv_tuple, allLive, Bool.and_true, Bool.true_and, rd_any]
    have hn : natOf s = 0 := by
      by_cases hn : natOf s = 0
      · exact hn
      · rw [if_neg hn] at hb1; exact absurd hb1 (decDigits_ne _)
    rw [hn, normE_zero]; rfl
  · try simp only [decide_eq_true_eq, decide_eq_false_iff_not, Bool.not_eq_true', Bool.not_eq_false', Bool.and_eq_true, Bool.and_eq_false_iff, Bool.or_eq_true, Bool.or_eq_false_iff, Bool.true_eq, Bool.false_eq, reduceCtorEq] at hb1
    have hn : natOf s ≠ 0 := fun hn => hb1 (by rw [if_pos hn])
    simp only [if_neg hn]
    have hml0 : (decDigits (natOf s)).length ≤ s.length := by
      rcases Nat.eq_zero_or_pos s.length with e | e
      · rw [List.eq_nil_of_length_eq_zero e] at hn; exact absurd rfl hn
      · exact (decDigits_lt e).2 hlen
    refine awp_skip ?_
    change Awp _ _ _ _ _ _ _
    refine awp_seq ?_
    refine awp_block ?_
    refine awp_loopG [0, 1, 2, 6] (fun g : Nat × Int => [(0, .bool neg), (1, .str (decDigits g.1)), (2, .int .i64 g.2), (6, .ptr (.own k0q0) 0)]) (fun g : Nat × Int => h.set k0q0 ⟨[.bool false, .str [], .int .i64 0], 0⟩) (fun g : Nat × Int => g.1 ≠ 0 ∧ g.2 ≤ scale ∧ (g.2 < 0 → g.1 = natOf s ∧ g.2 = scale) ∧ (0 ≤ g.2 → 0 ≤ scale ∧ strip g.1 g.2.toNat = strip (natOf s) scale.toNat) ∧ (decDigits g.1).length ≤ s.length) (fun g : Nat × Int => g.2.toNat) (natOf s, scale) (by rfl) (Sub.refl _) ⟨by omega, Int.le_refl _, fun _ => ⟨rfl, rfl⟩, fun h => ⟨h, rfl⟩, hml0⟩ ?_
    rintro ⟨m, sc⟩ ⟨hm, hsc, hneg, hpos, hml⟩
    simp only at hm hsc hneg hpos hml
    have hl1 : 0 < (decDigits m).length := List.length_pos_iff.2 (decDigits_ne m)
    refine awp_seq ?_
    -- region 4  decimals.go:40
    refine awp_rseq [0, 1, 2, 6, 18] (by rfl) fun K hK => ?_
    simp (decide := true) only [aOps_nil, vOps_nil, fOps_nil, kOps_nil, ev, absV, absS, putD, Slots.put, Slots.get, Slots.keep, if_true, if_false, List.contains_cons, List.contains_nil, true_and, and_true, ↓ap_move, pop_move, ↓ap_binOp, pop_binOp, isNilC_int, cond_false, pBinX_int, pI_gtr, ↓ag_move, agP, agQ_some, gv, nthDst, gKnown_bool, gKnown_cond, guardB_cond, guardB_bool_true, guardB_bool_false, cv_cv, implies_true, Bool.not_not, decide_true, decide_false, Bool.not_false, Bool.not_true, condV_true, condV_false, forall_const, false_implies, pickV_true, pickV_false, Bool.and_true, Bool.and_false, Bool.true_and, Bool.false_and, Bool.or_true, Bool.or_false, Bool.true_or, Bool.false_or]
    repeat (with_reducible refine And.intro ?_ ?_; · first | trivial | omega | (intro hg; simp only [Bool.and_eq_true, Bool.or_eq_true, Bool.not_eq_true', Bool.and_eq_false_iff, Bool.or_eq_false_iff, Bool.not_eq_false', decide_eq_true_eq, decide_eq_false_iff_not, eqNil] at hg; omega) )
    first
    | (refine aOps_yes (by rfl) ?_; refine aOps_callV (V := .bool ([48].isSuffixOf (decDigits m))) (by rfl) (by rfl) (c_hasSuffix w₀ _ _ _ (by omega)) ?_)
    | (refine aOps_no (by rfl) (by rfl) ?_)
    | (refine aOps_gcall (V := .bool ([48].isSuffixOf (decDigits m))) (f := _) (cap := _) (xs := _) (by first | rfl | (simp (decide := true) only [gv, nthDst, Slots.get, if_true, if_false, gKnown_cond, gKnown_bool])) (fun hg => ⟨rfl, ?_⟩) (fun hg => c_hasSuffix w₀ _ _ _ (by omega)) ?_; · (simp (decide := true) only [gv, nthDst, putD, Slots.put, Slots.get, if_true, if_false, guardB_bool_true, guardB_bool_false, guardB_cond, Bool.not_not] at hg; simp (decide := true) only [evs, ev, putD, Slots.put, Slots.get, if_true, if_false, hg, condV_true, List.append_nil, List.map_cons, List.map_nil, absV, absS] <;> try rfl))
    simp (decide := true) only [aOps_nil, vOps_nil, fOps_nil, kOps_nil, ev, absV, absS, putD, Slots.put, Slots.get, Slots.keep, if_true, if_false, List.contains_cons, List.contains_nil, true_and, and_true, gv, nthDst, guardB_bool_true, guardB_bool_false, guardB_cond, ↓ap_pick, pop_pick, pPick_bool, pickV_cond_l, pickV_cond_r, pickV_cond_rn, cp_nest1, cp_nest2, cp_nest3, cp_nest4, pickV_and, pickV_or]
    rw [suffix_zero]
    apply hK; clear hK K
    refine awp_cond (b := _) rfl (fun hb2 => ?_) (fun hb2 => ?_)
    · try simp only [decide_eq_true_eq, decide_eq_false_iff_not, Bool.not_eq_true', Bool.not_eq_false', Bool.and_eq_true, Bool.and_eq_false_iff, Bool.or_eq_true, Bool.or_eq_false_iff, Bool.true_eq, Bool.false_eq, reduceCtorEq] at hb2
      refine awp_skip ?_
      change Awp _ _ _ _ _ _ _
      refine awp_block ?_
      -- region 5  decimals.go:41
      refine awp_r [0, 1, 2, 6] (by rfl) ?_
      simp (decide := true) only [aOps_nil, vOps_nil, fOps_nil, kOps_nil, ev, absV, absS, putD, Slots.put, Slots.get, Slots.keep, if_true, if_false, List.contains_cons, List.contains_nil, true_and, and_true, ↓ap_move, pop_move, ↓ap_len, pop_len, pLen_str Tryd.underlying9, ↓ap_binOp, pop_binOp, isNilC_int, cond_false, pBinX_int, pI_sub]
      try simp (disch := omega) only [wrap_i64, wrap_u8]
      try simp (decide := true) only [aOps_nil, vOps_nil, fOps_nil, kOps_nil, ev, absV, absS, putD, Slots.put, Slots.get, Slots.keep, if_true, if_false, List.contains_cons, List.contains_nil, true_and, and_true, ↓ap_slice, pop_slice, evO, pSliceS_00 Tryd.underlying9, pSliceS_0i Tryd.underlying9, pSliceS_i0 Tryd.underlying9, pSliceS_ii Tryd.underlying9, pSliceS, bndA_none, bndA_int, ↓ap_move, pop_move, ↓ap_binOp, pop_binOp, isNilC_int, cond_false, pBinX_int, pI_sub, ↓ap_assign, pop_assign]
      try simp (disch := omega) only [wrap_i64, wrap_u8]
      repeat (with_reducible refine And.intro ?_ ?_; · first | trivial | omega | (intro hg; simp only [Bool.and_eq_true, Bool.or_eq_true, Bool.not_eq_true', Bool.and_eq_false_iff, Bool.or_eq_false_iff, Bool.not_eq_false', decide_eq_true_eq, decide_eq_false_iff_not, eqNil] at hg; omega) )
      try simp only [thenA_normal, inBlockA_normal]
      have hm10 : ¬ m < 10 := by omega
      refine ⟨(m / 10, sc - 1), ?_, Sub.refl _, ⟨by simp only; omega, by simp only; omega, fun h => by simp only at h; omega, fun h => ?_, ?_⟩, by simp only; omega⟩
      · have e0 : ((decDigits m).length - 1 : Int).toNat = (decDigits m).length - 1 := by omega
        rw [e0]; simp only [Int.toNat_natCast, List.drop_zero, Nat.sub_zero]
        rw [decDigits_init hm10]; rfl
      · obtain ⟨q1, q2⟩ := hpos (by omega)
        refine ⟨q1, ?_⟩
        rw [← q2, show sc.toNat = (sc - 1).toNat + 1 by omega, strip, if_pos hb2.2]
      · simp only
        rw [← decDigits_init hm10]
        simp; omega
    · try simp only [decide_eq_true_eq, decide_eq_false_iff_not, Bool.not_eq_true', Bool.not_eq_false', Bool.and_eq_true, Bool.and_eq_false_iff, Bool.or_eq_true, Bool.or_eq_false_iff, Bool.true_eq, Bool.false_eq, reduceCtorEq] at hb2
      refine awp_exit ?_
      change Awp _ _ _ _ _ _ _
      refine awp_seq ?_
      -- region 6  decimals.go:43
      refine awp_rseq [0, 1, 2, 6, 27] (by rfl) fun K hK => ?_
      simp (decide := true) only [aOps_nil, vOps_nil, fOps_nil, kOps_nil, ev, absV, absS, putD, Slots.put, Slots.get, Slots.keep, if_true, if_false, List.contains_cons, List.contains_nil, true_and, and_true, ↓ap_move, pop_move, ↓ap_binOp, pop_binOp, isNilC_int, cond_false, pBinX_int, pI_lss]
      repeat (with_reducible refine And.intro ?_ ?_; · first | trivial | omega | (intro hg; simp only [Bool.and_eq_true, Bool.or_eq_true, Bool.not_eq_true', Bool.and_eq_false_iff, Bool.or_eq_false_iff, Bool.not_eq_false', decide_eq_true_eq, decide_eq_false_iff_not, eqNil] at hg; omega) )
      apply hK; clear hK K
      refine awp_cond (b := _) rfl (fun hb3 => ?_) (fun hb3 => ?_)
      · try simp only [decide_eq_true_eq, decide_eq_false_iff_not, Bool.not_eq_true', Bool.not_eq_false', Bool.and_eq_true, Bool.and_eq_false_iff, Bool.or_eq_true, Bool.or_eq_false_iff, Bool.true_eq, Bool.false_eq, reduceCtorEq] at hb3
        -- region 7  decimals.go:44
        refine awp_r [0, 1, 2, 6] (by rfl) ?_
        simp (decide := true) only [aOps_nil, vOps_nil, fOps_nil, kOps_nil, ev, absV, absS, putD, Slots.put, Slots.get, Slots.keep, if_true, if_false, List.contains_cons, List.contains_nil, true_and, and_true, ↓ap_move, pop_move, ↓ap_unOp, pop_unOp, pU_neg]
        try simp (disch := omega) only [wrap_i64, wrap_u8]
        repeat (with_reducible refine And.intro ?_ ?_; · first | trivial | omega | (intro hg; simp only [Bool.and_eq_true, Bool.or_eq_true, Bool.not_eq_true', Bool.and_eq_false_iff, Bool.or_eq_false_iff, Bool.not_eq_false', decide_eq_true_eq, decide_eq_false_iff_not, eqNil] at hg; omega) )
        refine aOps_callV (V := .str (List.replicate (-sc).toNat 48)) (by rfl) (by rfl) (by
          have e := c_repeat w₀ (h.set k0q0 ⟨[.bool false, .str [], .int .i64 0], 0⟩) 48 (-sc).toNat (by omega)
          rw [show (((-sc).toNat : Nat) : Int) = 0 - sc by omega] at e
          exact e) ?_
        simp (decide := true) only [aOps_nil, vOps_nil, fOps_nil, kOps_nil, ev, absV, absS, putD, Slots.put, Slots.get, Slots.keep, if_true, if_false, List.contains_cons, List.contains_nil, true_and, and_true, ↓ap_binOp, pop_binOp, isNilC_tmp, cond_false, pBinX_str, pS_add, ↓ap_assign, pop_assign]
        refine And.intro (by simp only [List.length_replicate]; omega) ?_
        change Awp _ _ _ _ _ _ _
        refine awp_seq ?_
        -- region 8  decimals.go:46
        refine awp_rseq [0, 1, 2, 6, 37] (by rfl) fun K hK => ?_
        simp (decide := true) only [aOps_nil, vOps_nil, fOps_nil, kOps_nil, ev, absV, absS, putD, Slots.put, Slots.get, Slots.keep, if_true, if_false, List.contains_cons, List.contains_nil, true_and, and_true, ↓ap_move, pop_move, ↓ap_len, pop_len, pLen_str Tryd.underlying9, ↓ap_max, pop_max, pMax_int, evs, List.map_cons, List.map_nil, ↓ap_binOp, pop_binOp, isNilC_int, cond_false, pBinX_int, pI_gtr]
        repeat (with_reducible refine And.intro ?_ ?_; · first | trivial | omega | (intro hg; simp only [Bool.and_eq_true, Bool.or_eq_true, Bool.not_eq_true', Bool.and_eq_false_iff, Bool.or_eq_false_iff, Bool.not_eq_false', decide_eq_true_eq, decide_eq_false_iff_not, eqNil] at hg; omega) )
        apply hK; clear hK K
        refine awp_cond (b := _) rfl (fun hb4 => ?_) (fun hb4 => ?_)
        · try simp only [decide_eq_true_eq, decide_eq_false_iff_not, Bool.not_eq_true', Bool.not_eq_false', Bool.and_eq_true, Bool.and_eq_false_iff, Bool.or_eq_true, Bool.or_eq_false_iff, Bool.true_eq, Bool.false_eq, reduceCtorEq] at hb4
          -- region 9  decimals.go:47
          refine awp_rseq [6, 7] (by rfl) fun K hK => ?_
          simp (decide := true) only [aOps_nil, vOps_nil, fOps_nil, kOps_nil, ev, absV, absS, putD, Slots.put, Slots.get, Slots.keep, if_true, if_false, List.contains_cons, List.contains_nil, true_and, and_true, ↓ap_build, pop_build, ↓pop_buildL, bld32_, evP, List.map_cons, List.map_nil, Sc_slice, Sc_nilSlice, Sc_nilPtr, Sc_ptr, Sc_nilFunc, Sc_func, Sc_nilMap]
          repeat (with_reducible refine And.intro ?_ ?_; · first | trivial | omega | (intro hg; simp only [Bool.and_eq_true, Bool.or_eq_true, Bool.not_eq_true', Bool.and_eq_false_iff, Bool.or_eq_false_iff, Bool.not_eq_false', decide_eq_true_eq, decide_eq_false_iff_not, eqNil] at hg; omega) )
          refine aOps_store (by rfl) (by rfl) (AHeap.set_same _ _ _) sz32 (by rfl) (by rfl) (by first | exact Nat.le_refl _ | decide | (simp; done) | (simp; omega)) (Nat.zero_le _) (by rfl) ?_
          simp only [AHeap.set_set, setAt, AVal.cells, List.set_cons_zero, List.set_cons_succ, Nat.zero_add, Nat.reduceAdd]
          simp (decide := true) only [aOps_nil, vOps_nil, fOps_nil, kOps_nil, ev, absV, absS, putD, Slots.put, Slots.get, Slots.keep, if_true, if_false, List.contains_cons, List.contains_nil, true_and, and_true, ↓ap_assign, pop_assign]
          repeat (with_reducible refine And.intro ?_ ?_; · first | trivial | omega | (intro hg; simp only [Bool.and_eq_true, Bool.or_eq_true, Bool.not_eq_true', Bool.and_eq_false_iff, Bool.or_eq_false_iff, Bool.not_eq_false', decide_eq_true_eq, decide_eq_false_iff_not, eqNil] at hg; omega) )
          apply hK; clear hK K
          refine awp_ret ?_
          try simp only [thenA_ret, inBlockA_ret]
          refine retA_ret h (Sub.set hk0q0) (?_) ?_
          · simp (decide := true) only [resPre, resV_tmp, resV_cell, aOps_nil, ev, Slots.get, if_true, if_false, and_true, true_and, AHeap.set_same, resV_tmp, resV_cell, pLoad_agg ag32 sz32, rd_set, cellsAt, List.getD_cons_zero, List.getD_cons_succ, Nat.zero_add, Nat.reduceAdd, setAt, List.set_cons_zero, List.set_cons_succ, AVal.cells, lv_bool, lv_int, lv_str, lv_nilPtr, lv_ptr, lv_nilSlice, lv_slice, lv_nilFunc, lv_func, lv_nilIface, lv_iface, lv_nilMap, lv_agg, lv_tuple, allLive, Bool.and_true, Bool.true_and, rd_any]
          
          simp (decide := true) only [aOps_nil, vOps_nil, fOps_nil, kOps_nil, ev, absV, absS, putD, Slots.put, Slots.get, Slots.keep, if_true, if_false, List.contains_cons, List.contains_nil, true_and, and_true, resOfG_two, resV_tmp, resV_cell, pLoad_agg ag32 sz32, rd_set, cellsAt, List.getD_cons_zero, List.getD_cons_succ, Nat.zero_add, Nat.reduceAdd, setAt, List.set_cons_zero, List.set_cons_succ, AVal.cells, lv_bool, lv_int, lv_str, lv_nilPtr, lv_ptr, lv_nilSlice, lv_slice, lv_nilFunc, lv_func, lv_nilIface, lv_iface, lv_nilMap, lv_agg, lv_tuple, allLive, Bool.and_true, Bool.true_and, rd_any]
          have hc := norm_final neg hn hneg hpos (by omega)
          rw [if_pos hb3] at hc
          rw [decDigits_zeros (by omega)] at hb4
          rw [normE, hc, resE_long (by simp only [long]; omega)]
          rfl
        · try simp only [decide_eq_true_eq, decide_eq_false_iff_not, Bool.not_eq_true', Bool.not_eq_false', Bool.and_eq_true, Bool.and_eq_false_iff, Bool.or_eq_true, Bool.or_eq_false_iff, Bool.true_eq, Bool.false_eq, reduceCtorEq] at hb4
          refine awp_skip ?_
          change Awp _ _ _ _ _ _ _
          -- region 10  decimals.go:49
          refine awp_rseq [6, 7] (by rfl) fun K hK => ?_
          simp (decide := true) only [aOps_nil, vOps_nil, fOps_nil, kOps_nil, ev, absV, absS, putD, Slots.put, Slots.get, Slots.keep, if_true, if_false, List.contains_cons, List.contains_nil, true_and, and_true, ↓ap_move, pop_move, ↓ap_build, pop_build, ↓pop_buildL, bld32_0_1_2, evP, List.map_cons, List.map_nil, Sc_slice, Sc_nilSlice, Sc_nilPtr, Sc_ptr, Sc_nilFunc, Sc_func, Sc_nilMap]
          repeat (with_reducible refine And.intro ?_ ?_; · first | trivial | omega | (intro hg; simp only [Bool.and_eq_true, Bool.or_eq_true, Bool.not_eq_true', Bool.and_eq_false_iff, Bool.or_eq_false_iff, Bool.not_eq_false', decide_eq_true_eq, decide_eq_false_iff_not, eqNil] at hg; omega) )
          refine aOps_store (by rfl) (by rfl) (AHeap.set_same _ _ _) sz32 (by rfl) (by rfl) (by first | exact Nat.le_refl _ | decide | (simp; done) | (simp; omega)) (Nat.zero_le _) (by rfl) ?_
          simp only [AHeap.set_set, setAt, AVal.cells, List.set_cons_zero, List.set_cons_succ, Nat.zero_add, Nat.reduceAdd]
          simp (decide := true) only [aOps_nil, vOps_nil, fOps_nil, kOps_nil, ev, absV, absS, putD, Slots.put, Slots.get, Slots.keep, if_true, if_false, List.contains_cons, List.contains_nil, true_and, and_true, ↓ap_assign, pop_assign]
          repeat (with_reducible refine And.intro ?_ ?_; · first | trivial | omega | (intro hg; simp only [Bool.and_eq_true, Bool.or_eq_true, Bool.not_eq_true', Bool.and_eq_false_iff, Bool.or_eq_false_iff, Bool.not_eq_false', decide_eq_true_eq, decide_eq_false_iff_not, eqNil] at hg; omega) )
          apply hK; clear hK K
          refine awp_ret ?_
          try simp only [thenA_ret, inBlockA_ret]
          refine retA_ret h (Sub.set hk0q0) (?_) ?_
          · simp (decide := true) only [resPre, resV_tmp, resV_cell, aOps_nil, ev, Slots.get, if_true, if_false, and_true, true_and, AHeap.set_same, resV_tmp, resV_cell, pLoad_agg ag32 sz32, rd_set, cellsAt, List.getD_cons_zero, List.getD_cons_succ, Nat.zero_add, Nat.reduceAdd, setAt, List.set_cons_zero, List.set_cons_succ, AVal.cells, lv_bool, lv_int, lv_str, lv_nilPtr, lv_ptr, lv_nilSlice, lv_slice, lv_nilFunc, lv_func, lv_nilIface, lv_iface, lv_nilMap, lv_agg, lv_tuple, allLive, Bool.and_true, Bool.true_and, rd_any]
          
          simp (decide := true) only [aOps_nil, vOps_nil, fOps_nil, kOps_nil, ev, absV, absS, putD, Slots.put, Slots.get, Slots.keep, if_true, if_false, List.contains_cons, List.contains_nil, true_and, and_true, resOfG_two, resV_tmp, resV_cell, pLoad_agg ag32 sz32, rd_set, cellsAt, List.getD_cons_zero, List.getD_cons_succ, Nat.zero_add, Nat.reduceAdd, setAt, List.set_cons_zero, List.set_cons_succ, AVal.cells, lv_bool, lv_int, lv_str, lv_nilPtr, lv_ptr, lv_nilSlice, lv_slice, lv_nilFunc, lv_func, lv_nilIface, lv_iface, lv_nilMap, lv_agg, lv_tuple, allLive, Bool.and_true, Bool.true_and, rd_any]
          have hc := norm_final neg hn hneg hpos (by omega)
          rw [if_pos hb3] at hc
          rw [decDigits_zeros (by omega)] at hb4 ⊢
          rw [normE, hc, resE_ok (by simp only [long]; omega)]
          rfl
      · try simp only [decide_eq_true_eq, decide_eq_false_iff_not, Bool.not_eq_true', Bool.not_eq_false', Bool.and_eq_true, Bool.and_eq_false_iff, Bool.or_eq_true, Bool.or_eq_false_iff, Bool.true_eq, Bool.false_eq, reduceCtorEq] at hb3
        refine awp_skip ?_
        change Awp _ _ _ _ _ _ _
        refine awp_seq ?_
        -- region 8  decimals.go:46
        refine awp_rseq [0, 1, 2, 6, 37] (by rfl) fun K hK => ?_
        simp (decide := true) only [aOps_nil, vOps_nil, fOps_nil, kOps_nil, ev, absV, absS, putD, Slots.put, Slots.get, Slots.keep, if_true, if_false, List.contains_cons, List.contains_nil, true_and, and_true, ↓ap_move, pop_move, ↓ap_len, pop_len, pLen_str Tryd.underlying9, ↓ap_max, pop_max, pMax_int, evs, List.map_cons, List.map_nil, ↓ap_binOp, pop_binOp, isNilC_int, cond_false, pBinX_int, pI_gtr]
        repeat (with_reducible refine And.intro ?_ ?_; · first | trivial | omega | (intro hg; simp only [Bool.and_eq_true, Bool.or_eq_true, Bool.not_eq_true', Bool.and_eq_false_iff, Bool.or_eq_false_iff, Bool.not_eq_false', decide_eq_true_eq, decide_eq_false_iff_not, eqNil] at hg; omega) )
        apply hK; clear hK K
        refine awp_cond (b := _) rfl (fun hb5 => ?_) (fun hb5 => ?_)
        · try simp only [decide_eq_true_eq, decide_eq_false_iff_not, Bool.not_eq_true', Bool.not_eq_false', Bool.and_eq_true, Bool.and_eq_false_iff, Bool.or_eq_true, Bool.or_eq_false_iff, Bool.true_eq, Bool.false_eq, reduceCtorEq] at hb5
          -- region 9  decimals.go:47
          refine awp_rseq [6, 7] (by rfl) fun K hK => ?_
          simp (decide := true) only [aOps_nil, vOps_nil, fOps_nil, kOps_nil, ev, absV, absS, putD, Slots.put, Slots.get, Slots.keep, if_true, if_false, List.contains_cons, List.contains_nil, true_and, and_true, ↓ap_build, pop_build, ↓pop_buildL, bld32_, evP, List.map_cons, List.map_nil, Sc_slice, Sc_nilSlice, Sc_nilPtr, Sc_ptr, Sc_nilFunc, Sc_func, Sc_nilMap]
          repeat (with_reducible refine And.intro ?_ ?_; · first | trivial | omega | (intro hg; simp only [Bool.and_eq_true, Bool.or_eq_true, Bool.not_eq_true', Bool.and_eq_false_iff, Bool.or_eq_false_iff, Bool.not_eq_false', decide_eq_true_eq, decide_eq_false_iff_not, eqNil] at hg; omega) )
          refine aOps_store (by rfl) (by rfl) (AHeap.set_same _ _ _) sz32 (by rfl) (by rfl) (by first | exact Nat.le_refl _ | decide | (simp; done) | (simp; omega)) (Nat.zero_le _) (by rfl) ?_
          simp only [AHeap.set_set, setAt, AVal.cells, List.set_cons_zero, List.set_cons_succ, Nat.zero_add, Nat.reduceAdd]
          simp (decide := true) only [aOps_nil, vOps_nil, fOps_nil, kOps_nil, ev, absV, absS, putD, Slots.put, Slots.get, Slots.keep, if_true, if_false, List.contains_cons, List.contains_nil, true_and, and_true, ↓ap_assign, pop_assign]
          repeat (with_reducible refine And.intro ?_ ?_; · first | trivial | omega | (intro hg; simp only [Bool.and_eq_true, Bool.or_eq_true, Bool.not_eq_true', Bool.and_eq_false_iff, Bool.or_eq_false_iff, Bool.not_eq_false', decide_eq_true_eq, decide_eq_false_iff_not, eqNil] at hg; omega) )
          apply hK; clear hK K
          refine awp_ret ?_
          try simp only [thenA_ret, inBlockA_ret]
          refine retA_ret h (Sub.set hk0q0) (?_) ?_
          · simp (decide := true) only [resPre, resV_tmp, resV_cell, aOps_nil, ev, Slots.get, if_true, if_false, and_true, true_and, AHeap.set_same, resV_tmp, resV_cell, pLoad_agg ag32 sz32, rd_set, cellsAt, List.getD_cons_zero, List.getD_cons_succ, Nat.zero_add, Nat.reduceAdd, setAt, List.set_cons_zero, List.set_cons_succ, AVal.cells, lv_bool, lv_int, lv_str, lv_nilPtr, lv_ptr, lv_nilSlice, lv_slice, lv_nilFunc, lv_func, lv_nilIface, lv_iface, lv_nilMap, lv_agg, lv_tuple, allLive, Bool.and_true, Bool.true_and, rd_any]
          
          simp (decide := true) only [aOps_nil, vOps_nil, fOps_nil, kOps_nil, ev, absV, absS, putD, Slots.put, Slots.get, Slots.keep, if_true, if_false, List.contains_cons, List.contains_nil, true_and, and_true, resOfG_two, resV_tmp, resV_cell, pLoad_agg ag32 sz32, rd_set, cellsAt, List.getD_cons_zero, List.getD_cons_succ, Nat.zero_add, Nat.reduceAdd, setAt, List.set_cons_zero, List.set_cons_succ, AVal.cells, lv_bool, lv_int, lv_str, lv_nilPtr, lv_ptr, lv_nilSlice, lv_slice, lv_nilFunc, lv_func, lv_nilIface, lv_iface, lv_nilMap, lv_agg, lv_tuple, allLive, Bool.and_true, Bool.true_and, rd_any]
          have hc := norm_final neg hn hneg hpos (by omega)
          rw [if_neg hb3] at hc
          rw [normE, hc, resE_long (by simp only [long]; omega)]
          rfl
        · try simp only [decide_eq_true_eq, decide_eq_false_iff_not, Bool.not_eq_true', Bool.not_eq_false', Bool.and_eq_true, Bool.and_eq_false_iff, Bool.or_eq_true, Bool.or_eq_false_iff, Bool.true_eq, Bool.false_eq, reduceCtorEq] at hb5
          refine awp_skip ?_
          change Awp _ _ _ _ _ _ _
          -- region 10  decimals.go:49
          refine awp_rseq [6, 7] (by rfl) fun K hK => ?_
          simp (decide := true) only [aOps_nil, vOps_nil, fOps_nil, kOps_nil, ev, absV, absS, putD, Slots.put, Slots.get, Slots.keep, if_true, if_false, List.contains_cons, List.contains_nil, true_and, and_true, ↓ap_move, pop_move, ↓ap_build, pop_build, ↓pop_buildL, bld32_0_1_2, evP, List.map_cons, List.map_nil, Sc_slice, Sc_nilSlice, Sc_nilPtr, Sc_ptr, Sc_nilFunc, Sc_func, Sc_nilMap]
          repeat (with_reducible refine And.intro ?_ ?_; · first | trivial | omega | (intro hg; simp only [Bool.and_eq_true, Bool.or_eq_true, Bool.not_eq_true', Bool.and_eq_false_iff, Bool.or_eq_false_iff, Bool.not_eq_false', decide_eq_true_eq, decide_eq_false_iff_not, eqNil] at hg; omega) )
          refine aOps_store (by rfl) (by rfl) (AHeap.set_same _ _ _) sz32 (by rfl) (by rfl) (by first | exact Nat.le_refl _ | decide | (simp; done) | (simp; omega)) (Nat.zero_le _) (by rfl) ?_
          simp only [AHeap.set_set, setAt, AVal.cells, List.set_cons_zero, List.set_cons_succ, Nat.zero_add, Nat.reduceAdd]
          simp (decide := true) only [aOps_nil, vOps_nil, fOps_nil, kOps_nil, ev, absV, absS, putD, Slots.put, Slots.get, Slots.keep, if_true, if_false, List.contains_cons, List.contains_nil, true_and, and_true, ↓ap_assign, pop_assign]
          repeat (with_reducible refine And.intro ?_ ?_; · first | trivial | omega | (intro hg; simp only [Bool.and_eq_true, Bool.or_eq_true, Bool.not_eq_true', Bool.and_eq_false_iff, Bool.or_eq_false_iff, Bool.not_eq_false', decide_eq_true_eq, decide_eq_false_iff_not, eqNil] at hg; omega) )
          apply hK; clear hK K
          refine awp_ret ?_
          try simp only [thenA_ret, inBlockA_ret]
          refine retA_ret h (Sub.set hk0q0) (?_) ?_
          · simp (decide := true) only [resPre, resV_tmp, resV_cell, aOps_nil, ev, Slots.get, if_true, if_false, and_true, true_and, AHeap.set_same, resV_tmp, resV_cell, pLoad_agg ag32 sz32, rd_set, cellsAt, List.getD_cons_zero, List.getD_cons_succ, Nat.zero_add, Nat.reduceAdd, setAt, List.set_cons_zero, List.set_cons_succ, AVal.cells, lv_bool, lv_int, lv_str, lv_nilPtr, lv_ptr, lv_nilSlice, lv_slice, lv_nilFunc, lv_func, lv_nilIface, lv_iface, lv_nilMap, lv_agg, lv_tuple, allLive, Bool.and_true, Bool.true_and, rd_any]
          
          simp (decide := true) only [aOps_nil, vOps_nil, fOps_nil, kOps_nil, ev, absV, absS, putD, Slots.put, Slots.get, Slots.keep, if_true, if_false, List.contains_cons, List.contains_nil, true_and, and_true, resOfG_two, resV_tmp, resV_cell, pLoad_agg ag32 sz32, rd_set, cellsAt, List.getD_cons_zero, List.getD_cons_succ, Nat.zero_add, Nat.reduceAdd, setAt, List.set_cons_zero, List.set_cons_succ, AVal.cells, lv_bool, lv_int, lv_str, lv_nilPtr, lv_ptr, lv_nilSlice, lv_slice, lv_nilFunc, lv_func, lv_nilIface, lv_iface, lv_nilMap, lv_agg, lv_tuple, allLive, Bool.and_true, Bool.true_and, rd_any]
          have hc := norm_final neg hn hneg hpos (by omega)
          rw [if_neg hb3] at hc
          rw [normE, hc, resE_ok (by simp only [long]; omega)]
          rfl
end Go.Proofs.YteagjfcmhmmljaaDoor

