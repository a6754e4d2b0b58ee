/-
  An assertion layer over the model's wp, part H: the operations of a statement one behind the other, statements, loops, functions.
  Conditions: none. Nothing here is about a particular program.
-/
import Derived.Test.YthiiakghjoeikaaGreatDoorAmG
set_option linter.unusedSimpArgs false
set_option linter.unnecessarySimpa false
set_option linter.unusedVariables false
namespace Go.AM
open Go.RowKit (Below)

/-! ### The operations of a statement, in the order of the text -/
def nthDst : List Oper → Nat → Option Tmp
  | [], _ => none
  | o :: _, 0 => o.dst
  | _ :: r, j + 1 => nthDst r j

theorem nthDst_eq : ∀ (l : List Oper) (j : Nat), nthDst l j = (l[j]?).bind (·.dst)
  | [], j => by simp [nthDst]
  | o :: r, 0 => by simp [nthDst]
  | o :: r, j + 1 => by simp [nthDst, nthDst_eq r j]

def putD (s : Slots) : Option Tmp → AVal → Slots
  | none, _ => s
  | some d, x => s.put d x

def guardB : AVal → Bool → Bool
  | .bool b, want => b == want
  | _, _ => false

def gKnown : AVal → Bool
  | .bool _ => true
  | .tuple [] => true
  | _ => false

def condV (g : Bool) (v : AVal) : AVal := bif g then v else .tuple []

def pureOp (P : Program) : Op → Bool
  | .alloc _ => false
  | .box _ _ => false
  | .buildSlice _ _ _ => false
  | .store _ _ _ => false
  | .makeSlice _ _ _ => false
  | .convert src dst _ => !eStrBytes P src dst && !eSame P src dst
  | .call c => match c.callee with
    | .builtin .append => false
    | .builtin .copy => false
    | .builtin _ => true
    | _ => false
  | _ => true

theorem eop_pure {P : Program} {w₀ : World} {h : AHeap} {s : Slots} {op : Op} {K : AVal → AHeap → Prop} (hp : pureOp P op = true) : eop P w₀ h s op K ↔ (pop P w₀ h s op).pre ∧ K (pop P w₀ h s op).val h := by
  cases op <;> simp only [pureOp] at hp <;> first
    | (cases hp; done)
    | exact Iff.rfl
    | skip
  case convert src dst x =>
    simp only [Bool.and_eq_true, Bool.not_eq_true'] at hp
    simp only [eop, hp.1, hp.2, Bool.false_eq_true, if_false]
    split <;> exact Iff.rfl
  case call c =>
    obtain ⟨callee, args, ts⟩ := c
    cases callee with
    | value f => simp at hp
    | invoke r m => simp [eop]
    | builtin b => cases b <;> first | (simp at hp; done) | exact Iff.rfl

def aOps (P : Program) (w₀ : World) (ops : List Oper) : List Oper → Slots → AHeap → (Slots → AHeap → Prop) → Prop
  | [], s, h, K => K s h
  | o :: rest, s, h, K =>
    match o.guard with
    | none => eop P w₀ h s o.op fun x h' => aOps P w₀ ops rest (putD s o.dst x) h' K
    | some (j, want) => match nthDst ops j with
      | none => aOps P w₀ ops rest (putD s o.dst (.tuple [])) h K
      | some d => gKnown (s.get d) = true ∧
        if pureOp P o.op = true then
          (guardB (s.get d) want = true → (pop P w₀ h s o.op).pre) ∧ aOps P w₀ ops rest (putD s o.dst (condV (guardB (s.get d) want) (pop P w₀ h s o.op).val)) h K
        else
          (guardB (s.get d) want = true → eop P w₀ h s o.op fun x h' => aOps P w₀ ops rest (putD s o.dst x) h' K) ∧
          (guardB (s.get d) want = false → aOps P w₀ ops rest (putD s o.dst (.tuple [])) h K)

def dstsOk (n : Nat) : List Oper → Bool
  | [] => true
  | o :: r => (match o.dst with | some d => decide (d < n) | none => true) && dstsOk n r

theorem SRel.putD {φ : PMap} {n : Nat} {s : Slots} {a : Act} (h : SRel φ n s a) {d : Option Tmp} (hd : (match d with | some d => decide (d < n) | none => true) = true) {x : AVal} {v : Value} (hv : VR φ x v) :
    SRel φ n (putD s d x) (a.put d v) := by
  cases d with
  | none => exact h
  | some d => exact h.put d (by simpa using hd) hv

theorem guard_ok {φ : PMap} {n : Nat} {s : Slots} {a : Act} (hs : SRel φ n s a) (ops : List Oper) (j d : Nat) (hd : nthDst ops j = some d) (hn : d < n) (hk : gKnown (s.get d) = true) (want : Bool) :
    (yielded ops.toArray a.tmps j == some want) = guardB (s.get d) want := by
  have hv := hs.val d
  have hdst : ((ops.toArray[j]?).bind (·.dst)) = some d := by
    rw [← hd, nthDst_eq]
    simp
  have hget : a.tmps[d]? = some (a.tmps.getD d undef) := by
    have : d < a.tmps.size := by rw [hs.size]; exact hn
    simp [this]
  unfold yielded
  rw [hdst]
  simp only [Option.bind_some, hget]
  generalize a.tmps.getD d undef = v at hv
  unfold gKnown at hk
  split at hk
  · rename_i b hb
    rw [hb] at hv ⊢
    simp only [VR] at hv
    subst hv
    simp only [guardB]
    cases b <;> cases want <;> rfl
  · rename_i hb
    rw [hb] at hv ⊢
    simp only [VR, VRs] at hv
    obtain ⟨vs, rfl, rfl⟩ := hv
    simp [guardB]
  · cases hk

theorem aOps_ok {P : Program} {w₀ : World} (ops : List Oper) (n : Nat) (hall : dstsOk n ops = true) : ∀ (l : List Oper) (i : Nat) (φ : PMap) (s : Slots) (h : AHeap) (a : Act) (w : World) (K : Slots → AHeap → Prop) (Q : Exit → Act → World → Prop),
    (∀ j, l[j]? = ops[i + j]?) → dstsOk n l = true → aOps P w₀ ops l s h K → HRel w₀ φ h w → SRel φ n s a →
    (∀ ψ s' h' a' w', φ.le ψ → HRel w₀ ψ h' w' → SRel ψ n s' a' → K s' h' → Q .normal a' w') → wpOps P ops.toArray Q (List.range' i l.length) a w
  | [], i, φ, s, h, a, w, K, Q, _, _, ha, hr, hs, hq => hq φ s h a w φ.le_refl hr hs ha
  | o :: l, i, φ, s, h, a, w, K, Q, hl, hd, ha, hr, hs, hq => by
    have ho : ops.toArray[i]? = some o := by
      have := hl 0
      simp only [List.getElem?_cons_zero, Nat.add_zero] at this
      simp [← this]
    simp only [dstsOk, Bool.and_eq_true] at hd
    have hrest : ∀ j, l[j]? = ops[i + 1 + j]? := fun j => by
      have := hl (j + 1)
      simp only [List.getElem?_cons_succ] at this
      rw [this]
      congr 1
      omega
    have ih := fun φ s h a w Q => aOps_ok (P := P) (w₀ := w₀) ops n hall l (i + 1) φ s h a w K Q hrest hd.2
    have run : ∀ (K' : AVal → AHeap → Prop), eop P w₀ h s o.op K' → (∀ x h', K' x h' → aOps P w₀ ops l (putD s o.dst x) h' K) → o.wp P a w (wpOps P ops.toArray Q (List.range' (i + 1) l.length)) Q := fun K' he hk =>
      eop_ok o he hr hs fun ψ x h' v w' e1 e2 e3 e4 => ih ψ _ h' _ w' Q (hk x h' e4) e2 ((hs.mono e1).putD hd.1 e3) fun χ s' h'' a' w'' f1 f2 f3 f4 => hq χ s' h'' a' w'' (PMap.le_trans e1 f1) f2 f3 f4
    have skip : aOps P w₀ ops l (putD s o.dst (.tuple [])) h K → wpOps P ops.toArray Q (List.range' (i + 1) l.length) (a.put o.dst undef) w := fun hk =>
      ih φ _ h _ w Q hk hr (hs.putD hd.1 (VR_undef φ)) hq
    simp only [List.length_cons, List.range'_succ, wpOps, ho]
    simp only [aOps] at ha
    cases hg : o.guard with
    | none =>
      simp only [hg] at ha
      have hw : Region.wanted o (yielded ops.toArray a.tmps) = true := by simp [Region.wanted, hg]
      rw [if_pos hw]
      exact .inl (run _ ha fun _ _ hk => hk)
    | some gw =>
      obtain ⟨j, want⟩ := gw
      simp only [hg] at ha
      have hwanted : Region.wanted o (yielded ops.toArray a.tmps) = (yielded ops.toArray a.tmps j == some want) := by simp [Region.wanted, hg]
      cases hj : nthDst ops j with
      | none =>
        simp only [hj] at ha
        have hn : (ops.toArray[j]?).bind (·.dst) = none := by
          rw [← hj, nthDst_eq]
          simp
        have hw : Region.wanted o (yielded ops.toArray a.tmps) = false := by
          rw [hwanted]
          simp only [yielded, hn]
          rfl
        rw [if_neg (by simp [hw])]
        exact skip ha
      | some d =>
        simp only [hj] at ha
        obtain ⟨hk, ha⟩ := ha
        have hdn : d < n := by
          have : ∀ (l : List Oper) (j d : Nat), dstsOk n l = true → nthDst l j = some d → d < n := by
            intro l
            induction l with
            | nil => intro j d _ h; simp [nthDst] at h
            | cons o r ih =>
              intro j d h1 h2
              simp only [dstsOk, Bool.and_eq_true] at h1
              cases j with
              | zero => simp only [nthDst] at h2; rw [h2] at h1; simpa using h1.1
              | succ j => exact ih j d h1.2 h2
          exact this ops j d hall hj
        have hgd := guard_ok hs ops j d hj hdn hk want
        rw [hwanted, hgd]
        split at ha
        · rename_i hp
          obtain ⟨h1, h2⟩ := ha
          cases hb : guardB (s.get d) want with
          | true =>
            simp only [hb, condV, cond_true] at h2
            simp only [if_true]
            exact .inl (run (fun x h' => x = (pop P w₀ h s o.op).val ∧ h' = h) ((eop_pure hp).2 ⟨h1 hb, rfl, rfl⟩) fun x h' ⟨e1, e2⟩ => by subst e1 e2; exact h2)
          | false =>
            simp only [hb, condV, cond_false] at h2
            simp only [Bool.false_eq_true, if_false]
            exact skip h2
        · obtain ⟨h1, h2⟩ := ha
          cases hb : guardB (s.get d) want with
          | true =>
            simp only [if_true]
            exact .inl (run _ (h1 hb) fun _ _ hk => hk)
          | false =>
            simp only [Bool.false_eq_true, if_false]
            exact skip (h2 hb)

/-! ### Statements -/
def Awp (P : Program) (w₀ : World) (n : Nat) (c : Code) (Q : Exit → Slots → AHeap → Prop) (s : Slots) (h : AHeap) : Prop :=
  ∀ (φ : PMap) (a : Act) (w : World), HRel w₀ φ h w → SRel φ n s a →
    c.wp P (fun e a' w' => ∃ ψ s' h', φ.le ψ ∧ HRel w₀ ψ h' w' ∧ SRel ψ n s' a' ∧ Q e s' h') a w

section
variable {P : Program} {w₀ : World} {n : Nat} {s : Slots} {h : AHeap} {Q : Exit → Slots → AHeap → Prop}

theorem Awp.mono {c : Code} {Q' : Exit → Slots → AHeap → Prop} (hc : Awp P w₀ n c Q s h) (hq : ∀ e s h, Q e s h → Q' e s h) : Awp P w₀ n c Q' s h :=
  fun φ a w hr hs => wp_mono (hc φ a w hr hs) fun _ _ _ ⟨ψ, s', h', e1, e2, e3, e4⟩ => ⟨ψ, s', h', e1, e2, e3, hq _ _ _ e4⟩

/-- Slots and blocks may be forgotten. -/
theorem Awp.weaken {c : Code} {s' : Slots} (hs' : ∀ i, s'.get i = s.get i ∨ s'.get i = .dead) (hc : Awp P w₀ n c Q s' h) : Awp P w₀ n c Q s h :=
  fun φ a w hr hs => hc φ a w hr ⟨hs.size, hs.defers, fun i => by
    rcases hs' i with e | e
    · rw [e]; exact hs.val i
    · rw [e]; simp [VR]⟩

theorem Awp.keep {c : Code} (L : List Nat) (hc : Awp P w₀ n c Q (s.keep L) h) : Awp P w₀ n c Q s h :=
  hc.weaken fun i => by
    rw [Slots.get_keep]
    split
    · exact .inl rfl
    · exact .inr rfl

theorem Awp.forget {c : Code} {h' : AHeap} (hh : ∀ k b, h' k = some b → h k = some b) (hc : Awp P w₀ n c Q s h') : Awp P w₀ n c Q s h :=
  fun φ a w hr hs => hc φ a w (hr.forget hh) hs

theorem awp_skip (hq : Q .normal s h) : Awp P w₀ n .skip Q s h := fun φ _ _ hr hs => wp_skip ⟨φ, s, h, φ.le_refl, hr, hs, hq⟩
theorem awp_label {l : Nat} (hq : Q .normal s h) : Awp P w₀ n (.label l) Q s h := fun φ _ _ hr hs => wp_label ⟨φ, s, h, φ.le_refl, hr, hs, hq⟩
theorem awp_exit {id : Nat} (hq : Q (.exit id) s h) : Awp P w₀ n (.exit id) Q s h := fun φ _ _ hr hs => wp_exit ⟨φ, s, h, φ.le_refl, hr, hs, hq⟩
theorem awp_ret (hq : Q .ret s h) : Awp P w₀ n .ret Q s h := fun φ _ _ hr hs => wp_ret ⟨φ, s, h, φ.le_refl, hr, hs, hq⟩

def thenA (K : Slots → AHeap → Prop) (Q : Exit → Slots → AHeap → Prop) : Exit → Slots → AHeap → Prop
  | .normal, s, h => K s h
  | e, s, h => Q e s h

theorem awp_seq {x y : Code} (hx : Awp P w₀ n x (thenA (Awp P w₀ n y Q) Q) s h) : Awp P w₀ n (.seq x y) Q s h :=
  fun φ a w hr hs => wp_seq (wp_mono (hx φ a w hr hs) fun e a' w' ⟨ψ, s', h', e1, e2, e3, e4⟩ => by
    cases e <;> simp only [thenA] at e4 <;> simp only [Exit.then] <;> first
      | exact ⟨ψ, s', h', e1, e2, e3, e4⟩
      | exact wp_mono (e4 ψ a' w' e2 e3) fun _ _ _ ⟨χ, s'', h'', f1, f2, f3, f4⟩ => ⟨χ, s'', h'', PMap.le_trans e1 f1, f2, f3, f4⟩)

/-- What follows stands behind a name. -/
theorem awp_seq_k {x y : Code} (hx : ∀ K : Slots → AHeap → Prop, (∀ s h, Awp P w₀ n y Q s h → K s h) → Awp P w₀ n x (thenA K Q) s h) : Awp P w₀ n (.seq x y) Q s h :=
  awp_seq (hx _ fun _ _ hk => hk)

theorem awp_cond {c : Operand} {x y : Code} {b : Bool} (hc : ev s c = .bool b) (ht : b = true → Awp P w₀ n x Q s h) (hf : b = false → Awp P w₀ n y Q s h) : Awp P w₀ n (.cond c x y) Q s h :=
  fun φ a w hr hs => by
    have hv := hs.ev c
    rw [hc] at hv
    simp only [VR] at hv
    exact wp_cond_split hv (fun e => ht e φ a w hr hs) (fun e => hf e φ a w hr hs)

def inBlockA (id : Nat) (Q : Exit → Slots → AHeap → Prop) : Exit → Slots → AHeap → Prop
  | .exit id', s, h => if id' = id then Q .normal s h else Q (.exit id') s h
  | e, s, h => Q e s h

theorem awp_block {id : Nat} {c : Code} (hc : Awp P w₀ n c (inBlockA id Q) s h) : Awp P w₀ n (.block id c) Q s h :=
  fun φ a w hr hs => wp_block (wp_mono (hc φ a w hr hs) fun e a' w' ⟨ψ, s', h', e1, e2, e3, e4⟩ => by
    cases e <;> simp only [inBlockA] at e4 <;> simp only [Exit.inBlock] <;> first
      | exact ⟨ψ, s', h', e1, e2, e3, e4⟩
      | (split at e4
         · rename_i hid; rw [if_pos hid]; exact ⟨ψ, s', h', e1, e2, e3, e4⟩
         · rename_i hid; rw [if_neg hid]; exact ⟨ψ, s', h', e1, e2, e3, e4⟩))

theorem awp_region {id : Nat} {l : List Oper} (hd : dstsOk n l = true) (hc : aOps P w₀ l l s h (fun s' h' => Q .normal s' h')) : Awp P w₀ n (.region id l.toArray false) Q s h :=
  fun φ a w hr hs => wp_region (by
    have := aOps_ok (P := P) (w₀ := w₀) l n hd l 0 φ s h a w _ (fun e a' w' => ∃ ψ s' h', φ.le ψ ∧ HRel w₀ ψ h' w' ∧ SRel ψ n s' a' ∧ Q e s' h') (fun j => by simp) hd hc hr hs
      (fun ψ s' h' a' w' e1 e2 e3 e4 => ⟨ψ, s', h', e1, e2, e3, e4⟩)
    rw [List.size_toArray, List.range_eq_range']
    exact this)

/-- A statement and what follows; of the slots only those of L are kept. -/
theorem awp_rseq {id : Nat} {l : List Oper} {y : Code} (L : List Nat) (hd : dstsOk n l = true)
    (hc : ∀ K : Slots → AHeap → Prop, (∀ s h, Awp P w₀ n y Q s h → K s h) → aOps P w₀ l l s h (fun s' h' => K (s'.keep L) h')) : Awp P w₀ n (.seq (.region id l.toArray false) y) Q s h :=
  awp_seq (awp_region hd (hc (fun s h => Awp P w₀ n y Q s h) (fun _ _ hk => hk) |> aOps_mono fun s' h' hk => Awp.keep L hk))
where
  aOps_mono {l ops : List Oper} {s : Slots} {h : AHeap} {K K' : Slots → AHeap → Prop} (hk : ∀ s h, K s h → K' s h) (ha : aOps P w₀ ops l s h K) : aOps P w₀ ops l s h K' := by
    induction l generalizing s h with
    | nil => exact hk _ _ ha
    | cons o l ih =>
      simp only [aOps] at ha ⊢
      split
      · rename_i hg
        simp only [hg] at ha
        exact eop_mono ha fun x h' => ih
      · rename_i j want hg
        simp only [hg] at ha
        split
        · rename_i hj
          simp only [hj] at ha
          exact ih ha
        · rename_i d hj
          simp only [hj] at ha
          refine ⟨ha.1, ?_⟩
          obtain ⟨_, ha⟩ := ha
          split
          · rename_i hp
            rw [if_pos hp] at ha
            exact ⟨ha.1, ih ha.2⟩
          · rename_i hp
            rw [if_neg hp] at ha
            exact ⟨fun hb => eop_mono (ha.1 hb) fun x h' => ih, fun hb => ih (ha.2 hb)⟩

theorem least_exists {p : Nat → Prop} : ∀ k, p k → ∃ j, p j ∧ ∀ i, p i → j ≤ i := by
  intro k
  induction k using Nat.strongRecOn with
  | _ k ih =>
    intro hk
    by_cases hs : ∃ i, i < k ∧ p i
    · obtain ⟨i, h1, h2⟩ := hs
      exact ih i h1 h2
    · exact ⟨k, hk, fun i hi => Nat.le_of_not_lt fun hlt => hs ⟨i, hlt, hi⟩⟩

noncomputable def leastOf (p : Nat → Prop) : Nat := open Classical in if h : ∃ j, p j ∧ ∀ i, p i → j ≤ i then Classical.choose h else 0

theorem leastOf_spec {p : Nat → Prop} (h : ∃ k, p k) : p (leastOf p) ∧ ∀ i, p i → leastOf p ≤ i := by
  obtain ⟨k, hk⟩ := h
  have h' := least_exists k hk
  unfold leastOf
  rw [dif_pos h']
  exact Classical.choose_spec h'

/-- A loop: I holds at each round's head, and m goes down. -/
theorem awp_loop {c : Code} (I : Slots → AHeap → Prop) (m : Slots → AHeap → Nat) (h0 : I s h)
    (round : ∀ s h, I s h → Awp P w₀ n c (thenA (fun s' h' => ∃ s'', (∀ i, s''.get i = s'.get i ∨ s''.get i = .dead) ∧ I s'' h' ∧ m s'' h' < m s h) Q) s h) : Awp P w₀ n (.loop c) Q s h := by
  intro φ a w hr hs
  let S : Act → World → Nat → Prop := fun a' w' k => ∃ φ' s' h', φ.le φ' ∧ HRel w₀ φ' h' w' ∧ SRel φ' n s' a' ∧ I s' h' ∧ m s' h' = k
  refine wp_loop (fun a' w' => ∃ k, S a' w' k) (fun a' w' => leastOf (S a' w')) ⟨_, φ, s, h, φ.le_refl, hr, hs, h0, rfl⟩ fun a' w' hI => ?_
  obtain ⟨⟨φ', s', h', e1, e2, e3, e4, e5⟩, hmin⟩ := leastOf_spec hI
  refine wp_mono (round s' h' e4 φ' a' w' e2 e3) fun e a1 w1 ⟨ψ, s1, h1, f1, f2, f3, f4⟩ => ?_
  cases e <;> simp only [thenA] at f4 <;> simp only [Exit.then] <;> first
    | exact ⟨ψ, s1, h1, PMap.le_trans e1 f1, f2, f3, f4⟩
    | skip
  obtain ⟨s2, hs2, hI2, hlt⟩ := f4
  have hs3 : SRel ψ n s2 a1 := ⟨f3.size, f3.defers, fun i => by
    rcases hs2 i with e | e
    · rw [e]; exact f3.val i
    · rw [e]; simp [VR]⟩
  have hS : S a1 w1 (m s2 h1) := ⟨ψ, s2, h1, PMap.le_trans e1 f1, f2, hs3, hI2, rfl⟩
  refine ⟨⟨_, hS⟩, ?_⟩
  have := (leastOf_spec ⟨_, hS⟩).2 _ hS
  omega
end

end Go.AM
