/-
  An assertion layer over the model's wp, part I: statements whose order is open; functions; how a law's proof begins.
  Conditions: none. Nothing here is about a particular program.
-/
import Derived.Test.YthiiakghjoeikaaGreatDoorAmH
import Derived.Still
import Derived.StillTail
set_option linter.unusedSimpArgs false
set_option linter.unnecessarySimpa false
set_option linter.unusedVariables false
namespace Go.AM
open Go.RowKit (Below)

section
variable {P : Program} {w₀ : World} {n : Nat} {s : Slots} {h : AHeap} {Q : Exit → Slots → AHeap → Prop}

/-! ### Statements whose order is open -/
theorem still_ok {φ : PMap} {w : World} (ops : List Oper) (hall : dstsOk n ops = true) (hr : HRel w₀ φ h w) (K : Slots → AHeap → Prop) (Q' : Act → Prop) : ∀ (hd tl : List Oper) (s : Slots) (a : Act),
    (hd.all fun o => pureOp P o.op) = true → dstsOk n hd = true → aOps P w₀ ops (hd ++ tl) s h K → SRel φ n s a → (∀ s' a', SRel φ n s' a' → aOps P w₀ ops tl s' h K → Q' a') → wpStill P ops.toArray w Q' hd a
  | [], tl, s, a, _, _, ha, hs, hq => hq s a hs ha
  | o :: hd, tl, s, a, hp, hd', ha, hs, hq => by
    simp only [List.all_cons, Bool.and_eq_true] at hp
    simp only [dstsOk, Bool.and_eq_true] at hd'
    have ih := fun s a => still_ok ops hall hr K Q' hd tl s a hp.2 hd'.2
    have run : (pop P w₀ h s o.op).pre → (∀ v, VR φ (pop P w₀ h s o.op).val v → wpStill P ops.toArray w Q' hd (a.put o.dst v)) → o.still P a w (wpStill P ops.toArray w Q' hd) := fun h1 h2 => by
      obtain ⟨r, e1, e2⟩ := pop_ok o h1 hr hs
      unfold Oper.still
      rw [e1 w (Same.refl w), Oper.stillUpon_value]
      · simpa [Oper.stillUpon] using h2 r e2
    simp only [List.cons_append, aOps] at ha
    simp only [wpStill]
    cases hg : o.guard with
    | none =>
      simp only [hg] at ha
      have hw : Region.wanted o (yielded ops.toArray a.tmps) = true := by simp [Region.wanted, hg]
      rw [if_pos hw]
      obtain ⟨h1, h2⟩ := (eop_pure hp.1).1 ha
      exact run h1 fun v hv => ih _ _ h2 (hs.putD hd'.1 hv) hq
    | some gw =>
      obtain ⟨j, want⟩ := gw
      simp only [hg] at ha
      have hwanted : Region.wanted o (yielded ops.toArray a.tmps) = (yielded ops.toArray a.tmps j == some want) := by simp [Region.wanted, hg]
      cases hj : nthDst ops j with
      | none =>
        simp only [hj] at ha
        have hn : (ops.toArray[j]?).bind (·.dst) = none := by
          rw [← hj, nthDst_eq]
          simp
        have hw : Region.wanted o (yielded ops.toArray a.tmps) = false := by
          rw [hwanted]
          simp only [yielded, hn]
          rfl
        rw [if_neg (by simp [hw])]
        exact ih _ _ ha (hs.putD hd'.1 (VR_undef φ)) hq
      | some d =>
        simp only [hj] at ha
        obtain ⟨hk, ha⟩ := ha
        have hdn : d < n := by
          have : ∀ (l : List Oper) (j d : Nat), dstsOk n l = true → nthDst l j = some d → d < n := by
            intro l
            induction l with
            | nil => intro j d _ h; simp [nthDst] at h
            | cons o r ih =>
              intro j d h1 h2
              simp only [dstsOk, Bool.and_eq_true] at h1
              cases j with
              | zero => simp only [nthDst] at h2; rw [h2] at h1; simpa using h1.1
              | succ j => exact ih j d h1.2 h2
          exact this ops j d hall hj
        have hgd := guard_ok hs ops j d hj hdn hk want
        rw [hwanted, hgd]
        rw [if_pos hp.1] at ha
        obtain ⟨h1, h2⟩ := ha
        cases hb : guardB (s.get d) want with
        | true =>
          simp only [hb, condV, cond_true] at h2
          simp only [if_true]
          exact run (h1 hb) fun v hv => ih _ _ h2 (hs.putD hd'.1 hv) hq
        | false =>
          simp only [hb, condV, cond_false] at h2
          simp only [Bool.false_eq_true, if_false]
          exact ih _ _ h2 (hs.putD hd'.1 (VR_undef φ)) hq

theorem awp_draw_all {id : Nat} {l : List Oper} (hm : P.follows .mixedOrders = true) (hB : Region.lexB .any l.toArray = true) (hp : (l.all fun o => pureOp P o.op) = true) (hd : dstsOk n l = true)
    (hc : aOps P w₀ l l s h (fun s' h' => Q .normal s' h')) : Awp P w₀ n (.region id l.toArray true) Q s h :=
  fun φ a w hr hs => wp_region_still (w := w) hm hB (by
    refine still_ok (w := w.drew) l hd hr.drew (fun s' h' => Q .normal s' h') _ l [] s a hp hd (by simpa using hc) hs fun s' _ hs' hk => ?_
    exact ⟨φ, s', h, φ.le_refl, hr.drew, hs', hk⟩)

theorem awp_draw_tail {id : Nat} {l : List Oper} (m : Nat) (hm : P.follows .mixedOrders = true) (hB : Region.lexTailB .any l.toArray m = true) (hp : ((l.take m).all fun o => pureOp P o.op) = true) (hd : dstsOk n l = true)
    (hc : aOps P w₀ l l s h (fun s' h' => Q .normal s' h')) : Awp P w₀ n (.region id l.toArray true) Q s h :=
  fun φ a w hr hs => wp_region_still_tail (w := w) m hm hB (by
    have dtake : ∀ (l : List Oper) (m : Nat), dstsOk n l = true → dstsOk n (l.take m) = true ∧ dstsOk n (l.drop m) = true := by
      intro l
      induction l with
      | nil => intro m _; simp [dstsOk]
      | cons o r ih =>
        intro m h
        cases m with
        | zero => exact ⟨by simp [dstsOk], by simpa using h⟩
        | succ m =>
          simp only [dstsOk, Bool.and_eq_true] at h
          obtain ⟨h1, h2⟩ := ih m h.2
          exact ⟨by simp only [List.take_succ_cons, dstsOk, Bool.and_eq_true]; exact ⟨h.1, h1⟩, by simpa using h2⟩
    refine still_ok (w := w.drew) l hd hr.drew (fun s' h' => Q .normal s' h') _ (l.take m) (l.drop m) s a hp (dtake l m hd).1 (by simpa using hc) hs fun s' a' hs' hk => ?_
    have := aOps_ok (P := P) (w₀ := w₀) l n hd (l.drop m) m φ s' h a' w.drew _ (fun e a' w' => ∃ ψ s' h', φ.le ψ ∧ HRel w₀ ψ h' w' ∧ SRel ψ n s' a' ∧ Q e s' h') (fun j => by simp [List.getElem?_drop]) (dtake l m hd).2 hk hr.drew hs'
      (fun ψ s' h' a' w' e1 e2 e3 e4 => ⟨ψ, s', h', e1, e2, e3, e4⟩)
    rw [wpOps_eq_wpList (l.drop m) m (fun j => by simp [List.getElem?_drop])] at this
    exact this)

theorem awp_dseq_all {id : Nat} {l : List Oper} {y : Code} (L : List Nat) (hm : P.follows .mixedOrders = true) (hB : Region.lexB .any l.toArray = true) (hp : (l.all fun o => pureOp P o.op) = true) (hd : dstsOk n l = true)
    (hc : ∀ K : Slots → AHeap → Prop, (∀ s h, Awp P w₀ n y Q s h → K s h) → aOps P w₀ l l s h (fun s' h' => K (s'.keep L) h')) : Awp P w₀ n (.seq (.region id l.toArray true) y) Q s h :=
  awp_seq (awp_draw_all hm hB hp hd (hc (fun s h => Awp P w₀ n y Q s h) (fun _ _ hk => hk) |> awp_rseq.aOps_mono fun _ _ hk => Awp.keep L hk))

theorem awp_dseq_tail {id : Nat} {l : List Oper} {y : Code} (m : Nat) (L : List Nat) (hm : P.follows .mixedOrders = true) (hB : Region.lexTailB .any l.toArray m = true) (hp : ((l.take m).all fun o => pureOp P o.op) = true) (hd : dstsOk n l = true)
    (hc : ∀ K : Slots → AHeap → Prop, (∀ s h, Awp P w₀ n y Q s h → K s h) → aOps P w₀ l l s h (fun s' h' => K (s'.keep L) h')) : Awp P w₀ n (.seq (.region id l.toArray true) y) Q s h :=
  awp_seq (awp_draw_tail m hm hB hp hd (hc (fun s h => Awp P w₀ n y Q s h) (fun _ _ hk => hk) |> awp_rseq.aOps_mono fun _ _ hk => Awp.keep L hk))

/-- A statement alone. -/
theorem awp_r {id : Nat} {l : List Oper} (L : List Nat) (hd : dstsOk n l = true) (hc : aOps P w₀ l l s h (fun s' h' => Q .normal (s'.keep L) h')) : Awp P w₀ n (.region id l.toArray false) Q s h :=
  fun φ a w hr hs => wp_mono (awp_region (Q := fun e s' h' => Q e (if e matches .normal then s'.keep L else s') h') hd hc φ a w hr hs) fun e a' w' ⟨ψ, s', h', e1, e2, e3, e4⟩ => by
    cases e <;> first
      | exact ⟨ψ, s', h', e1, e2, e3, e4⟩
      | exact ⟨ψ, s'.keep L, h', e1, e2, e3.keep L, e4⟩
end

/-! ### Functions -/
def resV (P : Program) (w₀ : World) (s : Slots) (h : AHeap) : ResultVar → PR
  | .tmp t => ⟨True, s.get t⟩
  | .cell a t => pLoad P w₀ h t (s.get a)

def resPre (P : Program) (w₀ : World) (s : Slots) (h : AHeap) : List ResultVar → Prop
  | [] => True
  | r :: rs => (resV P w₀ s h r).pre ∧ resPre P w₀ s h rs

def resOf (P : Program) (w₀ : World) (s : Slots) (h : AHeap) : List ResultVar → AVal
  | [r] => (resV P w₀ s h r).val
  | rs => .tuple (rs.map fun r => (resV P w₀ s h r).val)

/-- Behind a function: what it returns; blocks may be forgotten. -/
def retA (P : Program) (w₀ : World) (rs : List ResultVar) (R : AVal → AHeap → Prop) : Exit → Slots → AHeap → Prop
  | .normal, s, h => resPre P w₀ s h rs ∧ ∃ h', (∀ k b, h' k = some b → h k = some b) ∧ R (resOf P w₀ s h rs) h'
  | .ret, s, h => resPre P w₀ s h rs ∧ ∃ h', (∀ k b, h' k = some b → h k = some b) ∧ R (resOf P w₀ s h rs) h'
  | _, _, _ => False

def initSlots : Nat → List AVal → Slots
  | _, [] => []
  | k, x :: xs => (k, x) :: initSlots (k + 1) xs

theorem initSlots_get (φ : PMap) : ∀ (xs : List AVal) (vs : List Value) (k i : Nat), VRs φ xs vs → (i < k → (initSlots k xs).get i = .dead) ∧ ∀ d, k ≤ i → VR φ ((initSlots k xs).get i) (vs.getD (i - k) d)
  | [], vs, k, i, _ => ⟨fun _ => rfl, fun _ _ => by simp [initSlots, Slots.get, VR]⟩
  | x :: xs, vs, k, i, h => by
    simp only [VRs] at h
    obtain ⟨v, vs', rfl, h1, h2⟩ := h
    obtain ⟨i1, i2⟩ := initSlots_get φ xs vs' (k + 1) i h2
    refine ⟨fun hlt => ?_, fun d hle => ?_⟩
    · simp only [initSlots, Slots.get]
      rw [if_neg (by omega)]
      exact i1 (by omega)
    · simp only [initSlots, Slots.get]
      by_cases e : i = k
      · subst e
        simpa using h1
      · rw [if_neg e]
        have := i2 d (by omega)
        rw [show i - k = (i - (k + 1)) + 1 by omega]
        simpa using this

def resSem (tmps : Array Value) : ResultVar → Sem Value
  | .tmp t => pure (tmps.getD t undef)
  | .cell a t => do loadVar t (← asAddr (tmps.getD a undef))

theorem results_ok {P : Program} {w₀ w : World} {φ : PMap} {n : Nat} {s : Slots} {h : AHeap} {a : Act} (hr : HRel w₀ φ h w) (hs : SRel φ n s a) (fn : Func) (hp : resPre P w₀ s h fn.results.toList) :
    ∃ v, (results fn a.tmps).run P w = .ok v w ∧ VR φ (resOf P w₀ s h fn.results.toList) v := by
  have one : ∀ r, (resV P w₀ s h r).pre → ∃ v, (resSem a.tmps r).run P w = .ok v w ∧ VR φ (resV P w₀ s h r).val v := by
    intro r hr'
    cases r with
    | tmp t => exact ⟨_, rfl, hs.val t⟩
    | cell b t =>
      simp only [resV] at hr' ⊢
      obtain ⟨r, h1, h2⟩ := pLoad_ok hr' hr (hs.val b)
      refine ⟨r, ?_, h2⟩
      have := h1 w (Same.refl w)
      have hv := hs.val b
      unfold pLoad at hr'
      split at hr'
      · rename_i l o hl
        rw [hl] at hv
        simp only [VR] at hv
        obtain ⟨ad, _, e2⟩ := hv
        rw [e2] at this
        simp only [resSem]
        rw [e2]
        simpa [Instr.loadAt, Instr.sureAddr, asAddr] using this
      · exact hr'.elim
  have all : ∀ rs : List ResultVar, resPre P w₀ s h rs → ∃ vs, (rs.mapM (resSem a.tmps)).run P w = .ok vs w ∧ VRs φ (rs.map fun r => (resV P w₀ s h r).val) vs := by
    intro rs
    induction rs with
    | nil => intro _; exact ⟨[], by simp, by simp [VRs]⟩
    | cons r rs ih =>
      intro hp
      simp only [resPre] at hp
      obtain ⟨v, e1, e2⟩ := one r hp.1
      obtain ⟨vs, e3, e4⟩ := ih hp.2
      refine ⟨v :: vs, ?_, by simp only [List.map_cons, VRs]; exact ⟨v, vs, rfl, e2, e4⟩⟩
      rw [List.mapM_cons, Sem.run_bind, e1, Result.andThen_ok, Sem.run_bind, e3]
      rfl
  obtain ⟨vs, e1, e2⟩ := all _ hp
  have hrun : (results fn a.tmps).run P w = .ok (if h : vs.toArray.size = 1 then vs.toArray[0] else .tuple vs.toArray) w := by
    have key : ∀ F : ResultVar → Sem Value, (∀ r, F r = resSem a.tmps r) → (List.mapM F fn.results.toList).run P w = .ok vs w := fun F hF => by
      rw [funext hF]; exact e1
    unfold results
    rw [Array.mapM_eq_mapM_toList]
    simp only [bind_map_left, Sem.run_bind]
    rw [key _ (fun r => by cases r <;> rfl)]
    rfl
  refine ⟨_, hrun, ?_⟩
  have hl := VRs_length e2
  simp only [List.length_map] at hl
  match hrs : fn.results.toList, e2, hl with
  | [], e2, hl =>
    obtain rfl : vs = [] := List.eq_nil_of_length_eq_zero (by simpa using hl)
    simp only [resOf, VR]
    exact ⟨[], by simp, by simp [VRs]⟩
  | [r], e2, hl =>
    simp only [List.map_cons, List.map_nil, VRs] at e2
    obtain ⟨v, _, rfl, h1, rfl⟩ := e2
    simpa [resOf] using h1
  | r :: r' :: rs, e2, hl =>
    have h2 : ¬ vs.toArray.size = 1 := by simp at hl ⊢; omega
    rw [dif_neg h2]
    simp only [resOf, VR]
    exact ⟨vs, rfl, e2⟩

/-- A function's contract, from its text. -/
theorem acall_intro {P : Program} {w₀ : World} {f : FuncId} {args : List AVal} {h : AHeap} {R : AVal → AHeap → Prop} {fn : Func} {c : Code} {rs : List ResultVar} {n : Nat} (hf : P.funcs[f]? = some fn)
    (hname : (fn.name == "runtime.NumGoroutine") = false) (hb : fn.body = some c) (hn : fn.ntmps = n) (hrs : fn.results = rs.toArray) (hargs : args.length ≤ n)
    (hc : Awp P w₀ n c (retA P w₀ rs R) (initSlots 0 args) h) : ACall P w₀ f args h R := by
  intro φ vals w hr hv
  refine .inl ⟨fn, hf, hname, by rw [hb]; rfl, ?_⟩
  have hl := VRs_length hv
  refine calls_of_wp hf hb (wp_mono (hc φ _ w hr ⟨?_, rfl, fun i => ?_⟩) fun e a' w' ⟨ψ, s', h', e1, e2, e3, e4⟩ => ?_)
  · simp [hn]
    omega
  · have := (initSlots_get φ args vals 0 i hv).2 undef (Nat.zero_le i)
    by_cases hi : i < vals.length
    · have e : (vals.toArray ++ Array.replicate (fn.ntmps - vals.toArray.size) undef).getD i undef = vals.getD i undef := by
        simp [Array.getD_eq_getD_getElem?, Array.getElem?_append, hi, List.getD]
      rw [e]
      simpa using this
    · have e : (vals.toArray ++ Array.replicate (fn.ntmps - vals.toArray.size) undef).getD i undef = undef := by
        simp [Array.getD_eq_getD_getElem?, Array.getElem?_append, hi, Array.getElem?_replicate]
        split <;> simp
      rw [e]
      have e2 : vals.getD (i - 0) undef = undef := by simp [List.getD, List.getElem?_eq_none (Nat.le_of_not_lt hi)]
      rw [e2] at this
      exact this
  · cases e <;> simp only [retA] at e4 <;> first
      | exact e4.elim
      | skip
    all_goals
      obtain ⟨hp, h'', hsub, hR⟩ := e4
      have hrs' : rs = fn.results.toList := by rw [hrs]
      rw [hrs'] at hp hR
      obtain ⟨v, f1, f2⟩ := results_ok e2 e3 fn hp
      exact ⟨e3.defers, v, f1, v, rfl, ψ, _, h'', e1, e2.forget hsub, f2, hR⟩

/-- How a law's walk comes out of its contract. -/
theorem law_of_acall {P : Program} {f : FuncId} {args : List AVal} {vals : List Value} {w : World} (hv : VRs (fun _ => none) args vals)
    (hc : ACall P w f args (fun _ => none) (fun x _ => x = .bool true)) (hcalls : ∃ fn, P.funcs[f]? = some fn ∧ fn.body.isSome = true) :
    Calls P f vals.toArray w fun e w' => e = .returned (.bool true) ∧ Below w.heap.size w w' := by
  rcases hc _ vals w (HRel.start w) hv with ⟨fn, _, _, _, h4⟩ | ⟨v, w', h1, ⟨ψ, x, h', e1, e2, e3, e4⟩⟩
  · refine h4.mono fun e w' ⟨v, he, ψ, x, h', e1, e2, e3, e4⟩ => ?_
    subst he e4
    simp only [VR] at e3
    subst e3
    exact ⟨rfl, e2.below⟩
  · exfalso
    obtain ⟨fn, g1, g2⟩ := hcalls
    have hb : ¬ fn.body = none := fun e => by rw [e] at g2; cases g2
    simp only [callFunc, Sem.run_bind, run_program, Result.andThen_ok, g1] at h1
    split at h1
    · simp at h1
    · simp [hb] at h1

end Go.AM
