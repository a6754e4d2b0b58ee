/-
  An assertion layer over the model's wp, part R: statements of open order that end in operations that write.
  Conditions: none. Nothing here is about a particular program.
-/
import Derived.Test.YthiiakghjoeikaaGreatDoorAmQ
import Derived.StillTail
set_option linter.unusedSimpArgs false
set_option linter.unnecessarySimpa false
set_option linter.unusedVariables false
namespace Go.AM
open Go.RowKit (Below)

section
variable {P : Program} {w₀ : World} {n : Nat} {h : AHeap}

theorem vOps_stepsT {l : List Oper} (tl : List Oper) (hall : dstsOk n l = true) {s : Slots} {K : Slots → AHeap → Prop} : ∀ (rest pre : List Oper) (A : List AVal), l = pre ++ rest ++ tl → A.length = pre.length → vOps P w₀ l rest (slotsAt s l A pre.length) h K →
    ∃ B : List AVal, B.length = rest.length ∧ (∀ i o, pre.length ≤ i → i < pre.length + rest.length → l[i]? = some o → StepOk P w₀ n h l o (slotsAt s l (A ++ B) i) ((A ++ B).getD i .dead)) ∧ K (slotsAt s l (A ++ B) (pre.length + rest.length)) h
  | [], pre, A, hl, hA, hv => ⟨[], rfl, fun i o hi hi' ho => by
      simp only [List.length_nil] at hi'
      omega, by
      rw [List.append_nil]; exact hv⟩
  | o :: rest, pre, A, hl, hA, hv => by
    have hat : l[pre.length]? = some o := by rw [hl]; simp
    have go : ∀ V, StepOk P w₀ n h l o (slotsAt s l A pre.length) V → vOps P w₀ l rest (putD (slotsAt s l A pre.length) o.dst V) h K →
        ∃ B : List AVal, B.length = (o :: rest).length ∧ (∀ i o, pre.length ≤ i → i < pre.length + (rest.length + 1) → l[i]? = some o → StepOk P w₀ n h l o (slotsAt s l (A ++ B) i) ((A ++ B).getD i .dead)) ∧ K (slotsAt s l (A ++ B) (pre.length + (rest.length + 1))) h := by
      intro V hst hv'
      have e : slotsAt s l (A ++ [V]) (pre ++ [o]).length = putD (slotsAt s l A pre.length) o.dst V := by
        rw [List.length_append, List.length_singleton, slotsAt, hat]
        simp only
        rw [slotsAt_take s l A [V] _ (by omega)]
        congr 1
        simp [List.getD, ← hA]
      obtain ⟨B, h1, h2, h3⟩ := vOps_stepsT tl hall rest (pre ++ [o]) (A ++ [V]) (by simp [hl]) (by simp [hA]) (by rw [e]; exact hv')
      refine ⟨V :: B, by simp [h1], fun i o' hi hi' ho' => ?_, by simpa [Nat.add_assoc, Nat.add_comm 1] using h3⟩
      rcases Nat.eq_or_lt_of_le hi with e' | e'
      · subst e'
        rw [hat] at ho'
        obtain rfl := Option.some.inj ho'
        rw [slotsAt_take s l A (V :: B) _ (by omega)]
        have : (A ++ V :: B).getD pre.length .dead = V := by simp [List.getD, ← hA]
        rw [this]
        exact hst
      · have := h2 i o' (by simp; omega) (by simp at hi' ⊢; omega) ho'
        simpa using this
    simp only [vOps] at hv
    cases hg : o.guard with
    | none =>
      simp only [hg] at hv
      obtain ⟨V, h1, h2⟩ := hv
      exact go V (.plain hg h1) h2
    | some gw =>
      obtain ⟨j, want⟩ := gw
      simp only [hg] at hv
      cases hj : nthDst l j with
      | none =>
        simp only [hj] at hv
        exact go _ (.never hg hj) hv
      | some d =>
        simp only [hj] at hv
        obtain ⟨hk, V, h1, h2⟩ := hv
        exact go _ (.guarded hall hg hj hk h1) h2


/-- The order of a statement's first k operations leaves each what it looks at. -/
def orderBk (l : List Oper) (k : Nat) : Bool :=
  (List.range k).all fun i => match l[i]? with
    | none => true
    | some oi => (oi.after.all fun e => !Region.binds .any e || decide (e.on < i)) &&
      (List.range k).all fun j => match l[j]? with
        | none => true
        | some oj => (match oj.dst with
            | none => true
            | some t => (decide (i = j) || decide (oi.dst ≠ some t)) &&
                (!(looksL l oi).contains t || (decide (j < i) && Region.waitsFor .any l.toArray i j) || (decide (i < j) && Region.waitsFor .any l.toArray j i)))

theorem orderBk_spec {l : List Oper} {k : Nat} (hB : orderBk l k = true) {i : Nat} {oi : Oper} (hik : i < k) (hi : l[i]? = some oi) :
    (∀ e ∈ oi.after, Region.binds .any e = true → e.on < i) ∧ ∀ j oj t, j < k → l[j]? = some oj → oj.dst = some t → (oi.dst = some t → i = j) ∧
      (t ∈ looksL l oi → (j < i ∧ Region.waitsFor .any l.toArray i j = true) ∨ (i < j ∧ Region.waitsFor .any l.toArray j i = true)) := by
  unfold orderBk at hB
  rw [List.all_eq_true] at hB
  have h1 := hB i (by rw [List.mem_range]; exact hik)
  simp only [hi, Bool.and_eq_true] at h1
  obtain ⟨ha, hb⟩ := h1
  refine ⟨fun e he hbd => ?_, fun j oj t hjk hj hd => ?_⟩
  · rw [Array.all_eq_true'] at ha
    have := ha e he
    simpa [hbd] using this
  · rw [List.all_eq_true] at hb
    have h2 := hb j (by rw [List.mem_range]; exact hjk)
    simp only [hj, hd, Bool.and_eq_true, Bool.or_eq_true, decide_eq_true_eq, Bool.not_eq_true', List.contains_eq_mem] at h2
    refine ⟨fun he => ?_, fun ht => ?_⟩
    · rcases h2.1 with e | e
      · exact e
      · exact absurd he e
    · rcases h2.2 with (e | e) | e
      · exact absurd ht (by simpa using e)
      · exact .inl e
      · exact .inr e

theorem slotsAt_writerK {l : List Oper} {k : Nat} (hB : orderBk l k = true) (hk : k ≤ l.length) (s : Slots) (Vs : List AVal) {j : Nat} {oj : Oper} {t : Nat} (hjk : j < k) (hj : l[j]? = some oj) (hd : oj.dst = some t) : ∀ i, j < i → i ≤ k → (slotsAt s l Vs i).get t = Vs.getD j .dead
  | 0, h, _ => by omega
  | i + 1, h, hi => by
    obtain ⟨o, ho⟩ : ∃ o, l[i]? = some o := ⟨_, List.getElem?_eq_getElem (show i < l.length by omega)⟩
    simp only [slotsAt, ho, put_get]
    by_cases e : o.dst = some t
    · have : i = j := (((orderBk_spec hB (by omega) ho).2 j oj t hjk hj hd).1 e)
      subst this
      rw [if_pos e]
    · rw [if_neg e]
      refine slotsAt_writerK hB hk s Vs hjk hj hd i ?_ (by omega)
      rcases Nat.eq_or_lt_of_le (Nat.le_of_lt_succ h) with e' | e'
      · subst e'
        rw [hj] at ho
        obtain rfl := Option.some.inj ho
        exact absurd hd e
      · exact e'

/-- The first k of m are listed. -/
def firstK (m k : Nat) : Array Bool := ((List.range m).map fun j => decide (j < k)).toArray

structure AnyInvK (l : List Oper) (k : Nat) (Vs : List AVal) (s : Slots) (ψ : PMap) (n : Nat) (listed : Array Bool) (a : Act) : Prop where
  head : HeadInv .any l.toArray k listed
  tsize : a.tmps.size = n
  defers : a.defers = []
  done : ∀ t j oj, j < k → l[j]? = some oj → oj.dst = some t → listed.getD j false = true → VR ψ (Vs.getD j .dead) (a.tmps.getD t undef)
  still : ∀ t, (∀ j oj, j < k → l[j]? = some oj → oj.dst = some t → listed.getD j false = false) → VR ψ (s.get t) (a.tmps.getD t undef)

theorem any_okK {l : List Oper} {k : Nat} (hk : k < l.length) (hall : dstsOk n l = true) (hB : orderBk l k = true) (hsink : Region.sinkB .any l.toArray k = true) (hchain : Region.chainB .any l.toArray k = true)
    (hseq : Region.seqB .any l.toArray (l.length - k) k (firstK l.length k) = true) {s : Slots} {Vs : List AVal} (hst : ∀ i o, i < k → l[i]? = some o → StepOk P w₀ n h l o (slotsAt s l Vs i) (Vs.getD i .dead)) {φ : PMap} {Q : Exit → Act → World → Prop}
    (hq : ∀ ψ a w, φ.le ψ → HRel w₀ ψ h w → SRel ψ n (slotsAt s l Vs k) a → wpList P l.toArray Q (l.drop k) a w) : ∀ (fuel : Nat) (listed : Array Bool) (a : Act) (w : World) (ψ : PMap), φ.le ψ → HRel w₀ ψ h w → AnyInvK l k Vs s ψ n listed a →
    (listed.toList.filter (!·)).length = fuel → wpAny P .any l.toArray Q fuel listed a w := by
  have hsize : k < l.toArray.size := by simpa using hk
  -- all of the head are listed
  have fin : ∀ (fuel : Nat) (listed : Array Bool) (a : Act) (w : World) (ψ : PMap), φ.le ψ → HRel w₀ ψ h w → AnyInvK l k Vs s ψ n listed a → (∀ j, j < k → listed.getD j false = true) → (listed.toList.filter (!·)).length = fuel → wpAny P .any l.toArray Q fuel listed a w := by
    intro fuel listed a w ψ hle hr inv hdone hc
    have hls : listed.size = l.length := by have := inv.head.size; simpa using this
    have hl : listed = firstK l.length k := by
      apply Array.ext
      · rw [hls]; simp [firstK]
      · intro i h1 h2
        have hi : i < l.length := by omega
        have e2 : (firstK l.length k)[i] = decide (i < k) := by simp [firstK]
        rw [e2]
        by_cases hik : i < k
        · have := hdone i hik
          simp [Array.getD, h1] at this
          simp [this, hik]
        · have := inv.head.tail i (by omega) (by simpa using hi)
          simp [Array.getD, h1] at this
          simp [this, hik]
    have hfuel : fuel = (l.drop k).length := by
      rw [← hc, hl]
      have : ∀ m k, k ≤ m → (((List.range m).map fun j => decide (j < k)).filter (!·)).length = m - k := by
        intro m k
        induction m with
        | zero => intro _; simp
        | succ m ih =>
          intro hkm
          rw [List.range_succ, List.map_append, List.filter_append, List.length_append]
          rcases Nat.lt_or_ge m k with c | c
          · have e1 : m + 1 = k := by omega
            have e2 : ((List.range m).map fun j => decide (j < k)).filter (!·) = [] := by
              rw [List.filter_eq_nil_iff]
              intro b hb
              simp only [List.mem_map, List.mem_range] at hb
              obtain ⟨j, hj, rfl⟩ := hb
              have : j < k := by omega
              simp [this]
            rw [e2]
            simp [c]
            omega
          · rw [ih c]
            have : ¬ m < k := by omega
            simp [this]
            omega
      simp only [firstK, List.length_drop]
      exact this l.length k (by omega)
    rw [hfuel, hl]
    refine wpAny_of_seq (l.drop k) k _ a w (fun j => by simp [List.getElem?_drop]) (by rw [List.length_drop]; exact hseq) ?_
    refine hq ψ a w hle hr ⟨inv.tsize, inv.defers, fun t => ?_⟩
    by_cases hw : ∃ (j : Nat) (oj : Oper), j < k ∧ l[j]? = some oj ∧ oj.dst = some t
    · obtain ⟨j, oj, hjk, hj, hd⟩ := hw
      rw [slotsAt_writerK hB (by omega) s Vs hjk hj hd k hjk (Nat.le_refl _)]
      exact inv.done t j oj hjk hj hd (hdone j hjk)
    · rw [slotsAt_none s Vs k fun j oj hjk hj hd => hw ⟨j, oj, hjk, hj, hd⟩]
      exact inv.still t fun j oj hjk hj hd => absurd ⟨j, oj, hjk, hj, hd⟩ hw
  intro fuel
  induction fuel with
  | zero =>
    intro listed a w ψ hle hr inv hc
    exfalso
    have hls : listed.size = l.length := by have := inv.head.size; simpa using this
    have h1 := inv.head.tail k (Nat.le_refl _) hsize
    have hkz : k < listed.size := by omega
    have h2 : listed.toList[k]? = some false := by
      simp [Array.getD, hkz] at h1
      simp [hkz, h1]
    have hmem : false ∈ listed.toList.filter (!·) := by simp [List.mem_filter, List.mem_of_getElem? h2]
    have := List.length_pos_of_mem hmem
    omega
  | succ fuel ih =>
    intro listed a w ψ hle hr inv hc
    have hls : listed.size = l.length := by have := inv.head.size; simpa using this
    by_cases hdone : ∀ j, j < k → listed.getD j false = true
    · exact fin _ listed a w ψ hle hr inv hdone hc
    · obtain ⟨u, hu, hul⟩ : ∃ u, u < k ∧ listed.getD u true = false := by
        refine Classical.byContradiction fun hne => hdone fun j hj => ?_
        have hjs : j < listed.size := by omega
        cases e : listed.getD j false with
        | true => rfl
        | false =>
          exfalso
          refine hne ⟨j, hj, ?_⟩
          simp [Array.getD, hjs] at e ⊢; exact e
      refine ⟨fun hrd => ?_, fun i hi => ?_⟩
      · exfalso
        -- the least that is not listed may come up
        have : ∀ i, i < k → listed.getD i false = true := by
          intro i
          induction i using Nat.strongRecOn with
          | ind i ihh =>
            intro hik
            cases hl : listed.getD i false with
            | true => rfl
            | false =>
              exfalso
              obtain ⟨o, ho⟩ : ∃ o, l[i]? = some o := ⟨_, List.getElem?_eq_getElem (by omega)⟩
              have : i ∈ Region.ready .any l.toArray listed := by
                rw [mem_ready]
                refine ⟨?_, o, by simpa using ho, fun e he hb => ?_⟩
                · have hi' : i < listed.size := by omega
                  simp [Array.getD, hi'] at hl ⊢; exact hl
                · have hlt := (orderBk_spec hB hik ho).1 e he hb
                  exact ihh e.on hlt (by omega)
              rw [hrd] at this
              cases this
        exact hdone this
      · have hik : i < k := by
          rcases Nat.lt_or_ge i k with c | c
          · exact c
          · exact absurd hi (tail_waits hsink hchain hsize inv.head _ u rfl hu hul i c)
        obtain ⟨h1, o, ho, hedges⟩ := mem_ready.1 hi
        have hol : l[i]? = some o := by simpa using ho
        have hisz : i < listed.size := by omega
        have hif : listed.getD i false = false := by simp [Array.getD, hisz] at h1 ⊢; exact h1
        have spec := orderBk_spec hB hik hol
        have hs : SRel ψ n ((slotsAt s l Vs i).keep (looksL l o)) a := by
          refine ⟨inv.tsize, inv.defers, fun t => ?_⟩
          rw [Slots.get_keep]
          by_cases ht : (looksL l o).contains t = true
          · rw [if_pos ht]
            have ht' : t ∈ looksL l o := by simpa using ht
            by_cases hw : ∃ (j : Nat) (oj : Oper), j < k ∧ l[j]? = some oj ∧ oj.dst = some t
            · obtain ⟨j, oj, hjk, hj, hd⟩ := hw
              rcases (spec.2 j oj t hjk hj hd).2 ht' with ⟨c1, c2⟩ | ⟨c1, c2⟩
              · rw [slotsAt_writerK hB (by omega) s Vs hjk hj hd i c1 (by omega)]
                refine inv.done t j oj hjk hj hd ?_
                obtain ⟨oi, g1, e, g2, g3, g4⟩ := Region.waitsFor_spec c2
                rw [ho] at g1
                obtain rfl := Option.some.inj g1
                rw [← g4]
                exact hedges e g2 g3
              · rw [slotsAt_none s Vs i fun j' oj' hj'' hj' hd' => by
                  have := ((orderBk_spec hB (by omega) hj').2 j oj t hjk hj hd).1 hd'
                  omega]
                refine inv.still t fun j' oj' hjk' hj' hd' => ?_
                have e := ((orderBk_spec hB hjk' hj').2 j oj t hjk hj hd).1 hd'
                subst e
                cases hl : listed.getD j' false with
                | false => rfl
                | true =>
                  exfalso
                  obtain ⟨oi, g1, e, g2, g3, g4⟩ := Region.waitsFor_spec c2
                  have := inv.head.closed j' oi g1 hl e g2 g3
                  rw [g4, hif] at this
                  cases this
            · rw [slotsAt_none s Vs i fun j oj hji hj hd => hw ⟨j, oj, by omega, hj, hd⟩]
              exact inv.still t fun j oj hjk hj hd => absurd ⟨j, oj, hjk, hj, hd⟩ hw
          · rw [if_neg ht]
            trivial
        have step := hst i o hik hol ψ w a (wpAny P .any l.toArray Q fuel (listed.setIfInBounds i true)) Q hr hs fun ψ' v w' hle' hr' hv => by
          have hdn : ∀ d, o.dst = some d → d < n := fun d hd => nth_lt l i d hall (by rw [nthDst_eq, hol]; exact hd)
          refine ih _ _ _ ψ' (PMap.le_trans hle hle') hr' ⟨inv.head.set hi hik, ?_, ?_, fun t j oj hjk hj hd hl => ?_, fun t hun => ?_⟩ ?_
          · cases hod : o.dst with
            | none => simpa [Act.put] using inv.tsize
            | some d => simpa [Act.put] using inv.tsize
          · cases hod : o.dst with
            | none => simpa [Act.put] using inv.defers
            | some d => simpa [Act.put] using inv.defers
          · by_cases e : j = i
            · subst e
              rw [hol] at hj
              obtain rfl := Option.some.inj hj
              have hlt : t < a.tmps.size := by rw [inv.tsize]; exact hdn t hd
              have : (a.put o.dst v).tmps.getD t undef = v := by rw [hd]; simp [Act.put, hlt]
              rw [this]; exact hv
            · rw [set_other e] at hl
              have hne : o.dst ≠ some t := fun hod => e (((spec.2 j oj t hjk hj hd).1 hod).symm)
              have : (a.put o.dst v).tmps.getD t undef = a.tmps.getD t undef := by
                cases hod : o.dst with
                | none => rfl
                | some d =>
                  have hdt : d ≠ t := fun e => hne (by rw [hod, e])
                  simp [Act.put, Array.getD_eq_getD_getElem?, Array.getElem?_setIfInBounds_ne hdt]
              rw [this]
              exact VR_mono hle' _ _ (inv.done t j oj hjk hj hd hl)
          · have hne : o.dst ≠ some t := fun hod => by
              have := hun i o hik hol hod
              rw [set_self hisz] at this
              cases this
            have : (a.put o.dst v).tmps.getD t undef = a.tmps.getD t undef := by
              cases hod : o.dst with
              | none => rfl
              | some d =>
                have hdt : d ≠ t := fun e => hne (by rw [hod, e])
                simp [Act.put, Array.getD_eq_getD_getElem?, Array.getElem?_setIfInBounds_ne hdt]
            rw [this]
            refine VR_mono hle' _ _ (inv.still t fun j oj hjk hj hd => ?_)
            have e : j ≠ i := fun e => by subst e; rw [hol] at hj; obtain rfl := Option.some.inj hj; exact hne hd
            have := hun j oj hjk hj hd
            rwa [set_other e] at this
          · have h2 : listed.toList[i]? = some false := by
              simp [Array.getD, hisz] at h1
              simp [hisz, h1]
            have := count_set listed.toList i h2
            have e : (listed.setIfInBounds i true).toList = listed.toList.set i true := by simp
            rw [e]
            omega
        simp only [wpOp, ho]
        split
        · rename_i hw
          rw [if_pos hw] at step
          exact .inl step
        · rename_i hw
          rw [if_neg hw] at step
          exact step

/-- The static conditions of a statement of open order with k operations ahead of those that write. -/
def tailB (l : List Oper) (k : Nat) : Bool :=
  decide (k < l.length) && orderBk l k && Region.sinkB .any l.toArray k && Region.chainB .any l.toArray k && Region.seqB .any l.toArray (l.length - k) k (firstK l.length k)

theorem awp_draw_anyT {Q : Exit → Slots → AHeap → Prop} {s : Slots} {id : Nat} {l : List Oper} (k : Nat) (hm : P.follows .mixedOrders = true) (hB : tailB l k = true) (hd : dstsOk n l = true)
    (hc : vOps P w₀ l (l.take k) s h (fun s' h' => aOps P w₀ l (l.drop k) s' h' (fun s'' h'' => Q .normal s'' h''))) : Awp P w₀ n (.region id l.toArray true) Q s h := by
  intro φ a w hr hs
  simp only [tailB, Bool.and_eq_true, decide_eq_true_eq] at hB
  obtain ⟨⟨⟨⟨hk, h1⟩, h2⟩, h3⟩, h4⟩ := hB
  obtain ⟨Vs, g1, g2, g3⟩ := vOps_stepsT (P := P) (w₀ := w₀) (n := n) (h := h) (l.drop k) hd (s := s) (l.take k) [] [] (by simp) rfl hc
  have htl : (l.take k).length = k := by simp; omega
  simp only [List.nil_append, List.length_nil, Nat.zero_le, true_implies, Nat.zero_add, htl] at g1 g2 g3
  refine wp_region_any hm ?_
  have dtake : ∀ (l : List Oper) (m : Nat), dstsOk n l = true → dstsOk n (l.drop m) = true := by
    intro l
    induction l with
    | nil => intro m _; simp [dstsOk]
    | cons o r ih =>
      intro m h
      cases m with
      | zero => simpa using h
      | succ m =>
        simp only [dstsOk, Bool.and_eq_true] at h
        simpa using ih m h.2
  refine any_okK (φ := φ) hk hd h1 h2 h3 h4 (s := s) (Vs := Vs) (fun i o hi ho => g2 i o hi ho) (fun ψ a' w' hle hr' hs' => ?_) _ _ _ _ φ φ.le_refl hr.drew ?_ ?_
  · have := aOps_ok (P := P) (w₀ := w₀) l n hd (l.drop k) k ψ _ h a' w' _ (fun e a' w' => ∃ χ s' h', φ.le χ ∧ HRel w₀ χ h' w' ∧ SRel χ n s' a' ∧ Q e s' h') (fun j => by simp [List.getElem?_drop]) (dtake l k hd) g3 hr' hs'
      (fun χ s' h' a' w' e1 e2 e3 e4 => ⟨χ, s', h', PMap.le_trans hle e1, e2, e3, e4⟩)
    rw [wpOps_eq_wpList (l.drop k) k (fun j => by simp [List.getElem?_drop])] at this
    exact this
  · have hf : ∀ j, (Array.replicate l.toArray.size false).getD j false = false := fun j => by
      simp [Array.getD]
    exact ⟨⟨by simp, fun j oj _ hl => (by rw [getD_replicate_false] at hl; cases hl), fun t _ ht => getD_in (by simpa using ht) (getD_replicate_false _ _)⟩, hs.size, hs.defers, fun t j oj _ _ _ hl => (by rw [hf] at hl; cases hl), fun t _ => hs.val t⟩
  · simp

theorem awp_dseq_anyT {Q : Exit → Slots → AHeap → Prop} {s : Slots} {id : Nat} {l : List Oper} {y : Code} (k : Nat) (L : List Nat) (hm : P.follows .mixedOrders = true) (hB : tailB l k = true) (hd : dstsOk n l = true)
    (hc : ∀ K : Slots → AHeap → Prop, (∀ s h, Awp P w₀ n y Q s h → K s h) → vOps P w₀ l (l.take k) s h (fun s' h' => aOps P w₀ l (l.drop k) s' h' (fun s'' h'' => K (s''.keep L) h''))) : Awp P w₀ n (.seq (.region id l.toArray true) y) Q s h :=
  awp_seq (awp_draw_anyT k hm hB hd (vOps_mono (hc (fun s h => Awp P w₀ n y Q s h) (fun _ _ hk => hk)) fun _ _ ha => awp_rseq.aOps_mono (fun _ _ hk => Awp.keep L hk) ha))
end
end Go.AM
