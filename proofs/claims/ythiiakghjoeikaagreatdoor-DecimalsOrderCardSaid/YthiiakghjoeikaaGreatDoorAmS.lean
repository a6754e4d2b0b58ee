/-
  An assertion layer over the model's wp, part S: statements of open order whose heap hangs on what has been listed (an alloc among the operations).
  Conditions: none. Nothing here is about a particular program.
-/
import Derived.Test.YthiiakghjoeikaaGreatDoorAmR
set_option linter.unusedSimpArgs false
set_option linter.unnecessarySimpa false
set_option linter.unusedVariables false
namespace Go.AM
open Go.RowKit (Below)

section
variable {P : Program} {w₀ : World} {n : Nat} {h : AHeap}

/-- What operation i does, in whatever order it comes up; HS tells the heap from what is listed. -/
def StepH (P : Program) (w₀ : World) (n : Nat) (HS : Array Bool → PMap → Act → World → Prop) (l : List Oper) (Vs : List AVal) (s : Slots) (i : Nat) (o : Oper) : Prop :=
  ∀ (listed : Array Bool) (ψ : PMap) (w : World) (a : Act) (next : Act → World → Prop) (Q : Exit → Act → World → Prop), listed.getD i false = false → i < listed.size → (∀ e ∈ o.after, Region.binds .any e = true → listed.getD e.on false = true) →
    HS listed ψ a w → AnyInv l Vs s ψ n listed a → SRel ψ n ((slotsAt s l Vs i).keep (looksL l o)) a →
    (∀ ψ' v w', ψ.le ψ' → HS (listed.setIfInBounds i true) ψ' (a.put o.dst v) w' → VR ψ' (Vs.getD i .dead) v → next (a.put o.dst v) w') →
    if Region.wanted o (yielded l.toArray a.tmps) = true then o.wp P a w next Q else next (a.put o.dst undef) w

theorem any_okH {HS : Array Bool → PMap → Act → World → Prop} {l : List Oper} (hall : dstsOk n l = true) (hB : orderB l = true) {s : Slots} {Vs : List AVal} (hst : ∀ i o, l[i]? = some o → StepH P w₀ n HS l Vs s i o) {φ : PMap} {Q : Exit → Act → World → Prop}
    (hq : ∀ listed ψ a w, φ.le ψ → HS listed ψ a w → (∀ i, i < l.length → listed.getD i false = true) → SRel ψ n (slotsAt s l Vs l.length) a → Q .normal a w) : ∀ (fuel : Nat) (listed : Array Bool) (a : Act) (w : World) (ψ : PMap), φ.le ψ → HS listed ψ a w → AnyInv l Vs s ψ n listed a →
    (listed.toList.filter (!·)).length ≤ fuel → wpAny P .any l.toArray Q fuel listed a w := by
  have fin : ∀ (listed : Array Bool) (a : Act) (w : World) (ψ : PMap), φ.le ψ → HS listed ψ a w → AnyInv l Vs s ψ n listed a → Region.ready .any l.toArray listed = [] → Q .normal a w := by
    intro listed a w ψ hle hr inv hrd
    refine hq listed ψ a w hle hr (all_listed hB inv.size hrd) ⟨inv.tsize, inv.defers, fun t => ?_⟩
    by_cases hw : ∃ (j : Nat) (oj : Oper), l[j]? = some oj ∧ oj.dst = some t
    · obtain ⟨j, oj, hj, hd⟩ := hw
      have hlt := (List.getElem?_eq_some_iff.1 hj).1
      rw [slotsAt_writer hB s Vs hj hd l.length hlt (Nat.le_refl _)]
      exact inv.done t j oj hj hd (all_listed hB inv.size hrd j hlt)
    · rw [slotsAt_none s Vs l.length fun j oj _ hj hd => hw ⟨j, oj, hj, hd⟩]
      exact inv.still t fun j oj hj hd => absurd ⟨j, oj, hj, hd⟩ hw
  intro fuel
  induction fuel with
  | zero =>
    intro listed a w ψ hle hr inv hc
    have hrd : Region.ready .any l.toArray listed = [] := by
      cases hrd : Region.ready .any l.toArray listed with
      | nil => rfl
      | cons i r =>
        exfalso
        have hm : i ∈ Region.ready .any l.toArray listed := by rw [hrd]; exact List.mem_cons_self
        obtain ⟨h1, o, ho, _⟩ := mem_ready.1 hm
        have hi : i < listed.size := by
          have : l[i]? = some o := by simpa using ho
          rw [inv.size]; exact (List.getElem?_eq_some_iff.1 this).1
        have h2 : listed.toList[i]? = some false := by
          simp [Array.getD, hi] at h1
          simp [hi, h1]
        have := List.mem_of_getElem? h2
        have hmem : false ∈ listed.toList.filter (!·) := by simp [List.mem_filter, this]
        have := List.length_pos_of_mem hmem
        omega
    exact ⟨hrd, fin listed a w ψ hle hr inv hrd⟩
  | succ fuel ih =>
    intro listed a w ψ hle hr inv hc
    refine ⟨fun hrd => fin listed a w ψ hle hr inv hrd, fun i hi => ?_⟩
    obtain ⟨h1, o, ho, hedges⟩ := mem_ready.1 hi
    have hol : l[i]? = some o := by simpa using ho
    have hilt : i < l.length := (List.getElem?_eq_some_iff.1 hol).1
    have hisz : i < listed.size := by rw [inv.size]; exact hilt
    have hif : listed.getD i false = false := by simp [Array.getD, hisz] at h1 ⊢; exact h1
    have spec := orderB_spec hB hol
    have hs : SRel ψ n ((slotsAt s l Vs i).keep (looksL l o)) a := by
      refine ⟨inv.tsize, inv.defers, fun t => ?_⟩
      rw [Slots.get_keep]
      by_cases ht : (looksL l o).contains t = true
      · rw [if_pos ht]
        have ht' : t ∈ looksL l o := by simpa using ht
        by_cases hw : ∃ (j : Nat) (oj : Oper), l[j]? = some oj ∧ oj.dst = some t
        · obtain ⟨j, oj, hj, hd⟩ := hw
          rcases (spec.2 j oj t hj hd).2 ht' with ⟨c1, c2⟩ | ⟨c1, c2⟩
          · rw [slotsAt_writer hB s Vs hj hd i c1 (by omega)]
            refine inv.done t j oj hj hd ?_
            obtain ⟨oi, g1, e, g2, g3, g4⟩ := Region.waitsFor_spec c2
            rw [ho] at g1
            obtain rfl := Option.some.inj g1
            rw [← g4]
            exact hedges e g2 g3
          · rw [slotsAt_none s Vs i fun j' oj' hj'' hj' hd' => by
              have := ((orderB_spec hB hj').2 j oj t hj hd).1 hd'
              omega]
            refine inv.still t fun j' oj' hj' hd' => ?_
            have e := ((orderB_spec hB hj').2 j oj t hj hd).1 hd'
            subst e
            cases hl : listed.getD j' false with
            | false => rfl
            | true =>
              exfalso
              obtain ⟨oi, g1, e, g2, g3, g4⟩ := Region.waitsFor_spec c2
              have g1' : l[j']? = some oi := by simpa using g1
              have := inv.closed j' oi g1' hl e g2 g3
              rw [g4, hif] at this
              cases this
        · rw [slotsAt_none s Vs i fun j oj _ hj hd => hw ⟨j, oj, hj, hd⟩]
          exact inv.still t fun j oj hj hd => absurd ⟨j, oj, hj, hd⟩ hw
      · rw [if_neg ht]
        trivial
    have step := hst i o hol listed ψ w a (wpAny P .any l.toArray Q fuel (listed.setIfInBounds i true)) Q hif hisz hedges hr inv hs fun ψ' v w' hle' hr' hv => by
      have hdn : ∀ d, o.dst = some d → d < n := fun d hd => nth_lt l i d hall (by rw [nthDst_eq, hol]; exact hd)
      refine ih _ _ _ ψ' (PMap.le_trans hle hle') hr' ?_ ?_
      · refine ⟨by simp [inv.size], fun j oj hj hl e he hb => ?_, ?_, ?_, fun t j oj hj hd hl => ?_, fun t hun => ?_⟩
        · by_cases e1 : e.on = i
          · rw [e1]; exact set_self hisz
          · rw [set_other e1]
            by_cases e2 : j = i
            · subst e2
              rw [hol] at hj
              obtain rfl := Option.some.inj hj
              exact hedges e he hb
            · rw [set_other e2] at hl
              exact inv.closed j oj hj hl e he hb
        · cases hod : o.dst with
          | none => simpa [Act.put] using inv.tsize
          | some d => simpa [Act.put] using inv.tsize
        · cases hod : o.dst with
          | none => simpa [Act.put] using inv.defers
          | some d => simpa [Act.put] using inv.defers
        · by_cases e : j = i
          · subst e
            rw [hol] at hj
            obtain rfl := Option.some.inj hj
            have hlt : t < a.tmps.size := by rw [inv.tsize]; exact hdn t hd
            have : (a.put o.dst v).tmps.getD t undef = v := by rw [hd]; simp [Act.put, hlt]
            rw [this]; exact hv
          · rw [set_other e] at hl
            have hne : o.dst ≠ some t := fun hod => e (((spec.2 j oj t hj hd).1 hod).symm)
            have : (a.put o.dst v).tmps.getD t undef = a.tmps.getD t undef := by
              cases hod : o.dst with
              | none => rfl
              | some d =>
                have hdt : d ≠ t := fun e => hne (by rw [hod, e])
                simp [Act.put, Array.getD_eq_getD_getElem?, Array.getElem?_setIfInBounds_ne hdt]
            rw [this]
            exact VR_mono hle' _ _ (inv.done t j oj hj hd hl)
        · have hne : o.dst ≠ some t := fun hod => by
            have := hun i o hol hod
            rw [set_self hisz] at this
            cases this
          have : (a.put o.dst v).tmps.getD t undef = a.tmps.getD t undef := by
            cases hod : o.dst with
            | none => rfl
            | some d =>
              have hdt : d ≠ t := fun e => hne (by rw [hod, e])
              simp [Act.put, Array.getD_eq_getD_getElem?, Array.getElem?_setIfInBounds_ne hdt]
          rw [this]
          refine VR_mono hle' _ _ (inv.still t fun j oj hj hd => ?_)
          have e : j ≠ i := fun e => by subst e; rw [hol] at hj; obtain rfl := Option.some.inj hj; exact hne hd
          have := hun j oj hj hd
          rwa [set_other e] at this
      · have h2 : listed.toList[i]? = some false := by
          simp [Array.getD, hisz] at h1
          simp [hisz, h1]
        have := count_set listed.toList i h2
        have e : (listed.setIfInBounds i true).toList = listed.toList.set i true := by simp
        rw [e]
        omega
    simp only [wpOp, ho]
    split
    · rename_i hw
      rw [if_pos hw] at step
      exact .inl step
    · rename_i hw
      rw [if_neg hw] at step
      exact step


/-- The heap of a statement that allocates at ia (into slot ta) and stores there at is. -/
def HSA (w₀ : World) (h : AHeap) (ia is ta : Nat) (zb b : Blk) (listed : Array Bool) (ψ : PMap) (a : Act) (w : World) : Prop :=
  (listed.getD ia false = false ∧ HRel w₀ ψ h w) ∨
  (listed.getD ia false = true ∧ ∃ k, h k = none ∧ VR ψ (.ptr (.own k) 0) (a.tmps.getD ta undef) ∧ HRel w₀ ψ (h.set k (if listed.getD is false then b else zb)) w)

theorem put_tmps_ne (a : Act) (d : Option Tmp) (v : Value) {t : Nat} (hne : d ≠ some t) : (a.put d v).tmps.getD t undef = a.tmps.getD t undef := by
  cases d with
  | none => rfl
  | some d =>
    have hdt : d ≠ t := fun e => hne (by rw [e])
    simp [Act.put, Array.getD_eq_getD_getElem?, Array.getElem?_setIfInBounds_ne hdt]

theorem StepH.plain {l : List Oper} {Vs : List AVal} {s : Slots} {i : Nat} {o : Oper} {ia is ta : Nat} {zb b : Blk} (hi : i ≠ ia) (hi' : i ≠ is) (hdt : o.dst ≠ some ta)
    (h1 : StepOk P w₀ n h l o (slotsAt s l Vs i) (Vs.getD i .dead)) (h2 : ∀ k c, h k = none → StepOk P w₀ n (h.set k c) l o (slotsAt s l Vs i) (Vs.getD i .dead)) : StepH P w₀ n (HSA w₀ h ia is ta zb b) l Vs s i o := by
  intro listed ψ w a next Q hl hsz he hH inv hs hn
  rcases hH with ⟨e1, hr⟩ | ⟨e1, k, hk, hv, hr⟩
  · exact h1 ψ w a next Q hr hs fun ψ' v w' hle hr' hv' => hn ψ' v w' hle (.inl ⟨by rw [set_other (Ne.symm hi)]; exact e1, hr'⟩) hv'
  · refine h2 k _ hk ψ w a next Q hr hs fun ψ' v w' hle hr' hv' => hn ψ' v w' hle (.inr ⟨by rw [set_other (Ne.symm hi)]; exact e1, k, hk, ?_, ?_⟩) hv'
    · rw [put_tmps_ne a o.dst v hdt]; exact VR_mono hle _ _ hv
    · rw [set_other (Ne.symm hi')]; exact hr'

theorem StepH.alloc {l : List Oper} (hall : dstsOk n l = true) {Vs : List AVal} {s : Slots} {o : Oper} {ia is ta : Nat} {zb b : Blk} (hol : l[ia]? = some o) (hg : o.guard = none) (hd : o.dst = some ta) {e : TypeId} (hop : o.op = .alloc e) {z : Value} (hz : zeOf P e = some z)
    (hzb : zb = ⟨z.cells.toList.map absS, 0⟩) (hne : is ≠ ia) (hw : Region.waitsFor .any l.toArray is ia = true) (hV : Vs.getD ia .dead = .dead) : StepH P w₀ n (HSA w₀ h ia is ta zb b) l Vs s ia o := by
  intro listed ψ w a next Q hl hsz he hH inv hs hn
  have hwt : Region.wanted o (yielded l.toArray a.tmps) = true := by simp [Region.wanted, hg]
  rw [if_pos hwt]
  rcases hH with ⟨_, hr⟩ | ⟨e1, _⟩
  · have hlis : listed.getD is false = false := by
      cases hc : listed.getD is false with
      | false => rfl
      | true =>
        exfalso
        obtain ⟨oi, g1, e, g2, g3, g4⟩ := Region.waitsFor_spec hw
        have := inv.closed is oi (by simpa using g1) hc e g2 g3
        rw [g4, hl] at this
        cases this
    have heop : eop P w₀ h ((slotsAt s l Vs ia).keep (looksL l o)) o.op (fun x h' => ∃ k, h k = none ∧ x = .ptr (.own k) 0 ∧ h' = h.set k zb) := by
      rw [hop]
      simp only [eop, hz]
      exact fun k hk => ⟨k, hk, rfl, by rw [hzb]⟩
    refine eop_ok o heop hr hs fun ψ' x h' v w' h1 h2 h3 ⟨k, hk, e1, e2⟩ => ?_
    subst e1 e2
    have hlt : ta < a.tmps.size := by rw [inv.tsize]; exact nth_lt l ia ta hall (by rw [nthDst_eq, hol]; exact hd)
    refine hn ψ' v w' h1 (.inr ⟨set_self hsz, k, hk, ?_, ?_⟩) (by rw [hV]; trivial)
    · have : (a.put o.dst v).tmps.getD ta undef = v := by rw [hd]; simp [Act.put, hlt]
      rw [this]; exact h3
    · rw [set_other hne, hlis, if_neg (by decide)]; exact h2
  · rw [hl] at e1; cases e1

theorem StepH.store {l : List Oper} {Vs : List AVal} {s : Slots} {o : Oper} {ia is ta : Nat} {zb b : Blk} (hol : l[is]? = some o) (hg : o.guard = none) (hd : o.dst = none) (hne : is ≠ ia) (hw : Region.waitsFor .any l.toArray is ia = true) (hV : Vs.getD is .dead = .dead)
    (hst : ∀ k, h k = none → eop P w₀ (h.set k zb) (((slotsAt s l Vs is).put ta (.ptr (.own k) 0)).keep (looksL l o)) o.op (fun _ h' => h' = h.set k b)) : StepH P w₀ n (HSA w₀ h ia is ta zb b) l Vs s is o := by
  intro listed ψ w a next Q hl hsz he hH inv hs hn
  have hwt : Region.wanted o (yielded l.toArray a.tmps) = true := by simp [Region.wanted, hg]
  rw [if_pos hwt]
  have hlia : listed.getD ia false = true := by
    obtain ⟨oi, g1, e, g2, g3, g4⟩ := Region.waitsFor_spec hw
    have g1' : l[is]? = some oi := by simpa using g1
    rw [hol] at g1'
    obtain rfl := Option.some.inj g1'
    rw [← g4]
    exact he e g2 g3
  rcases hH with ⟨e1, _⟩ | ⟨e1, k, hk, hv, hr⟩
  · rw [hlia] at e1; cases e1
  · rw [hl, if_neg (by decide)] at hr
    have hs' : SRel ψ n (((slotsAt s l Vs is).put ta (.ptr (.own k) 0)).keep (looksL l o)) a := by
      refine ⟨hs.size, hs.defers, fun t => ?_⟩
      have h0 := hs.val t
      rw [Slots.get_keep] at h0 ⊢
      by_cases hc : (looksL l o).contains t = true
      · rw [if_pos hc] at h0 ⊢
        rw [Slots.get_put]
        by_cases ht : t = ta
        · subst ht; simpa using hv
        · simpa [ht] using h0
      · rw [if_neg hc]; trivial
    refine eop_ok o (hst k hk) hr hs' fun ψ' x h' v w' h1 h2 h3 e2 => ?_
    subst e2
    refine hn ψ' v w' h1 (.inr ⟨by rw [set_other (Ne.symm hne)]; exact hlia, k, hk, ?_, ?_⟩) (by rw [hV]; trivial)
    · rw [hd]; exact VR_mono h1 _ _ hv
    · rw [set_self hsz, if_pos rfl]; exact h2

/-- 0: writes; 1: asked at every heap near h; 2: reads. -/
def kindB : Op → Nat
  | .alloc .. => 0
  | .store .. => 0
  | .call .. => 1
  | .convert .. => 1
  | .box .. => 1
  | .buildSlice .. => 1
  | .makeSlice .. => 1
  | _ => 2

def Near (h g : AHeap) : Prop := g = h ∨ ∃ k c, h k = none ∧ g = h.set k c
theorem Near.sub {h g : AHeap} (hn : Near h g) : ∀ k b, h k = some b → g k = some b := by
  intro k b hb
  rcases hn with rfl | ⟨k', c, hk, rfl⟩
  · exact hb
  · rw [AHeap.set_ne]
    · exact hb
    · intro e; subst e; rw [hk] at hb; cases hb

theorem eop_reads {op : Op} {s : Slots} {K : AVal → AHeap → Prop} (hp : kindB op = 2) (he : eop P w₀ h s op K) : (pop P w₀ h s op).pre ∧ K (pop P w₀ h s op).val h := by
  cases op <;> first
    | exact he
    | (simp [kindB] at hp; done)

/-- A step that reads does so beside other memory. -/
theorem StepOk.far {ops : List Oper} {o : Oper} {S : Slots} {V : AVal} {g : AHeap} (hg : o.guard = none) (hp : kindB o.op = 2) (hn : Near h g) (he : eop P w₀ h (S.keep (looksL ops o)) o.op (fun x h' => x = V ∧ h' = h)) : StepOk P w₀ n g ops o S V := by
  intro ψ w a next Q hr hs hnx
  have hw : Region.wanted o (yielded ops.toArray a.tmps) = true := by simp [Region.wanted, hg]
  rw [if_pos hw]
  obtain ⟨h1, h2, _⟩ := eop_reads hp he
  obtain ⟨r, e1, e2⟩ := pop_ok o h1 (hr.forget hn.sub) hs
  exact wp_value (e1 w (Same.refl w)) (hnx ψ r w ψ.le_refl hr (h2 ▸ e2))

def storesV (op : Op) (s : Slots) (vs : List AVal) : Prop :=
  match op with
  | .store _ _ y => (ev s y).live = true ∧ (ev s y).cells = vs
  | _ => True

def vOpsC (P : Program) (w₀ : World) (ops : List Oper) (vs : List AVal) : List Oper → Slots → AHeap → (Slots → Prop) → Prop
  | [], s, _, K => K s
  | o :: rest, s, h, K => match kindB o.op with
    | 0 => storesV o.op s vs ∧ vOpsC P w₀ ops vs rest (putD s o.dst .dead) h K
    | 1 => o.guard = none ∧ ∃ V, (∀ g, Near h g → eop P w₀ g (s.keep (looksL ops o)) o.op (fun x h' => x = V ∧ h' = g)) ∧ vOpsC P w₀ ops vs rest (putD s o.dst V) h K
    | _ => o.guard = none ∧ vOps P w₀ ops [o] s h (fun s' h' => vOpsC P w₀ ops vs rest s' h K)

theorem vOpsC_steps {l : List Oper} {vs : List AVal} {s : Slots} {K : Slots → Prop} : ∀ (rest pre : List Oper) (A : List AVal), l = pre ++ rest → A.length = pre.length → vOpsC P w₀ l vs rest (slotsAt s l A pre.length) h K →
    ∃ B : List AVal, B.length = rest.length ∧ (∀ i o, pre.length ≤ i → l[i]? = some o → (kindB o.op = 0 → (A ++ B).getD i .dead = .dead ∧ storesV o.op (slotsAt s l (A ++ B) i) vs) ∧ (kindB o.op ≠ 0 → ∀ g, Near h g → StepOk P w₀ n g l o (slotsAt s l (A ++ B) i) ((A ++ B).getD i .dead))) ∧ K (slotsAt s l (A ++ B) l.length)
  | [], pre, A, hl, hA, hv => ⟨[], rfl, fun i o hi ho => by
      rw [hl] at ho; simp at ho
      have := (List.getElem?_eq_some_iff.1 ho).1
      omega, by
      have e : l.length = pre.length := by rw [hl]; simp
      rw [List.append_nil, e]; exact hv⟩
  | o :: rest, pre, A, hl, hA, hv => by
    have hat : l[pre.length]? = some o := by rw [hl]; simp
    have go : ∀ V, ((kindB o.op = 0 → V = .dead ∧ storesV o.op (slotsAt s l A pre.length) vs) ∧ (kindB o.op ≠ 0 → ∀ g, Near h g → StepOk P w₀ n g l o (slotsAt s l A pre.length) V)) → vOpsC P w₀ l vs rest (putD (slotsAt s l A pre.length) o.dst V) h K →
        ∃ B : List AVal, B.length = (o :: rest).length ∧ (∀ i o, pre.length ≤ i → l[i]? = some o → (kindB o.op = 0 → (A ++ B).getD i .dead = .dead ∧ storesV o.op (slotsAt s l (A ++ B) i) vs) ∧ (kindB o.op ≠ 0 → ∀ g, Near h g → StepOk P w₀ n g l o (slotsAt s l (A ++ B) i) ((A ++ B).getD i .dead))) ∧ K (slotsAt s l (A ++ B) l.length) := by
      intro V hst hv'
      have e : slotsAt s l (A ++ [V]) (pre ++ [o]).length = putD (slotsAt s l A pre.length) o.dst V := by
        rw [List.length_append, List.length_singleton, slotsAt, hat]
        simp only
        rw [slotsAt_take s l A [V] _ (by omega)]
        congr 1
        simp [List.getD, ← hA]
      obtain ⟨B, h1, h2, h3⟩ := vOpsC_steps (l := l) (s := s) (K := K) (vs := vs) rest (pre ++ [o]) (A ++ [V]) (by simp [hl]) (by simp [hA]) (by rw [e]; exact hv')
      refine ⟨V :: B, by simp [h1], fun i o' hi ho' => ?_, by simpa using h3⟩
      rcases Nat.eq_or_lt_of_le hi with e' | e'
      · subst e'
        rw [hat] at ho'
        obtain rfl := Option.some.inj ho'
        rw [slotsAt_take s l A (V :: B) _ (by omega)]
        have : (A ++ V :: B).getD pre.length .dead = V := by simp [List.getD, ← hA]
        rw [this]
        exact hst
      · have := h2 i o' (by simp; omega) ho'
        simpa using this
    simp only [vOpsC] at hv
    split at hv
    · rename_i hk
      exact go _ ⟨fun _ => ⟨rfl, hv.1⟩, fun h => absurd hk h⟩ hv.2
    · rename_i hk
      obtain ⟨hg, V, h1, h2⟩ := hv
      exact go V ⟨fun h => (by rw [hk] at h; cases h), fun _ g hn => .plain hg (h1 g hn)⟩ h2
    · rename_i hk0 hk1
      have hk : kindB o.op = 2 := by
        revert hk0 hk1
        cases o.op <;> simp [kindB]
      obtain ⟨hg, hv⟩ := hv
      simp only [vOps, hg] at hv
      obtain ⟨V, h1, h2⟩ := hv
      exact go V ⟨fun h => (by rw [hk] at h; cases h), fun _ g hn => .far hg hk hn h1⟩ h2

theorem vOpsC_mono {ops : List Oper} {vs : List AVal} {K K' : Slots → Prop} : ∀ {l : List Oper} {s : Slots}, vOpsC P w₀ ops vs l s h K → (∀ s, K s → K' s) → vOpsC P w₀ ops vs l s h K'
  | [], s, hv, hk => hk _ hv
  | o :: rest, s, hv, hk => by
    simp only [vOpsC] at hv ⊢
    split
    · rename_i e
      simp only [e] at hv
      exact ⟨hv.1, vOpsC_mono hv.2 hk⟩
    · rename_i e
      simp only [e] at hv
      obtain ⟨hg, V, h1, h2⟩ := hv
      exact ⟨hg, V, h1, vOpsC_mono h2 hk⟩
    · split at hv
      · rename_i x y _ _ e; exact absurd e (by assumption)
      · rename_i x y _ _ e; exact absurd e (by assumption)
      · exact ⟨hv.1, vOps_mono hv.2 fun _ _ hv' => vOpsC_mono hv' hk⟩

/-- The static conditions of a statement that allocates at ia, into slot ta, and stores there at is. -/
def allocB (l : List Oper) (ia is ta : Nat) : Bool :=
  orderB l && Region.waitsFor .any l.toArray is ia && decide (is ≠ ia) &&
    (List.range l.length).all fun i => match l[i]? with
      | none => true
      | some o => decide (i = ia) || decide (i = is) || (decide (kindB o.op ≠ 0) && decide (o.dst ≠ some ta))

theorem awp_draw_anyA {Q : Exit → Slots → AHeap → Prop} {s : Slots} {id : Nat} {l : List Oper} (ia is ta u : Nat) {e t : TypeId} {z : Value} {cs vs : List AVal} {ty ty' : TypeId} {pos pos' : String} {af af' : Array Edge} (hm : P.follows .mixedOrders = true) (hB : allocB l ia is ta = true) (hd : dstsOk n l = true)
    (hoa : l[ia]? = some ⟨some ta, .alloc e, ty, pos, af, none⟩) (hos : l[is]? = some ⟨none, .store t (.tmp ta) (.tmp u), ty', pos', af', none⟩) (hu : u ≠ ta) (hz : zeOf P e = some z) (hcs : z.cells.toList.map absS = cs)
    (hsz : szOf P t = some vs.length) (hlen : vs.length ≤ cs.length) (hsc : allScal vs = true)
    (hc : vOpsC P w₀ l vs l s h (fun s' => ∀ k, h k = none → Q .normal (s'.put ta (.ptr (.own k) 0)) (h.set k ⟨setAt cs 0 vs, 0⟩))) : Awp P w₀ n (.region id l.toArray true) Q s h := by
  intro φ a w hr hs
  simp only [allocB, Bool.and_eq_true, decide_eq_true_eq] at hB
  obtain ⟨⟨⟨hO, hwt⟩, hne⟩, hrest⟩ := hB
  obtain ⟨Vs, h1, h2, h3⟩ := vOpsC_steps (P := P) (w₀ := w₀) (n := n) (h := h) (l := l) (vs := vs) (s := s) l [] [] rfl rfl hc
  simp only [List.nil_append, List.length_nil, Nat.zero_le, true_implies] at h1 h2 h3
  have hf : ∀ j, (Array.replicate l.toArray.size false).getD j false = false := fun j => by simp [Array.getD]
  refine wp_region_any hm ?_
  refine any_okH (w₀ := w₀) (P := P) (n := n) (HS := HSA w₀ h ia is ta ⟨cs, 0⟩ ⟨setAt cs 0 vs, 0⟩) (φ := φ) hd hO (s := s) (Vs := Vs) (fun i o ho => ?_) (fun listed ψ a' w' hle hH hall hs' => ?_) _ _ _ _ φ φ.le_refl (.inl ⟨hf ia, hr.drew⟩) ?_ ?_
  · by_cases e1 : i = ia
    · subst e1
      rw [hoa] at ho
      obtain rfl := Option.some.inj ho
      exact StepH.alloc hd hoa rfl rfl rfl hz (by rw [hcs]) hne hwt ((h2 i _ hoa).1 rfl).1
    · by_cases e2 : i = is
      · subst e2
        rw [hos] at ho
        obtain rfl := Option.some.inj ho
        obtain ⟨g1, g2, g3⟩ := (h2 i _ hos).1 rfl
        refine StepH.store hos rfl rfl hne hwt g1 fun k hk => ?_
        have x1 : ev (((slotsAt s l Vs i).put ta (.ptr (.own k) 0)).keep (looksL l ⟨none, .store t (.tmp ta) (.tmp u), ty', pos', af', none⟩)) (.tmp ta) = .ptr (.own k) 0 := by
          simp [ev, Slots.get_keep, looksL, opTmps, Op.operands, Slots.get_put]
        have x2 : ev (((slotsAt s l Vs i).put ta (.ptr (.own k) 0)).keep (looksL l ⟨none, .store t (.tmp ta) (.tmp u), ty', pos', af', none⟩)) (.tmp u) = ev (slotsAt s l Vs i) (.tmp u) := by
          simp [ev, Slots.get_keep, looksL, opTmps, Op.operands, Slots.get_put, hu]
        simp only [eop, eStore, x1, x2, AHeap.set_same, hsz, g2, g3, AHeap.set_set]
        exact ⟨⟨trivial, trivial, by omega, Nat.le_refl _, hsc⟩, trivial⟩
      · rw [List.all_eq_true] at hrest
        have h4 := hrest i (by rw [List.mem_range]; exact (List.getElem?_eq_some_iff.1 ho).1)
        simp only [ho, e1, e2, decide_false, Bool.false_or, Bool.and_eq_true, decide_eq_true_eq] at h4
        have h5 := (h2 i o ho).2 h4.1
        exact StepH.plain e1 e2 h4.2 (h5 h (.inl rfl)) fun k c hk => h5 _ (.inr ⟨k, c, hk, rfl⟩)
  · have l1 := (List.getElem?_eq_some_iff.1 hoa).1
    have l2 := (List.getElem?_eq_some_iff.1 hos).1
    rcases hH with ⟨e1, _⟩ | ⟨_, k, hk, hv, hr'⟩
    · rw [hall ia l1] at e1; cases e1
    · rw [hall is l2, if_pos rfl] at hr'
      refine ⟨ψ, _, _, hle, hr', ⟨hs'.size, hs'.defers, fun t => ?_⟩, h3 k hk⟩
      rw [Slots.get_put]
      by_cases ht : t = ta
      · subst ht; simpa using hv
      · simpa [ht] using hs'.val t
  · exact ⟨by simp, fun j oj _ hl => (by rw [hf] at hl; cases hl), hs.size, hs.defers, fun t j oj _ _ hl => (by rw [hf] at hl; cases hl), fun t _ => hs.val t⟩
  · have := List.length_filter_le (!·) (Array.replicate l.toArray.size false).toList
    simpa using this

theorem awp_dseq_anyA {Q : Exit → Slots → AHeap → Prop} {s : Slots} {id : Nat} {l : List Oper} {y : Code} (ia is ta u : Nat) (L : List Nat) {e t : TypeId} {z : Value} {cs vs : List AVal} {ty ty' : TypeId} {pos pos' : String} {af af' : Array Edge} (hm : P.follows .mixedOrders = true) (hB : allocB l ia is ta = true) (hd : dstsOk n l = true)
    (hoa : l[ia]? = some ⟨some ta, .alloc e, ty, pos, af, none⟩) (hos : l[is]? = some ⟨none, .store t (.tmp ta) (.tmp u), ty', pos', af', none⟩) (hu : u ≠ ta) (hz : zeOf P e = some z) (hcs : z.cells.toList.map absS = cs)
    (hsz : szOf P t = some vs.length) (hlen : vs.length ≤ cs.length) (hsc : allScal vs = true)
    (hc : ∀ K : Slots → AHeap → Prop, (∀ s h, Awp P w₀ n y Q s h → K s h) → vOpsC P w₀ l vs l s h (fun s' => ∀ k, h k = none → K ((s'.put ta (.ptr (.own k) 0)).keep L) (h.set k ⟨setAt cs 0 vs, 0⟩))) : Awp P w₀ n (.seq (.region id l.toArray true) y) Q s h :=
  awp_seq (awp_draw_anyA ia is ta u hm hB hd hoa hos hu hz hcs hsz hlen hsc (vOpsC_mono (hc (fun s h => Awp P w₀ n y Q s h) (fun _ _ hk => hk)) fun _ hk k hk' => Awp.keep L (hk k hk')))

variable {ops rest : List Oper} {dst : Option Tmp} {ty : TypeId} {pos : String} {af : Array Edge}
theorem vOpsC_callV {vs : List AVal} {K : Slots → Prop} {s : Slots} {fo : Operand} {args : List Operand} {ts : Array TypeId} {f : FuncId} {cap xs : List AVal} {V : AVal} (hf : ev s fo = .func f cap) (hx : evs s args ++ cap = xs) (hc : ∀ g, Near h g → ACall P w₀ f xs g (fun x h' => x = V ∧ h' = g))
    (hk : vOpsC P w₀ ops vs rest (putD s dst V) h K) : vOpsC P w₀ ops vs (⟨dst, .call ⟨.value fo, args.toArray, ts⟩, ty, pos, af, none⟩ :: rest) s h K := by
  simp only [vOpsC, kindB]
  refine ⟨trivial, V, fun g hg => ?_, hk⟩
  have e1 : ev (s.keep (looksL ops ⟨dst, .call ⟨.value fo, args.toArray, ts⟩, ty, pos, af, none⟩)) fo = .func f cap := by
    rw [ev_keep (looks_of (by simp [Op.operands, Call.operands]))]; exact hf
  have e2 : evs (s.keep (looksL ops ⟨dst, .call ⟨.value fo, args.toArray, ts⟩, ty, pos, af, none⟩)) args = evs s args :=
    evs_keep fun x hx => looks_of (by simp [Op.operands, Call.operands, hx])
  simp only [eop, e1, e2, hx]
  exact hc g hg
end
end Go.AM
