/-
  An assertion layer over the model's wp, part G: one operation is sound.
  Conditions: none. Nothing here is about a particular program.
-/
import Derived.Test.YthiiakghjoeikaaGreatDoorAmF
import Derived.Laws.IdiomStrings
set_option linter.unusedSimpArgs false
set_option linter.unnecessarySimpa false
set_option linter.unusedVariables false
namespace Go.AM
open Go.RowKit (Below)

theorem setAt_eq {α : Type} : ∀ (vs cs : List α) (m : Nat), m + vs.length ≤ cs.length → setAt cs m vs = cs.take m ++ vs ++ cs.drop (m + vs.length)
  | [], cs, m, _ => by simp [setAt]
  | v :: vs, cs, m, h => by
    simp only [List.length_cons] at h
    simp only [setAt]
    rw [setAt_eq vs _ (m + 1) (by simp; omega)]
    have e1 : (cs.set m v).drop (m + 1 + vs.length) = cs.drop (m + (v :: vs).length) := by
      rw [List.drop_set_of_lt (by omega)]
      congr 1
      simp only [List.length_cons]
      omega
    have e2 : (cs.set m v).take (m + 1) = cs.take m ++ [v] := by
      apply List.ext_getElem?
      intro i
      simp only [List.getElem?_take, List.getElem?_set, List.getElem?_append, List.length_take]
      have c0 : min m cs.length = m := by omega
      rw [c0]
      rcases Nat.lt_trichotomy i m with c | c | c
      · have c1 : i < m + 1 := by omega
        have c2 : ¬ m = i := by omega
        simp [c, c1, c2]
      · subst c
        have c1 : i < cs.length := by omega
        simp [c1]
      · have c1 : ¬ i < m + 1 := by omega
        have c2 : ¬ i < m := by omega
        have c3 : i - m ≠ 0 := by omega
        simp [c1, c2, c3]
    rw [e1, e2, List.append_assoc (cs.take m)]
    rfl

theorem freeze_putRow (w : World) (g n : Nat) (cs : Array Value) (e : TypeId) (lo hi : Nat) (hg : w.heap[g]? = some (.cells cs e (lo, hi))) :
    w.freeze ⟨g, n, none⟩ 1 = AM.World.putRow w g cs e (if lo == hi then (n, n + 1) else (min lo n, max hi (n + 1))) := by
  unfold World.freeze AM.World.putRow
  rw [if_neg (by decide)]
  congr 1
  apply Array.ext_getElem?
  intro i
  rw [Array.getElem?_modify, Array.getElem?_setIfInBounds]
  by_cases hi : g = i
  · subst hi
    have hlt : g < w.heap.size := by
      rcases Nat.lt_or_ge g w.heap.size with h | h
      · exact h
      · rw [Array.getElem?_eq_none h] at hg; cases hg
    rw [hg]
    simp [hlt]
  · simp [hi]

/-- The run-time's mark behind a row of the call's own. -/
theorem HRel.mark {P : Program} {w₀ w : World} {φ : PMap} {h : AHeap} (hr : HRel w₀ φ h w) {k : Nat} {b : Blk} {p : Place} (hk : h k = some b) (hp : φ k = some p) (hf : b.frz = 0) (ad : Addr) (had : ad.block = p.blk) :
    ∃ w', (markStringish ad).run P w = .ok () w' ∧ HRel w₀ φ h w' := by
  obtain ⟨q, hq, hq1, ok⟩ := hr.own k b hk
  have hpq : q = p := by rw [hp] at hq; exact (Option.some.inj hq).symm
  subst hpq
  obtain ⟨cs, e, lo, hi, h1, h2, h3, h4, h5, h6⟩ := ok.row
  have hgl : q.blk < w.heap.size := hr.lt k q hp
  have hsh : w.shape? q.blk = some (e, cs.size) := by simp [World.shape?, h1]
  refine ⟨w.freeze ⟨q.blk, cs.size, none⟩ 1, by simp [markStringish, had, hsh], ?_⟩
  rw [freeze_putRow w q.blk cs.size cs e lo hi h1]
  refine HRel.forget (h := h.set k b) (hr.write k b b q hk hp (by simp [AM.World.putRow]) rfl rfl rfl (fun i hi => putRow_other w _ _ _ _ i hi) (fun cs' e' fr' h' => by rw [h1] at h'; cases h'; exact ⟨_, _, putRow_get w _ _ _ _ hgl⟩) ?_) fun j c hj => ?_
  · have hle : (if lo == hi then (cs.size, cs.size + 1) else (min lo cs.size, max hi (cs.size + 1))).1 ≤ (if lo == hi then (cs.size, cs.size + 1) else (min lo cs.size, max hi (cs.size + 1))).2 := by
      have := h6.1
      split
      · exact Nat.le_succ _
      · simp only
        omega
    have hfr : ∀ i, (if lo == hi then (cs.size, cs.size + 1) else (min lo cs.size, max hi (cs.size + 1))).1 ≤ i → i < (if lo == hi then (cs.size, cs.size + 1) else (min lo cs.size, max hi (cs.size + 1))).2 → cs.size ≤ i := by
      intro i i1 i2
      split at i1
      · exact i1
      · rename_i hne
        have hne' : lo ≠ hi := by simpa using hne
        simp only at i1
        by_cases hlh : lo < hi
        · have := h6.2 lo (Nat.le_refl _) hlh
          omega
        · have := h6.1
          omega
    exact ⟨cs, e, _, _, putRow_get w _ _ _ _ hgl, h2, h3, h4, h5, hle, fun i i1 i2 => .inr (hfr i i1 i2)⟩
  · by_cases ej : j = k
    · subst ej; rw [AHeap.set_same]; rw [hk] at hj; exact hj
    · rw [AHeap.set_ne _ _ ej]; exact hj

theorem VR_own_blk {φ : PMap} {k o m : Nat} {c : Cap} {v : Value} {ad : Addr} {cap : Nat} {q : Place} (h : VR φ (.slice (.own k) o m c) v) (hv : v = .slice (some ad) m cap) (hq : φ k = some q) (hm : m ≠ 0) : ad.block = q.blk := by
  subst hv
  cases c with
  | exact c =>
    simp only [VR] at h
    obtain ⟨a, e, ha⟩ := h
    simp only [Value.slice.injEq, Option.some.injEq] at e
    have := ha (.inr hm)
    simp only [locAddr, hq, Option.map_some, Option.some.injEq] at this
    rw [e.1, ← this]
  | grow es =>
    simp only [VR] at h
    obtain ⟨k', p, c', a, e0, e1, e, e2, e3⟩ := h
    cases e0
    rw [hq] at e1
    cases e1
    simp only [Value.slice.injEq, Option.some.injEq] at e
    have := (e3 (by omega)).1
    rw [e.1, this]

/-- A row of the call's own grows within its room: the block gets a new name. -/
theorem own_extend {P : Program} {w₀ w : World} {φ : PMap} {h : AHeap} (hr : HRel w₀ φ h w) {k : Nat} {b : Blk} {p : Place} (hk : h k = some b) (hp : φ k = some p) {o : Nat} {xs : List AVal} {vs : List Value}
    (hx : VRs φ xs vs) (hs : allScal xs = true) (ho : o ≤ b.cells.length) (hfit : b.cells.length + xs.length ≤ p.room) (hz : b.frz = 0 ∨ o < b.frz) (k' : Nat) (hk' : h k' = none) (hφ : φ k' = none) (hty : tyOf k' = if o = 0 then tyOf k else none) :
    ∃ w', (storeCells ⟨p.blk, p.off + b.cells.length, none⟩ vs).run P w = .ok () w' ∧ φ.le (φ.upd k' ⟨p.blk, p.off + o, p.room - o⟩) ∧
      HRel w₀ (φ.upd k' ⟨p.blk, p.off + o, p.room - o⟩) ((h.del k).set k' ⟨b.cells.drop o ++ xs, b.frz - o⟩) w' := by
  obtain ⟨q, hq, hq1, ok⟩ := hr.own k b hk
  have hpq : q = p := by rw [hp] at hq; exact (Option.some.inj hq).symm
  subst hpq
  obtain ⟨cs, e, lo, hi, h1, h2, h3, h4, h5, h6⟩ := ok.row
  have hl := VRs_length hx
  have hgl : q.blk < w.heap.size := hr.lt k q hp
  have hle := PMap.le_upd hφ (⟨q.blk, q.off + o, q.room - o⟩ : Place)
  have hkk : k' ≠ k := fun e => by subst e; rw [hk] at hk'; cases hk'
  refine ⟨_, run_storeCells' q.blk (q.off + b.cells.length) e lo hi vs 0 cs w h1 (by omega) (VRs_oneCell hx hs) (fun j hj hj' hc => ?_), hle, ?_⟩
  · have := h6.2 j hc.1 hc.2
    omega
  · have hset := setAt_eq vs cs.toList (q.off + b.cells.length + 0) (by simp; omega)
    have other : ∀ j b', ((h.del k).set k' ⟨b.cells.drop o ++ xs, b.frz - o⟩ : AHeap) j = some b' → j = k' ∨ (j ≠ k' ∧ j ≠ k ∧ h j = some b') := fun j b' hj => by
      by_cases e1 : j = k'
      · exact .inl e1
      · rw [AHeap.set_ne _ _ e1] at hj
        by_cases e2 : j = k
        · subst e2; simp [AHeap.del] at hj
        · simp only [AHeap.del, e2, if_false] at hj
          exact .inr ⟨e1, e2, hj⟩
    refine ⟨⟨hr.below.os, hr.below.tape, hr.below.output, by simpa [AM.World.putRow] using hr.below.size, fun i hi => ?_⟩, fun j b' hj => ?_, fun j j' b1 b2 p1 p2 g1 g2 f1 f2 ee => ?_, fun j r hj => ?_, ?_, fun j r hj t ht => ?_⟩
    · rw [putRow_other _ _ _ _ _ i (by omega)]
      exact hr.below.block i hi
    · rcases other j b' hj with rfl | ⟨n1, n2, hj'⟩
      · rw [AHeap.set_same] at hj
        simp only [Option.some.injEq] at hj
        subst hj
        refine ⟨_, PMap.upd_same _ _ _, hq1, ⟨(setAt cs.toList (q.off + b.cells.length + 0) vs).toArray, e, lo, hi, putRow_get w _ _ _ _ hgl, ?_, ?_, ?_, ?_, ?_⟩⟩
        · simp only [List.size_toArray, setAt_length, Array.length_toList]
          omega
        · simp only [List.length_append, List.length_drop]
          omega
        · simp only [List.length_append, List.length_drop]
          omega
        · have h5' := VRs_mono hle _ _ (VRs_append (VRs_drop o h5) hx)
          have e5 : ((setAt cs.toList (q.off + b.cells.length + 0) vs).drop (q.off + o)).take (b.cells.drop o ++ xs).length = ((cs.toList.drop q.off).take b.cells.length).drop o ++ vs := by
            rw [hset]
            simp only [Nat.add_zero, List.length_append, List.length_drop]
            rw [List.append_assoc, List.drop_append_of_le_length (by simp; omega)]
            apply List.ext_getElem?
            intro i
            simp only [List.getElem?_take, List.getElem?_append, List.getElem?_drop, List.length_drop, List.length_take, Array.length_toList]
            by_cases c1 : i < b.cells.length - o
            · have : i < min (q.off + b.cells.length) cs.size - (q.off + o) := by omega
              have c2 : i < min b.cells.length (cs.size - q.off) - o := by omega
              have c3 : i < b.cells.length - o + xs.length := by omega
              have c4 : q.off + o + i < q.off + b.cells.length := by omega
              have c5 : o + i < b.cells.length := by omega
              simp only [c3, this, c2, c4, c5, if_true]
              congr 1
              omega
            · have c2 : ¬ i < min (q.off + b.cells.length) cs.size - (q.off + o) := by omega
              have c3 : ¬ i < min b.cells.length (cs.size - q.off) - o := by omega
              simp only [c2, c3, if_false]
              have c6 : i - (min (q.off + b.cells.length) cs.size - (q.off + o)) = i - (min b.cells.length (cs.size - q.off) - o) := by omega
              rw [c6]
              by_cases c4 : i < b.cells.length - o + xs.length
              · have c5 : i - (min b.cells.length (cs.size - q.off) - o) < vs.length := by omega
                simp only [c4, c5, if_true]
              · have c5 : ¬ i - (min b.cells.length (cs.size - q.off) - o) < vs.length := by omega
                simp only [c4, if_false]
                rw [List.getElem?_eq_none (by omega)]
          simp only
          rw [e5]
          exact h5'
        · refine ⟨h6.1, fun i hi1 hi2 => ?_⟩
          have := h6.2 i hi1 hi2
          simp only [List.size_toArray, setAt_length, Array.length_toList]
          omega
      · obtain ⟨r, hr0, hr1, hr2⟩ := hr.own j b' hj'
        have hne : r.blk ≠ q.blk := fun e' => n2 (hr.inj j k b' b r q hj' hk hr0 hp e')
        exact ⟨r, hle j r hr0, hr1, (hr2.world (putRow_other _ _ _ _ _ _ hne)).mono hle⟩
    · rcases other j b1 g1 with rfl | ⟨n1, n2, g1'⟩ <;> rcases other j' b2 g2 with rfl | ⟨m1, m2, g2'⟩
      · rfl
      · exfalso
        rw [PMap.upd_same] at f1
        simp only [Option.some.injEq] at f1
        subst f1
        obtain ⟨r, hr0, _, _⟩ := hr.own j' b2 g2'
        have : r = p2 := by
          have := hle j' r hr0
          rw [f2] at this
          exact (Option.some.inj this).symm
        subst this
        exact m2 (hr.inj j' k b2 b r q g2' hk hr0 hp ee.symm)
      · exfalso
        rw [PMap.upd_same] at f2
        simp only [Option.some.injEq] at f2
        subst f2
        obtain ⟨r, hr0, _, _⟩ := hr.own j b1 g1'
        have : r = p1 := by
          have := hle j r hr0
          rw [f1] at this
          exact (Option.some.inj this).symm
        subst this
        exact n2 (hr.inj j k b1 b r q g1' hk hr0 hp ee)
      · simp only [PMap.upd, n1, m1, if_false] at f1 f2
        exact hr.inj j j' b1 b2 p1 p2 g1' g2' f1 f2 ee
    · simp only [AM.World.putRow, Array.size_setIfInBounds]
      by_cases e1 : j = k'
      · subst e1
        rw [PMap.upd_same] at hj
        simp only [Option.some.injEq] at hj
        subst hj
        exact hgl
      · simp only [PMap.upd, e1, if_false] at hj
        exact hr.lt j r hj
    · obtain ⟨N, hN⟩ := hr.fin
      exact ⟨max N (k' + 1), fun j hj => by
        have h1 : j ≠ k' := by omega
        simp only [PMap.upd, h1, if_false]
        exact hN j (by omega)⟩
    · by_cases e1 : j = k'
      · subst e1
        rw [PMap.upd_same] at hj
        simp only [Option.some.injEq] at hj
        subst hj
        rw [hty] at ht
        by_cases e0 : o = 0
        · rw [if_pos e0] at ht
          obtain ⟨t0, cs', fr', t1⟩ := hr.typ k q hp t ht
          rw [h1] at t1
          cases t1
          exact ⟨by simp only; omega, _, _, putRow_get w _ _ _ _ hgl⟩
        · rw [if_neg e0] at ht; cases ht
      · simp only [PMap.upd, e1, if_false] at hj
        obtain ⟨t0, cs', fr', t1⟩ := hr.typ j r hj t ht
        refine ⟨t0, ?_⟩
        by_cases e2 : r.blk = q.blk
        · rw [e2] at t1 ⊢
          rw [h1] at t1
          cases t1
          exact ⟨_, _, putRow_get w _ _ _ _ hgl⟩
        · exact ⟨cs', fr', by rw [putRow_other _ _ _ _ _ _ e2]; exact t1⟩

theorem wp_value {P : Program} {o : Oper} {a : Act} {w w' : World} {v : Value} {next : Act → World → Prop} {Q : Exit → Act → World → Prop} (h : (execOp a.eval o).run P w = .ok (.value v) w') (hn : next (a.put o.dst v) w') : o.wp P a w next Q := by
  unfold Oper.wp
  rw [h]
  exact hn

theorem wp_skip' {P : Program} {o : Oper} {a : Act} {w w' : World} {next : Act → World → Prop} {Q : Exit → Act → World → Prop} (h : (execOp a.eval o).run P w = .ok .skip w') (hn : next (a.put o.dst undef) w') : o.wp P a w next Q := by
  unfold Oper.wp
  rw [h]
  exact hn

theorem VR_undef (φ : PMap) : VR φ (.tuple []) undef := by
  simp only [VR]
  exact ⟨[], rfl, by simp [VRs]⟩

theorem VR_new (φ : PMap) (k : Nat) (p : Place) : VR (φ.upd k p) (.ptr (.own k) 0) (.pointer (some ⟨p.blk, p.off, none⟩)) := by
  simp only [VR]
  exact ⟨_, by simp [locAddr, PMap.upd], rfl⟩

theorem wp_lands {P : Program} {o : Oper} {a : Act} {w : World} {f : FuncId} {vals : Array Value} {R : Value → World → Prop} {next : Act → World → Prop} {Q : Exit → Act → World → Prop}
    (hx : (execOp a.eval o).run P w = (callFunc f vals).run P w) (h : Lands P f vals w R) (hn : ∀ v w', R v w' → next (a.put o.dst v) w') : o.wp P a w next Q := by
  unfold Oper.wp
  rw [hx]
  rcases h with ⟨fn, h1, h2, h3, h4⟩ | ⟨v, w', h1, h2⟩
  · have : (callFunc f vals).run P w = .ok (.enter f vals) w := by
      have hb : ¬ fn.body = none := fun e => by rw [e] at h3; cases h3
      have hn' : ¬ fn.name = "runtime.NumGoroutine" := by simpa using h2
      simp [callFunc, h1, hn', hb]
    rw [this, Oper.upon_enter]
    refine h4.mono fun e w' he => ?_
    obtain ⟨v, rfl, hR⟩ := he
    exact hn v w' hR
  · rw [h1]
    exact hn v w' h2

theorem fill_length (place : Nat → Option (Nat × Nat)) : ∀ {xs : List (Nat × AVal)} {cells r : List AVal}, fillA place cells xs = some r → r.length = cells.length
  | [], cells, r, h => by simp only [fillA, Option.some.injEq] at h; subst h; rfl
  | (i, x) :: xs, cells, r, h => by
    simp only [fillA] at h
    split at h
    · cases h
    · split at h
      · rw [fill_length place h, setAt_length]
      · cases h

theorem VRs_rep {φ : PMap} {z : List AVal} {u : Array Value} (hz : VRs φ z u.toList) (hne : u.size ≠ 0) (m : Nat) : VRs φ (repCells z m) ((Array.range m).map (u[· % u.size]!)).toList := by
  have hl := VRs_length hz
  simp only [Array.length_toList] at hl
  refine VRs_of_get (by simp [repCells]) fun j hj => ?_
  have hj' : j < m := by simpa [repCells] using hj
  have hlt : j % u.size < u.size := Nat.mod_lt _ (by omega)
  have h1 := VRs_get hz (j % z.length) default (by rw [← hl]; exact hlt)
  have e1 : (repCells z m).getD j .dead = z.getD (j % z.length) .dead := by simp [repCells, hj']
  have e2 : (((Array.range m).map (u[· % u.size]!)).toList).getD j default = u.toList.getD (j % z.length) default := by
    rw [← hl]
    simp [hj', hlt]
  rw [e1, e2]
  exact h1

theorem eop_ok {P : Program} {w₀ w : World} {φ : PMap} {h : AHeap} {n : Nat} {s : Slots} {a : Act} (o : Oper) {K : AVal → AHeap → Prop} (he : eop P w₀ h s o.op K) (hr : HRel w₀ φ h w) (hs : SRel φ n s a)
    {next : Act → World → Prop} {Q : Exit → Act → World → Prop} (hn : ∀ ψ x h' v w', φ.le ψ → HRel w₀ ψ h' w' → VR ψ x v → K x h' → next (a.put o.dst v) w') : o.wp P a w next Q := by
  have plain : (pop P w₀ h s o.op).pre ∧ K (pop P w₀ h s o.op).val h → o.wp P a w next Q := fun ⟨h1, h2⟩ => by
    obtain ⟨r, e1, e2⟩ := pop_ok o h1 hr hs
    exact wp_value (e1 w (Same.refl w)) (hn φ _ h r w φ.le_refl hr e2 h2)
  obtain ⟨dst, op, type, pos, after, guard⟩ := o
  cases op <;> simp only [eop] at he <;> first
    | exact plain he
    | skip
  case alloc e =>
    split at he <;> first | exact he.elim | skip
    rename_i z hz
    obtain ⟨k, hk, hφ, hkt⟩ := hr.freshN
    obtain ⟨e1, e2⟩ := hr.alloc k hk hφ (z.cells.toList.map absS) z.cells e 0 0 (by rw [List.length_map, List.take_length]; exact VRs_absS φ z.cells.toList) no_frz (fun t ht => by rw [hkt] at ht; cases ht)
    refine wp_value (v := .pointer (some ⟨w.heap.size, 0, none⟩)) (w' := w.alloc (.cells z.cells e)) ?_ (hn _ _ _ _ _ e1 e2 (VR_new _ _ _) (he k hk))
    simp [execOp, Instr.alloc, run_zero' hz, newVar, newRow]
  case box e x =>
    obtain ⟨hl, he⟩ := he
    obtain ⟨k, hk, hφ, hkt⟩ := hr.freshN
    have hx := VRs_cells (hs.ev x) hl
    have hlen := VRs_length hx
    obtain ⟨e1, e2⟩ := hr.alloc k hk hφ (ev s x).cells (a.eval x).cells e 0 0 (by rw [← hlen, List.take_length]; exact hx) no_frz (fun t ht => by rw [hkt] at ht; cases ht)
    refine wp_value (v := .pointer (some ⟨w.heap.size, 0, none⟩)) (w' := w.alloc (.cells (a.eval x).cells e)) ?_ (hn _ _ _ _ _ e1 e2 (VR_new _ _ _) (he k hk))
    simp [execOp, Instr.box, newVar, newRow]
  case buildSlice t m parts =>
    split at he <;> first | exact he.elim | skip
    rename_i cs hb
    unfold buildSliceA at hb
    split at hb <;> first | (cases hb; done) | skip
    rename_i e ht
    split at hb <;> first | (cases hb; done) | skip
    rename_i es z hes hz
    split at hb <;> first | (cases hb; done) | skip
    rename_i hc
    obtain ⟨c1, c2, c3⟩ := hc
    have hzs : VRs φ (z.cells.toList.map absS) z.cells.toList := VRs_absS φ _
    obtain ⟨r, f1, f2⟩ := fill_ok (φ := φ) (fun i => some (i * es, es)) (vs := (parts.map fun (i, x) => (i, a.eval x)).toList) (us := (Array.range (m * es)).map (z.cells[· % z.cells.size]!)) (by simpa using hs.evP parts.toList) (VRs_rep hzs (by omega) (m * es)) hb
    have hlen := VRs_length f2
    simp only [Array.length_toList] at hlen
    have hcl : cs.length = m * es := by rw [fill_length _ hb]; simp [repCells]
    obtain ⟨k, hk, hφ, hkt⟩ := hr.freshN
    obtain ⟨e1, e2⟩ := hr.alloc k hk hφ cs r e 0 0 (by rw [← hlen, ← Array.length_toList, List.take_length]; exact f2) no_frz (fun t ht => by rw [hkt] at ht; cases ht)
    refine wp_value (v := .slice (some ⟨w.heap.size, 0, none⟩) m m) (w' := w.alloc (.cells r e)) ?_ (hn _ _ _ _ _ e1 e2 ?_ (he k hk))
    · have hbig : ¬ (m * es > 2 ^ 24) := by omega
      have hb' : ¬ (16777216 < m * es) := by omega
      by_cases hz0 : m * es = 0
      · have hr0 : r = #[] := Array.eq_empty_of_size_eq_zero (by omega)
        have harr : ((Array.range (m * es)).map (z.cells[· % z.cells.size]!)) = #[] := by rw [hz0]; simp
        rw [harr] at f1
        simp at f1
        simp [execOp, Instr.buildSlice, run_underlying' ht, run_sizeOf' hes, hz0, Array.range_zero', f1, newRow]
      · simp [execOp, Instr.buildSlice, run_underlying' ht, run_sizeOf' hes, hz0, hb', run_zero' hz]
        simp at f1
        simp [f1, newRow]
    · simp only [VR]
      exact ⟨_, rfl, fun _ => by simp [locAddr, PMap.upd]⟩
  case store t x v =>
    unfold eStore at he
    split at he <;> first | exact he.elim | skip
    rename_i k o' hx
    split at he <;> first | exact he.elim | skip
    rename_i b m hb hm
    obtain ⟨⟨g1, g2, g3, g4, g5⟩, hK⟩ := he
    have hx' := hs.ev x
    rw [hx] at hx'
    simp only [VR] at hx'
    obtain ⟨ad, ha, hx'⟩ := hx'
    obtain ⟨p, hp, _, _⟩ := hr.own k b hb
    simp only [locAddr, hp, Option.map_some, Option.some.injEq] at ha
    subst ha
    have hv := VRs_cells (hs.ev v) g1
    have hlen := VRs_length hv
    simp only [Array.length_toList] at hlen
    obtain ⟨w', f1, f2⟩ := own_write (P := P) hr hb hp hv g5 g3 g4
    refine wp_skip' (w' := w') ?_ (hn φ _ _ _ _ φ.le_refl f2 (VR_undef φ) hK)
    have hsz : ¬ (a.eval v).cells.size ≠ m := by omega
    simp [execOp, hx', Instr.storeAt, Instr.sureAddr, storeVar, run_sizeOf' hm, f1]
    omega
  case makeSlice t m c =>
    unfold eMake at he
    split at he <;> first | exact he.elim | skip
    rename_i e len cap ht hlen hcap
    split at he <;> first | exact he.elim | skip
    rename_i es by' z hes hby hz
    obtain ⟨⟨g1, g2, g3, g4, g5, g6⟩, he⟩ := he
    have i1 : ∃ k, a.eval m = .int k len := by
      have := hs.ev m
      revert hlen this
      cases ev s m <;> simp [intA, VR]
      intro e1 e2
      subst e1
      exact ⟨_, e2⟩
    have i2 : ∃ k, a.eval c = .int k cap := by
      have := hs.ev c
      revert hcap this
      cases ev s c <;> simp [intA, VR]
      intro e1 e2
      subst e1
      exact ⟨_, e2⟩
    obtain ⟨k1, i1⟩ := i1
    obtain ⟨k2, i2⟩ := i2
    simp only [szOf, Option.map_eq_some_iff] at hes
    obtain ⟨ii, hi, hes⟩ := hes
    simp only [byOf, hi, Option.map_some, Option.some.injEq] at hby
    simp only [zeOf, hi, Option.bind_some] at hz
    subst hby
    have hmake := run_make (P := P) w t e ii z ht hi hz k1 k2 len cap g1 g2 g3 g4
    rw [hes] at hmake
    have hzs : VRs φ (z.cells.toList.map absS) z.cells.toList := VRs_absS φ _
    have hrep := VRs_rep hzs (by omega) (cap.toNat * es)
    obtain ⟨k, hk, hφ, hkt⟩ := hr.freshN
    obtain ⟨e1, e2⟩ := hr.alloc k hk hφ (repCells (z.cells.toList.map absS) (cap.toNat * es)) (madeCells z.cells (cap.toNat * es)) e 0 0 (by
      have hl := VRs_length hrep
      rw [← hl]
      unfold madeCells
      rw [List.take_length]
      exact hrep) no_frz (fun t ht => by rw [hkt] at ht; cases ht)
    refine wp_value (v := .slice (some ⟨w.heap.size, 0, none⟩) len.toNat cap.toNat) (w' := w.alloc (.cells (madeCells z.cells (cap.toNat * es)) e)) ?_ (hn _ _ _ _ _ e1 e2 ?_ (he k hk))
    · simp only [execOp, i1, i2]
      exact run_value hmake
    · simp only [VR]
      exact ⟨_, rfl, fun _ => by simp [locAddr, PMap.upd]⟩
  case convert src dst' x =>
    split at he
    · rename_i b hb
      split at he
      · rename_i hc
        obtain ⟨g1, he⟩ := he
        unfold eStrBytes at hc
        split at hc <;> first | (cases hc; done) | skip
        rename_i e h1 h2
        split at hc <;> first | (cases hc; done) | skip
        rename_i h3
        have hx := hs.ev x
        rw [hb] at hx
        simp only [VR] at hx
        obtain ⟨k, hk, hφ, hkt⟩ := hr.freshN
        have hcap : b.length ≤ grownCap w b.length 0 e := by
          simp only [grownCap, Question.cut]
          omega
        have hrun := run_bytes_of_string (P := P) w src dst' e ⟨⟨b⟩⟩ h1 h2 h3
        rw [bsize] at hrun
        generalize hG : grownCap w b.length 0 e = G at *
        have hrow : (bytesRow ⟨⟨b⟩⟩ G).toList = (b.map fun c => Value.int .u8 c.toNat) ++ List.replicate (G - b.length) (.int .u8 0) := by
          simp [bytesRow, bsize]
        have hsize : (bytesRow ⟨⟨b⟩⟩ G).size = G := by
          rw [← Array.length_toList, hrow]
          simp
          omega
        rw [hsize] at hrun
        have hcells : (byteCells b).length = b.length := byteCells_length b
        obtain ⟨e1, e2⟩ := hr.drew.alloc k hk hφ (byteCells b) (bytesRow ⟨⟨b⟩⟩ G) e G (G + 1) (by
          rw [hcells, hrow, List.take_append_of_le_length (by simp)]
          rw [List.take_of_length_le (by simp)]
          exact VRs_bytes φ b) (fun i h1 h2 => by rw [hsize]; exact h1) (fun t ht => by rw [hkt] at ht; cases ht)
        refine wp_value (v := .slice (some ⟨w.heap.size, 0, none⟩) b.length G) (w' := w.drew.alloc (.cells (bytesRow ⟨⟨b⟩⟩ G) e (G, G + 1))) ?_ (hn _ _ _ _ _ e1 e2 ?_ (he k hk))
        · simp only [execOp, hx]
          exact run_value hrun
        · simp only [VR]
          exact ⟨k, _, G, ⟨w.heap.size, 0, none⟩, rfl, PMap.upd_same _ _ _, rfl, hcap, fun _ => ⟨rfl, by simp [hsize]⟩⟩
      · exact plain he
    · rename_i k o m c hx
      split at he
      · rename_i hc
        obtain ⟨g1, he⟩ := he
        obtain ⟨g0, g1⟩ := g1
        split at g1 <;> first | exact g1.elim | skip
        rename_i b hb
        simp only [eSame, Bool.and_eq_true, beq_iff_eq] at hc
        obtain ⟨rfl, hc⟩ := hc
        split at hc <;> first | (cases hc; done) | skip
        rename_i e h1
        split at hc <;> first | (cases hc; done) | skip
        rename_i h2
        have hv := hs.ev x
        rw [hx] at hv
        obtain ⟨ad, cap, hval, _⟩ := VR_slice_addr hv
        obtain ⟨q, hq, _, _⟩ := hr.own k b hb
        obtain ⟨w', f1, f2⟩ := hr.mark (P := P) hb hq g1 ad (VR_own_blk hv hval hq g0)
        refine wp_value (v := a.eval x) (w' := w') ?_ (hn φ _ _ _ _ φ.le_refl f2 hv he)
        have hcv : (convert src src (.slice (some ad) m cap)).run P w = .ok (.slice (some ad) m cap) w' := by
          simp [convert, run_underlying' h1, run_underlying' h2, f1]
        simp only [execOp]
        rw [hval]
        exact run_value hcv
      · exact plain he
    · exact plain he
  case call c =>
    obtain ⟨callee, args, ats⟩ := c
    have hv := hs.evs args.toList
    have ea : args.map a.eval = (args.toList.map a.eval).toArray := map_toArray _ _
    have run : ∀ (b : Builtin) (r : Value) (w' : World), callee = .builtin b → (builtin b ats type (args.map fun | .const _ => true | _ => false) (args.map a.eval)).run P w = .ok (.value r) w' →
        (execOp a.eval ⟨dst, .call ⟨callee, args, ats⟩, type, pos, after, guard⟩).run P w = .ok (.value r) w' := by
      intro b r w' hb hr'
      subst hb
      simp only [execOp, resolve, Sem.run_bind, Sem.run_pure, Result.andThen_ok, invoke]
      exact hr'
    split at he
    · rename_i hb
      simp only at hb he
      split at he <;> first | exact he.elim | skip
      rename_i sa xa hsx
      rw [hsx] at hv
      simp only [VRs] at hv
      obtain ⟨sv, _, hargs, hsv, xv, _, rfl, hxv, rfl⟩ := hv
      have app : ∀ (r : Value) (w' : World), (Builtin.append_ ats type #[sv, xv]).run P w = .ok r w' → (execOp a.eval ⟨dst, .call ⟨callee, args, ats⟩, type, pos, after, guard⟩).run P w = .ok (.value r) w' := fun r w' hr' =>
        run .append r w' hb (by rw [ea, hargs]; exact run_value hr')
      unfold eAppend at he
      split at he <;> first | exact he.elim | skip
      rename_i t u ht0 hu0
      split at he <;> first | exact he.elim | skip
      rename_i e d ht hu
      obtain ⟨hd, he⟩ := he
      split at he <;> first | exact he.elim | skip
      rename_i es by' z m hes hby hz hm
      obtain ⟨⟨c1, c2⟩, c3, he⟩ := he
      simp only [szOf, Option.map_eq_some_iff] at hes
      obtain ⟨ii, hi, hes⟩ := hes
      simp only [byOf, hi, Option.map_some, Option.some.injEq] at hby
      simp only [zeOf, hi, Option.bind_some] at hz
      obtain ⟨news, n1, n2, n3, n4⟩ := src_cells (P := P) hm (Nat.le_refl _) c3 hr hxv c1
      have hlen := src_len (P := P) hm hxv w
      have hsame : ∀ (ad : Addr) (u : Value), w.cell? ad = some u → w.drew.cell? ad = some u := fun _ _ h => h
      have hgc : ∀ need old, need < 4611686018427387904 → need ≤ grownCap w need old e := fun need old _ => by
        simp only [grownCap, Question.cut]
        omega
      have newgood : ∀ (need old : Nat) (xs : List AVal) (vs : List Value), VRs φ xs vs → need < 4611686018427387904 → vs.length = need * es → (∀ k, h k = none → (e < 4096 → tyOf k = some e) → K (.slice (.own k) 0 need (.grow es)) (h.set k ⟨xs, 0⟩)) →
          (Builtin.append_ ats type #[sv, xv]).run P w = .ok (.slice (some ⟨w.heap.size, 0, none⟩) need (grownCap w need old e)) (w.drew.alloc (.cells (vs.toArray ++ Builtin.zeroCells z.cells (grownCap w need old e - need)) e)) →
          Oper.wp P ⟨dst, .call ⟨callee, args, ats⟩, type, pos, after, guard⟩ a w next Q := by
        intro need old xs vs hxs hlt hvl hK happ
        obtain ⟨k, hk, hφ, hke, hkt⟩ := hr.freshE e
        have hxl := VRs_length hxs
        have hG := hgc need old hlt
        generalize grownCap w need old e = G at *
        obtain ⟨e1, e2⟩ := hr.drew.alloc k hk hφ xs (vs.toArray ++ Builtin.zeroCells z.cells (G - need)) e 0 0 (by
          rw [← hxl]
          simpa [List.take_append] using hxs) no_frz hkt
        refine wp_value (app _ _ happ) (hn _ _ _ _ _ e1 e2 ?_ (hK k hk hke))
        simp only [VR]
        refine ⟨k, _, G, ⟨w.heap.size, 0, none⟩, rfl, PMap.upd_same _ _ _, rfl, hG, fun _ => ⟨rfl, ?_⟩⟩
        simp only [Array.size_append, List.size_toArray, size_zeroCells, c2, hvl]
        rw [Nat.zero_add, ← Nat.add_mul]
        congr 1
        omega
      split at he
      · simp only [VR] at hsv
        subst hsv
        by_cases hm0 : m = 0
        · subst hm0
          have hK := he.1 rfl
          refine wp_value (app (.slice none 0 0) w ?_) (hn φ _ _ _ _ φ.le_refl hr (by simp only [VR]) hK)
          have hd' : (∀ k : IntKind, ¬ d = .int k) := hd
          have hf0 : news = [] := List.eq_nil_of_length_eq_zero (by omega)
          have hnw := n1 w (fun _ _ h => h)
          rw [← hes, hf0] at hnw
          simp only [Builtin.append_]
          simp [ht0, hu0, run_underlying' ht, run_underlying' hu, sizeOf, typeInfo, hi, hlen, hnw]
        · obtain ⟨⟨b1, b2⟩, hK⟩ := he.2 hm0
          refine newgood m 0 _ news n2 b2 n3 hK ?_
          have := run_append_out (P := P) w ats t u type e ht0 hu0 ii z d ht hu hd hi hz (.slice none 0 0) xv none 0 0 m [] news rfl hlen (by simp [Builtin.firstCells]) (by rw [hes]; exact n1 _ hsame) (by omega) (by rw [hby]; simpa using b1) (by omega)
          simpa using this
      · rename_i l o len g
        obtain ⟨rfl, he⟩ := he
        split at he <;> first | exact he.elim | skip
        rename_i k
        split at he <;> first | exact he.elim | skip
        rename_i b hb
        obtain ⟨⟨b1, b2, b3, b4, b5, b6⟩, hK⟩ := he
        simp only [VR] at hsv
        obtain ⟨k0, p, c, ad, hk0, hp, rfl, hle, hc⟩ := hsv
        cases hk0
        obtain ⟨k', hk', hφ', hty'⟩ : ∃ k', h k' = none ∧ φ k' = none ∧ tyOf k' = if o = 0 then tyOf k else none := by
          split
          · exact hr.freshT k
          · exact hr.freshN
        have hkt' : o = 0 → tyOf k = some e → tyOf k' = some e := fun h0 h1 => by rw [hty', if_pos h0, h1]
        by_cases hroom : len + m ≤ c
        · obtain ⟨q, hq, _, ok⟩ := hr.own k b hb
          have hqp : q = p := by rw [hp] at hq; exact (Option.some.inj hq).symm
          subst hqp
          obtain ⟨cs, _, _, _, _, hrow2, hrow3, _⟩ := ok.row
          by_cases hc0 : c = 0
          · subst hc0
            obtain rfl : len = 0 := by omega
            obtain rfl : m = 0 := by omega
            have hnews : news = [] := List.eq_nil_of_length_eq_zero (by omega)
            obtain ⟨w', f1, f2, f3⟩ := own_extend (P := P) hr hb hp (o := o) (xs := srcCells w₀ h g 0 xa) (vs := []) (by rw [hnews] at n2; exact n2) b4 (by omega) (by rw [n4]; omega) b6 k' hk' hφ' hty'
            have hw : w' = w := by
              simp only [storeCells, Sem.run_pure, Result.ok.injEq, true_and] at f1
              exact f1.symm
            subst hw
            refine wp_value (app (.slice (some ad) 0 0) w' ?_) (hn _ _ _ _ _ f2 f3 ?_ (hK k' hk' hkt'))
            · have := run_append_in (P := P) w' w' ats t u type e ht0 hu0 ii d ht hu hd hi ad 0 0 0 xv [] hlen (by rw [hes, ← hnews]; exact n1 _ (fun _ _ h => h)) (by omega) (by simp [storeCells])
              simpa using this
            · simp only [VR]
              exact ⟨k', _, 0, ad, rfl, PMap.upd_same _ _ _, rfl, by omega, fun hne => absurd rfl hne⟩
          · obtain ⟨g1, g2⟩ := hc hc0
            have hfit : b.cells.length + (srcCells w₀ h g m xa).length ≤ q.room := by
              rw [n4, ← b1, ← g2, Nat.add_assoc, ← Nat.add_mul]
              exact Nat.add_le_add_left (Nat.mul_le_mul_right _ hroom) _
            obtain ⟨w', f1, f2, f3⟩ := own_extend (P := P) hr hb hp (o := o) n2 b4 (by omega) hfit b6 k' hk' hφ' hty'
            refine wp_value (app (.slice (some ad) (len + m) c) w' ?_) (hn _ _ _ _ _ f2 f3 ?_ (hK k' hk' hkt'))
            · refine run_append_in (P := P) w w' ats t u type e ht0 hu0 ii d ht hu hd hi ad len c m xv news hlen (by rw [hes]; exact n1 _ (fun _ _ h => h)) hroom ?_
              rw [hes]
              have : ad.add (len * g) = ⟨q.blk, q.off + b.cells.length, none⟩ := by
                have e0 : locAddr φ (.own k) o = some ad := by simp [locAddr, hp, g1]
                have e9 := locAddr_add (j := len * g) e0
                rw [b1] at e9
                simp only [locAddr, hp, Option.map_some, Option.some.injEq] at e9
                exact e9.symm
              rw [this]
              exact f1
            · simp only [VR]
              refine ⟨k', _, c, ad, rfl, PMap.upd_same _ _ _, rfl, hroom, fun _ => ⟨by simpa using g1, ?_⟩⟩
              simp only
              omega
        · obtain ⟨q, hq, _, ok⟩ := hr.own k b hb
          have hqp : q = p := by rw [hp] at hq; exact (Option.some.inj hq).symm
          subst hqp
          obtain ⟨cs, _, _, _, hrow1, hrow2, hrow3, hrow4, hrow5, _⟩ := ok.row
          -- the old cells
          have holds : ∃ olds : List Value, olds.length = len * g ∧ VRs φ (b.cells.drop o) olds ∧ (Builtin.firstCells g len (.slice (some ad) len c)).run P w.drew = .ok olds.toArray w.drew := by
            refine ⟨((cs.toList.drop q.off).take b.cells.length).drop o, by simp; omega, VRs_drop o hrow5, ?_⟩
            by_cases hl0 : len = 0
            · subst hl0
              have e9 : ((cs.toList.drop q.off).take b.cells.length).drop o = [] := List.eq_nil_of_length_eq_zero (by simp; omega)
              rw [e9]
              simp [Builtin.firstCells, loadCells, loadCellsFrom]
            · obtain ⟨g1, g2⟩ := hc (by omega)
              subst g1
              refine run_firstCells_some (P := P) w.drew g len _ len c _ (by simp; omega) ?_
              intro j v hj
              have hj1 : j < b.cells.length - o := by
                rcases Nat.lt_or_ge j (b.cells.length - o) with hx | hx
                · exact hx
                · rw [List.getElem?_eq_none (by simp; omega)] at hj; cases hj
              rw [List.getElem?_drop, List.getElem?_take, if_pos (by omega), List.getElem?_drop] at hj
              have e8 : (⟨q.blk, q.off + o, none⟩ : Addr).add j = ⟨q.blk, q.off + o + j, none⟩ := by
                unfold Addr.add
                by_cases hi : j = 0 <;> simp [hi]
              rw [e8]
              show w.cell? _ = _
              simp only [World.cell?, hrow1]
              simp only [Option.isSome_none, Bool.false_eq_true, if_false]
              rw [← hj]
              simp [Nat.add_assoc]
          obtain ⟨olds, ho1, ho2, ho3⟩ := holds
          obtain ⟨k2, hk2, hφ2, hke2, hkt2⟩ := hr.freshE e
          have hxs := VRs_append ho2 n2
          have hG := hgc (len + m) c b3
          have happ := run_append_out (P := P) w ats t u type e ht0 hu0 ii z d ht hu hd hi hz (.slice (some ad) len c) xv (some ad) len c m olds news rfl hlen (by rw [hes]; exact ho3) (by rw [hes]; exact n1 _ hsame) (by omega) (by rw [hby]; exact b2) b3
          generalize grownCap w (len + m) c e = G at *
          have hkk : k2 ≠ k := fun e => by subst e; rw [hb] at hk2; cases hk2
          have hrd : HRel w₀ φ (h.del k) w.drew := hr.drew.forget fun j b' hj => by
            by_cases e9 : j = k
            · subst e9; simp [AHeap.del] at hj
            · simpa [AHeap.del, e9] using hj
          have hxl := VRs_length hxs
          obtain ⟨e1, e2⟩ := hrd.alloc k2 (by simp [AHeap.del, hk2]) hφ2 (b.cells.drop o ++ srcCells w₀ h g m xa) ((olds ++ news).toArray ++ Builtin.zeroCells z.cells (G - (len + m))) e 0 0 (by
            rw [← hxl, Array.toList_append]
            simp only [List.take_left]
            exact hxs) no_frz hkt2
          have e3 : HRel w₀ (φ.upd k2 ⟨w.drew.heap.size, 0, ((olds ++ news).toArray ++ Builtin.zeroCells z.cells (G - (len + m))).size⟩) ((h.del k).set k2 ⟨b.cells.drop o ++ srcCells w₀ h g m xa, b.frz - o⟩) (w.drew.alloc (.cells ((olds ++ news).toArray ++ Builtin.zeroCells z.cells (G - (len + m))) e)) := by
            refine ⟨e2.below, fun j b' hj => ?_, ?_, e2.lt, e2.fin, e2.typ⟩
            · by_cases e9 : j = k2
              · subst e9
                rw [AHeap.set_same] at hj
                simp only [Option.some.injEq] at hj
                subst hj
                obtain ⟨p9, hp9, hp8, ok9⟩ := e2.own j _ (AHeap.set_same _ _ _)
                refine ⟨p9, hp9, hp8, ?_⟩
                obtain ⟨cs9, x1, x2, x3, y1, y2, y3, y4, y5, y6⟩ := ok9.row
                refine ⟨cs9, x1, x2, x3, y1, y2, y3, ?_, y5, y6.1, fun i i1 i2 => ?_⟩
                · simp only [List.length_append, List.length_drop]
                  omega
                · have := y6.2 i i1 i2
                  simp only at this ⊢
                  omega
              · rw [AHeap.set_ne _ _ e9] at hj
                exact e2.own j b' (by rw [AHeap.set_ne _ _ e9]; exact hj)
            · intro j j' b1 b2 p1 p2 g1 g2
              have conv : ∀ i bb, ((h.del k).set k2 ⟨b.cells.drop o ++ srcCells w₀ h g m xa, b.frz - o⟩ : AHeap) i = some bb → ∃ bb', ((h.del k).set k2 ⟨b.cells.drop o ++ srcCells w₀ h g m xa, 0⟩ : AHeap) i = some bb' := fun i bb hi => by
                by_cases e9 : i = k2
                · subst e9; exact ⟨_, AHeap.set_same _ _ _⟩
                · rw [AHeap.set_ne _ _ e9] at hi ⊢; exact ⟨bb, hi⟩
              obtain ⟨b1', g1'⟩ := conv j b1 g1
              obtain ⟨b2', g2'⟩ := conv j' b2 g2
              exact e2.inj j j' b1' b2' p1 p2 g1' g2'
          refine wp_value (app _ _ happ) (hn _ _ _ _ _ e1 e3 ?_ (hK k2 hk2 fun _ h1 => hke2 (tyOf_lt h1)))
          simp only [VR]
          refine ⟨k2, _, G, ⟨w.heap.size, 0, none⟩, rfl, PMap.upd_same _ _ _, rfl, hG, fun _ => ⟨rfl, ?_⟩⟩
          simp only [Array.size_append, List.size_toArray, size_zeroCells, c2, List.length_append, ho1, n3]
          rw [Nat.zero_add, ← Nat.add_mul, ← Nat.add_mul]
          congr 1
          omega
      · rename_i l o len c
        simp only [VR] at hsv
        obtain ⟨ad, rfl, hadd⟩ := hsv
        by_cases hroom : len + m ≤ c
        · rcases he.1 hroom with ⟨rfl, hK⟩ | ⟨hm0, hK⟩
          · refine wp_value (app (.slice (some ad) len c) w ?_) (hn φ _ _ _ _ φ.le_refl hr (by simp only [VR]; exact ⟨ad, rfl, hadd⟩) hK)
            have hnews : news = [] := List.eq_nil_of_length_eq_zero (by omega)
            have := run_append_in (P := P) w w ats t u type e ht0 hu0 ii d ht hu hd hi ad len c 0 xv [] hlen (by rw [hes, ← hnews]; exact n1 _ (fun _ _ h => h)) hroom (by simp [storeCells])
            simpa using this
          · split at hK <;> first | exact hK.elim | skip
            rename_i k
            split at hK <;> first | exact hK.elim | skip
            rename_i b hb
            obtain ⟨⟨b1, b2, b3⟩, hK⟩ := hK
            obtain ⟨q, hq, _, ok⟩ := hr.own k b hb
            have hloc := hadd (.inl (by omega))
            have hoa := locAddr_add (j := len * es) hloc
            simp only [locAddr, hq, Option.map_some, Option.some.injEq] at hoa hloc
            obtain ⟨w', f1, f2⟩ := own_write (P := P) hr hb hq (o := o + len * es) n2 b3 (by rw [n4]; omega) b2
            refine wp_value (app (.slice (some ad) (len + m) c) w' ?_) (hn φ _ _ _ _ φ.le_refl f2 ?_ hK)
            · refine run_append_in (P := P) w w' ats t u type e ht0 hu0 ii d ht hu hd hi ad len c m xv news hlen (by rw [hes]; exact n1 _ (fun _ _ h => h)) hroom ?_
              rw [hes, ← hoa]
              exact f1
            · simp only [VR]
              exact ⟨ad, rfl, fun _ => by simp [locAddr, hq, ← hloc]⟩
        · obtain ⟨⟨b1, b2, b3⟩, hK⟩ := he.2 (by omega)
          obtain ⟨olds, ho1, ho2, _, ho4⟩ := loadCells_ok (P := P) (l := l) (o := o) (n := len * es) (a := ad) hr (fun hne => hadd (.inr (by intro e9; apply hne; rw [e9, Nat.zero_mul]))) b1
          have hxs := VRs_append ho2 n2
          have happ := run_append_out (P := P) w ats t u type e ht0 hu0 ii z d ht hu hd hi hz (.slice (some ad) len c) xv (some ad) len c m olds news rfl hlen
            (by rw [hes]; exact run_firstCells_some (P := P) w.drew es len ad len c olds ho1 (fun j v hj => ho4 j v hj)) (by rw [hes]; exact n1 _ hsame) (by omega) (by rw [hby]; exact b2) b3
          exact newgood (len + m) c _ (olds ++ news) hxs b3 (by rw [List.length_append, ho1, n3, ← Nat.add_mul]) hK happ
      · exact he.elim
    · rename_i hb
      simp only at hb he
      split at he <;> first | exact he.elim | skip
      rename_i da xa hsx
      rw [hsx] at hv
      simp only [VRs] at hv
      obtain ⟨dv, _, hargs, hdv, xv, _, rfl, hxv, rfl⟩ := hv
      have app : ∀ (r : Value) (w' : World), (Builtin.copy_ ats type #[dv, xv]).run P w = .ok r w' → (execOp a.eval ⟨dst, .call ⟨callee, args, ats⟩, type, pos, after, guard⟩).run P w = .ok (.value r) w' := fun r w' hr' =>
        run .copy r w' hb (by rw [ea, hargs]; exact run_value hr')
      unfold eCopy at he
      split at he <;> first | exact he.elim | skip
      rename_i t ht0
      split at he <;> first | exact he.elim | skip
      rename_i e ht
      split at he <;> first | exact he.elim | skip
      rename_i es m hes hm
      obtain ⟨c1, he⟩ := he
      have hlen := src_len (P := P) hm hxv w
      have copied : ∀ (base : Option Addr) (dLen dCap k : Nat) (news : List Value) (w' : World), dv = .slice base dLen dCap → Nat.min m dLen = k → (Builtin.firstCells es k xv).run P w = .ok news.toArray w →
          (base = none ∧ w' = w ∨ ∃ ad, base = some ad ∧ (storeCells ad news).run P w = .ok () w') → (Builtin.copy_ ats type #[dv, xv]).run P w = .ok (.int .i64 (k : Nat)) w' := by
        intro base dLen dCap k news w' hd hk hf hst
        subst hd
        rcases hst with ⟨rfl, rfl⟩ | ⟨ad, rfl, hst⟩
        · simp [Builtin.copy_, ht0, run_underlying' ht, hlen, run_sizeOf' hes, hk, hf, goInt]
        · simp [Builtin.copy_, ht0, run_underlying' ht, hlen, run_sizeOf' hes, hk, hf, hst, goInt]
      split at he <;> first | exact he.elim | skip
      · obtain ⟨c3, hK⟩ := he
        simp only [VR] at hdv
        subst hdv
        obtain ⟨news, n1, n2, n3, n4⟩ := src_cells (P := P) hm (Nat.zero_le m) c3 hr hxv c1
        refine wp_value (app _ w (copied none 0 0 0 news w rfl (by simp [Nat.min]) (n1 w (fun _ _ h => h)) (.inl ⟨rfl, rfl⟩))) (hn φ _ _ _ _ φ.le_refl hr (by simp [VR]) hK)
      · rename_i l o len c
        obtain ⟨c3, he0, he1⟩ := he
        obtain ⟨ad, cap, rfl, ha⟩ := VR_slice_addr hdv
        obtain ⟨news, n1, n2, n3, n4⟩ := src_cells (P := P) hm (Nat.min_le_left m len) c3 hr hxv c1
        by_cases hz : min m len = 0
        · have hnews : news = [] := List.eq_nil_of_length_eq_zero (by rw [n3, hz, Nat.zero_mul])
          refine wp_value (app _ w (copied (some ad) len cap 0 [] w rfl hz (by rw [← hnews]; have := n1 w (fun _ _ h => h); rw [hz] at this; exact this) (.inr ⟨ad, rfl, by simp [storeCells]⟩))) (hn φ _ _ _ _ φ.le_refl hr (by simp [VR]) (he0 hz))
        · have hK := he1 hz
          split at hK <;> first | exact hK.elim | skip
          rename_i k
          split at hK <;> first | exact hK.elim | skip
          rename_i b hb
          obtain ⟨⟨b1, b2, b3⟩, hK⟩ := hK
          obtain ⟨q, hq, _, ok⟩ := hr.own k b hb
          have hloc := ha (by omega)
          simp only [locAddr, hq, Option.map_some, Option.some.injEq] at hloc
          obtain ⟨w', f1, f2⟩ := own_write (P := P) hr hb hq (o := o) n2 b3 (by rw [n4]; omega) b2
          rw [hloc] at f1
          exact wp_value (app _ w' (copied (some ad) len cap (min m len) news w' rfl rfl (n1 w (fun _ _ h => h)) (.inr ⟨ad, rfl, f1⟩))) (hn φ _ _ _ _ φ.le_refl f2 (by simp [VR]) hK)
    · rename_i f hb
      simp only at hb he
      subst hb
      split at he <;> first | exact he.elim | skip
      rename_i fid cap hf
      have hfv := hs.ev f
      rw [hf] at hfv
      simp only [VR] at hfv
      obtain ⟨vs, hfe, hcap⟩ := hfv
      have hland := he φ (args.toList.map a.eval ++ vs) w hr (VRs_append hv hcap)
      refine wp_lands (f := fid) (vals := (args.toList.map a.eval ++ vs).toArray) ?_ hland fun v w' ⟨ψ, x, h', e1, e2, e3, e4⟩ => hn ψ x h' v w' e1 e2 e3 e4
      simp only [execOp, resolve, hfe, Deferred.ofValue, Sem.run_bind, Sem.run_pure, Result.andThen_ok, invoke]
      rw [ea]
      simp
    · exact plain he

end Go.AM
