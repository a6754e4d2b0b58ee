/-
  An assertion layer over the model's wp, part W: names that promise a type; strings.Builder as a block of the call's own.
  Conditions: none. Nothing here is about a particular program.
-/
import Derived.Test.YthiiakghjoeikaaGreatDoorAmV
import Derived.Lib.UnsafeStr
import Derived.Lib.Builder
import Derived.Laws.Externs
set_option linter.unusedSimpArgs false
set_option linter.unnecessarySimpa false
set_option linter.unusedVariables false
namespace Go.AM
open Go.RowKit (Below)

/-- A variable is laid under a name that promises its type. -/
theorem awp_aseqT {P : Program} {w₀ : World} {n : Nat} {s : Slots} {h : AHeap} {Q : Exit → Slots → AHeap → Prop} {id : Nat} {d : Tmp} {e : TypeId} {z : Value} {cs : List AVal} {ty : TypeId} {pos : String} {af : Array Edge} {y : Code} (L : List Nat)
    (hd : d < n) (he : e < 4096) (hz : zeOf P e = some z) (hc : z.cells.toList.map absS = cs)
    (hk : ∀ k, h k = none → tyOf k = some e → Awp P w₀ n y Q ((s.put d (.ptr (.own k) 0)).keep L) (h.set k ⟨cs, 0⟩)) :
    Awp P w₀ n (.seq (.region id [⟨some d, .alloc e, ty, pos, af, none⟩].toArray false) y) Q s h :=
  awp_seq fun φ a w hr hs => wp_region (by
    obtain ⟨k, hk0, hφ, hke, hkt⟩ := hr.freshE e
    obtain ⟨e1, e2⟩ := hr.alloc k hk0 hφ (z.cells.toList.map absS) z.cells e 0 0 (by rw [List.length_map, List.take_length]; exact VRs_absS φ z.cells.toList) no_frz hkt
    have hw : Region.wanted (⟨some d, .alloc e, ty, pos, af, none⟩ : Oper) (yielded #[⟨some d, .alloc e, ty, pos, af, none⟩] a.tmps) = true := by simp [Region.wanted]
    simp only [List.size_toArray, List.length_singleton, List.range_succ, List.range_zero, List.nil_append, wpOps, List.getElem?_toArray, List.getElem?_cons_zero]
    rw [if_pos hw]
    refine .inl (wp_value (v := .pointer (some ⟨w.heap.size, 0, none⟩)) (w' := w.alloc (.cells z.cells e)) ?_ ?_)
    · simp [execOp, Instr.alloc, run_zero' hz, newVar, newRow]
    · refine ⟨_, _, _, e1, e2, (hs.mono e1).put d hd (VR_new _ _ _), ?_⟩
      rw [hc]
      exact Awp.keep L (hk k hk0 (hke he)))

/-- A row turns that is then forgotten. -/
theorem HRel.dropRow {w₀ w w' : World} {φ : PMap} {h h' : AHeap} (hr : HRel w₀ φ h w) {k : Nat} {b : Blk} {p : Place} (hk : h k = some b) (hp : φ k = some p)
    (hsize : w'.heap.size = w.heap.size) (hos : w'.os = w.os) (htape : w'.tape = w.tape) (hout : w'.output = w.output)
    (hother : ∀ i, i ≠ p.blk → w'.heap[i]? = w.heap[i]?) (hty : ∀ cs e fr, w.heap[p.blk]? = some (.cells cs e fr) → ∃ cs' fr', w'.heap[p.blk]? = some (.cells cs' e fr'))
    (hs : ∀ j c, h' j = some c → h j = some c ∧ j ≠ k) : HRel w₀ φ h' w' := by
  obtain ⟨q, hq, hq1, hq2⟩ := hr.own k b hk
  have hpq : q = p := by rw [hp] at hq; exact (Option.some.inj hq).symm
  subst hpq
  refine ⟨⟨hos.trans hr.below.os, htape.trans hr.below.tape, hout.trans hr.below.output, by rw [hsize]; exact hr.below.size, fun i hi => ?_⟩, fun j c hj => ?_, fun j j' b1 b2 p1 p2 h1 h2 f1 f2 e => ?_, fun j r hj => by rw [hsize]; exact hr.lt j r hj, hr.fin, fun j r hj t ht => ?_⟩
  · rw [hother i (by omega)]
    exact hr.below.block i hi
  · obtain ⟨h1, h2⟩ := hs j c hj
    obtain ⟨r, hr0, hr1, hr2⟩ := hr.own j c h1
    exact ⟨r, hr0, hr1, hr2.world (hother _ fun e' => h2 (hr.inj j k c b r q h1 hk hr0 hp e'))⟩
  · exact hr.inj j j' b1 b2 p1 p2 (hs j b1 h1).1 (hs j' b2 h2).1 f1 f2 e
  · obtain ⟨h0, cs, fr, hcs⟩ := hr.typ j r hj t ht
    refine ⟨h0, ?_⟩
    by_cases e : r.blk = q.blk
    · rw [e] at hcs ⊢
      exact hty cs t fr hcs
    · exact ⟨cs, fr, by rw [hother _ e]; exact hcs⟩

theorem freeze_facts (w : World) (a : Addr) (n : Nat) : (w.freeze a n).heap.size = w.heap.size ∧ (w.freeze a n).os = w.os ∧ (w.freeze a n).tape = w.tape ∧ (w.freeze a n).output = w.output ∧
    (∀ i, i ≠ a.block → (w.freeze a n).heap[i]? = w.heap[i]?) ∧ (∀ cs e fr, w.heap[a.block]? = some (.cells cs e fr) → ∃ cs' fr', (w.freeze a n).heap[a.block]? = some (.cells cs' e fr')) := by
  unfold World.freeze
  split
  · exact ⟨rfl, rfl, rfl, rfl, fun _ _ => rfl, fun cs e fr h => ⟨cs, fr, h⟩⟩
  · refine ⟨by simp, rfl, rfl, rfl, fun i hi => by simp [Array.getElem?_modify, Ne.symm hi], fun cs e fr h => ?_⟩
    obtain ⟨lo, hi⟩ := fr
    refine ⟨cs, if lo == hi then (a.off, a.off + n) else (min lo a.off, max hi (a.off + n)), ?_⟩
    simp only [Array.getElem?_modify, if_true, h, Option.map_some]

theorem HRel.setCell {w₀ w : World} {φ : PMap} {h : AHeap} (hr : HRel w₀ φ h w) {k : Nat} {b : Blk} {p : Place} (hk : h k = some b) (hp : φ k = some p) {o : Nat} {x : AVal} {v : Value}
    (hx : VR φ x v) (hs : x.scal = true) (hfit : o < b.cells.length) (hfrz : b.frz ≤ o) : HRel w₀ φ (h.set k ⟨b.cells.set o x, b.frz⟩) (w.setCell ⟨p.blk, p.off + o, none⟩ v) := by
  obtain ⟨q, hq, hq1, ok⟩ := hr.own k b hk
  have hpq : q = p := by rw [hp] at hq; exact (Option.some.inj hq).symm
  subst hpq
  obtain ⟨cs, e, lo, hi, h1, h2, h3, h4, h5, h6⟩ := ok.row
  have hgl : q.blk < w.heap.size := hr.lt k q hp
  rw [setCell_putRow w q.blk (q.off + o) cs e (lo, hi) h1 v]
  refine hr.write k b _ q hk hp (by simp [AM.World.putRow]) rfl rfl rfl (fun i hi => putRow_other w _ _ _ _ i hi) (fun cs' e' fr' h' => by rw [h1] at h'; cases h'; exact ⟨_, _, putRow_get w _ _ _ _ hgl⟩) ?_
  refine ⟨cs.setIfInBounds (q.off + o) v, e, lo, hi, putRow_get w _ _ _ _ hgl, by simp [h2], by simp [h3], by simp [h4], ?_, ?_⟩
  · have := take_drop_setAt cs.toList q.off b.cells.length o [v] (by simp; omega)
    simp only [setAt] at this
    simp only [Array.toList_setIfInBounds, List.length_set]
    rw [this]
    exact VRs_set h5 o hx
  · refine ⟨h6.1, fun i hi1 hi2 => ?_⟩
    have := h6.2 i hi1 hi2
    simpa using this

/-- What is laid out first in one variable is so in any number of them. -/
theorem liesAt_first {P : Program} {T U : TypeId} (h : liesAt P P.depth T 1 0 U 1 = true) (hU : ∀ m u, P.underlying U ≠ some (.array m u)) {c : Nat} (hc : 1 ≤ c) : liesAt P P.depth T c 0 U 1 = true := by
  have noarr : ∀ (d c' : Nat), liesAt P (d + 1) T c' 0 U 1 = rowAt P (sameLayout P P.depth · U) P.depth T c' 0 1 := fun d c' => by
    unfold liesAt
    cases e : P.underlying U with
    | none => simp
    | some t => cases t <;> first | exact absurd e (hU _ _) | simp
  cases hd : P.depth with
  | zero => rw [hd] at h; simp [liesAt] at h
  | succ d =>
    rw [hd] at h
    rw [noarr d] at h ⊢
    rw [hd] at h ⊢
    unfold rowAt at h ⊢
    simp only at h ⊢
    split at h
    · cases h
    · rename_i hs
      rw [if_neg hs]
      simp only [Nat.zero_div, Nat.zero_mod, Nat.zero_add, beq_self_eq_true, Bool.true_and, Nat.le_refl, decide_true, Nat.lt_add_one, show (0 : Nat) < 1 from Nat.one_pos] at h ⊢
      rw [decide_eq_true hc, decide_eq_true (show 0 < c by omega), Bool.true_and, Bool.true_and]
      exact h

/-! ### A builder: two cells at the head of a block -/
structure Bld where
  used : Bool
  buf : Option (Nat × List UInt8)
def Bld.bytes (b : Bld) : List UInt8 := match b.buf with | none => [] | some (_, l) => l
def Bld.head (b : Bld) (k : Nat) : AVal := if b.used = true then .ptr (.own k) 0 else .nilPtr
def Bld.slice (b : Bld) : AVal := match b.buf with | none => .nilSlice | some (kb, l) => .slice (.own kb) 0 l.length (.grow 1)
def Bld.none : Bld := ⟨false, Option.none⟩
/-- Its buffer lies apart from all else, in a row of bytes (type e), and is not empty. -/
def Bld.ok (e : TypeId) (h : AHeap) (k : Nat) (b : Bld) : Prop := match b.buf with | Option.none => True | some (kb, l) => kb ≠ k ∧ h kb = Option.none ∧ tyOf kb = some e ∧ l ≠ []
def bldH (h : AHeap) (k : Nat) (rest : List AVal) (b : Bld) : AHeap := match b.buf with
  | Option.none => h.set k ⟨b.head k :: .nilSlice :: rest, 0⟩
  | some (kb, l) => (h.set k ⟨b.head k :: .slice (.own kb) 0 l.length (.grow 1) :: rest, 0⟩).set kb ⟨byteCells l, 0⟩
theorem Bld.none_ok {e : TypeId} {h : AHeap} {k : Nat} : Bld.none.ok e h k := trivial
theorem bldH_none (h : AHeap) (k : Nat) (rest : List AVal) : bldH h k rest Bld.none = h.set k ⟨.nilPtr :: .nilSlice :: rest, 0⟩ := rfl
theorem bldH_nil {h : AHeap} {k : Nat} {rest : List AVal} {b : Bld} (hb : b.buf = Option.none) : bldH h k rest b = h.set k ⟨b.head k :: .nilSlice :: rest, 0⟩ := by unfold bldH; rw [hb]
theorem bldH_some {h : AHeap} {k : Nat} {rest : List AVal} {b : Bld} {kb : Nat} {l : List UInt8} (hb : b.buf = some (kb, l)) :
    bldH h k rest b = (h.set k ⟨b.head k :: .slice (.own kb) 0 l.length (.grow 1) :: rest, 0⟩).set kb ⟨byteCells l, 0⟩ := by unfold bldH; rw [hb]
theorem Bld.slice_nil {b : Bld} (hb : b.buf = Option.none) : b.slice = .nilSlice := by unfold Bld.slice; rw [hb]
theorem Bld.slice_some {b : Bld} {kb : Nat} {l : List UInt8} (hb : b.buf = some (kb, l)) : b.slice = .slice (.own kb) 0 l.length (.grow 1) := by unfold Bld.slice; rw [hb]
theorem Bld.bytes_nil {b : Bld} (hb : b.buf = Option.none) : b.bytes = [] := by unfold Bld.bytes; rw [hb]
theorem Bld.bytes_some {b : Bld} {kb : Nat} {l : List UInt8} (hb : b.buf = some (kb, l)) : b.bytes = l := by unfold Bld.bytes; rw [hb]
theorem Bld.ok_nil {e : TypeId} {h : AHeap} {k : Nat} {b : Bld} (hb : b.buf = Option.none) : b.ok e h k := by unfold Bld.ok; rw [hb]; trivial
theorem Bld.ok_some {e : TypeId} {h : AHeap} {k : Nat} {b : Bld} {kb : Nat} {l : List UInt8} (hb : b.buf = some (kb, l)) : b.ok e h k ↔ (kb ≠ k ∧ h kb = Option.none ∧ tyOf kb = some e ∧ l ≠ []) := by unfold Bld.ok; rw [hb]
theorem Bld.ok_sub {e : TypeId} {h h' : AHeap} {k : Nat} {b : Bld} (hb : b.ok e h k) (hs : Sub h' h) : b.ok e h' k := by
  cases hbuf : b.buf with
  | none => exact Bld.ok_nil hbuf
  | some q =>
    obtain ⟨h1, h2, h3, h4⟩ := (Bld.ok_some hbuf).1 hb
    exact (Bld.ok_some hbuf).2 ⟨h1, hs.none h2, h3, h4⟩
theorem Sub.bldH {h : AHeap} {k : Nat} {rest : List AVal} {e : TypeId} {b : Bld} (hk : h k = Option.none) (hb : b.ok e h k) : Sub h (AM.bldH h k rest b) := by
  cases hbuf : b.buf with
  | none => rw [bldH_nil hbuf]; exact Sub.set hk
  | some q =>
    obtain ⟨h1, h2, h3, h4⟩ := (Bld.ok_some hbuf).1 hb
    rw [bldH_some hbuf]
    exact (Sub.set hk).trans (Sub.set (by rw [AHeap.set_ne _ _ h1]; exact h2))
/-- Another block, laid beside. -/
theorem bldH_set {h : AHeap} {k : Nat} {rest : List AVal} {b : Bld} {j : Nat} {c : Blk} (hj : bldH h k rest b j = none) : (bldH h k rest b).set j c = bldH (h.set j c) k rest b := by
  cases hbuf : b.buf with
  | none =>
    rw [bldH_nil hbuf] at hj ⊢
    rw [bldH_nil hbuf]
    have : j ≠ k := fun e => by subst e; rw [AHeap.set_same] at hj; cases hj
    rw [AHeap.set_comm _ _ _ this]
  | some q =>
    rw [bldH_some hbuf] at hj ⊢
    rw [bldH_some hbuf]
    have h1 : j ≠ q.1 := fun e => by subst e; rw [AHeap.set_same] at hj; cases hj
    rw [AHeap.set_ne _ _ h1] at hj
    have h2 : j ≠ k := fun e => by subst e; rw [AHeap.set_same] at hj; cases hj
    rw [AHeap.set_comm _ _ _ h1, AHeap.set_comm _ _ _ h2]
theorem bldH_head {h : AHeap} {k : Nat} {rest : List AVal} {e : TypeId} {b : Bld} (hb : b.ok e h k) : bldH h k rest b k = some ⟨b.head k :: b.slice :: rest, 0⟩ := by
  cases hbuf : b.buf with
  | none => rw [bldH_nil hbuf, Bld.slice_nil hbuf]; exact AHeap.set_same _ _ _
  | some q =>
    obtain ⟨h1, h2, h3, h4⟩ := (Bld.ok_some hbuf).1 hb
    rw [bldH_some hbuf, Bld.slice_some hbuf, AHeap.set_ne _ _ h1.symm, AHeap.set_same]
theorem bldH_buf {h : AHeap} {k : Nat} {rest : List AVal} {b : Bld} {kb : Nat} {l : List UInt8} (hb : b.buf = some (kb, l)) : bldH h k rest b kb = some ⟨byteCells l, 0⟩ := by
  rw [bldH_some hb]
  exact AHeap.set_same _ _ _
/-- Its own address is laid down. -/
theorem bldH_used {h : AHeap} {k : Nat} {rest : List AVal} {e : TypeId} {b : Bld} (hb : b.ok e h k) : (bldH h k rest b).set k ⟨.ptr (.own k) 0 :: b.slice :: rest, 0⟩ = bldH h k rest ⟨true, b.buf⟩ := by
  cases hbuf : b.buf with
  | none =>
    rw [bldH_nil hbuf, Bld.slice_nil hbuf, AHeap.set_set, bldH_nil rfl]
    rfl
  | some q =>
    obtain ⟨h1, h2, h3, h4⟩ := (Bld.ok_some hbuf).1 hb
    rw [bldH_some hbuf, Bld.slice_some hbuf, bldH_some rfl, AHeap.set_comm _ _ _ h1.symm, AHeap.set_set]
    rfl
theorem Bld.slice_live (b : Bld) : b.slice.live = true := by unfold Bld.slice; split <;> rfl
theorem Bld.slice_scal (b : Bld) : b.slice.scal = true := by unfold Bld.slice; split <;> rfl
theorem Bld.slice_cells (b : Bld) : b.slice.cells = [b.slice] := by unfold Bld.slice; split <;> rfl
theorem Bld.head_live (b : Bld) (k : Nat) : (b.head k).live = true := by unfold Bld.head; split <;> rfl
theorem Bld.len (b : Bld) : ∀ {P : Program} {t e : TypeId}, P.underlying t = some (.slice e) → pLen P t b.slice = ⟨True, .int .i64 b.bytes.length⟩ := fun ht => by
  cases hb : b.buf with
  | none => rw [Bld.slice_nil hb, Bld.bytes_nil hb]; simp [pLen, ht]
  | some q => rw [Bld.slice_some hb, Bld.bytes_some hb]; simp [pLen, ht]
theorem set_same_self {h : AHeap} {k : Nat} {b : Blk} (hk : h k = some b) : h.set k b = h := by
  funext j
  by_cases e : j = k
  · subst e; rw [AHeap.set_same, hk]
  · rw [AHeap.set_ne _ _ e]

section
variable {P : Program} {w₀ : World} {ops rest : List Oper} {s : Slots} {h : AHeap} {K : Slots → AHeap → Prop} {dst : Option Tmp} {ty : TypeId} {pos : String} {af : Array Edge}
/-- Bytes behind a builder's; the slice is laid down by the next store. -/
theorem aOps_appendBld {ts : Array TypeId} {t u e : TypeId} {d : TypeDesc} {x y : Operand} {v : AVal} {src : List UInt8} {h₀ : AHeap} {k : Nat} {cs : List AVal} {st : Bld}
    (h0 : ts[0]? = some t) (h1 : ts[1]? = some u) (ht : P.underlying t = some (.slice e)) (hu : P.underlying u = some d) (hd : ∀ k, d ≠ .int k)
    (hs : szOf P e = some 1) (hb : byOf P e = some 1) (hz : zeOf P e = some (.int .u8 0)) (he : e < 4096)
    (hx : ev s x = st.slice) (hk0 : h₀ k = none) (hst : st.ok e h₀ k) (hh : Sub (bldH h₀ k cs st) h) (hy : ev s y = v) (hv : SrcB w₀ h v src) (hl : st.bytes.length + src.length ≤ 140737488355328)
    (hk : ∀ st' : Bld, st'.used = st.used → st'.ok e h₀ k → st'.bytes = st.bytes ++ src → ∀ h', h' k = some ⟨st.head k :: st.slice :: cs, 0⟩ → Sub (bldH h₀ k cs st') (h'.set k ⟨st'.head k :: st'.slice :: cs, 0⟩) →
      aOps P w₀ ops rest (putD s dst st'.slice) h' K) :
    aOps P w₀ ops (⟨dst, .call ⟨.builtin .append, [x, y].toArray, ts⟩, ty, pos, af, none⟩ :: rest) s h K := by
  obtain ⟨g1, g2⟩ := hv
  obtain ⟨p1, p2⟩ := g2 src.length (Nat.le_refl _)
  rw [List.take_of_length_le (Nat.le_refl _)] at p2
  have hkc : h k = some ⟨st.head k :: st.slice :: cs, 0⟩ := hh _ _ (bldH_head hst)
  have h₀h : Sub h₀ h := (Sub.bldH hk0 hst).trans hh
  rw [aOps_e]
  simp only [eop, evs, List.map_cons, List.map_nil, hx, hy, eAppend, h0, h1, ht, hu, hs, hb, hz, g1]
  cases hbuf : st.buf with
  | none =>
    rw [Bld.slice_nil hbuf] at *
    rw [Bld.bytes_nil hbuf] at *
    simp only [List.length_nil, Nat.zero_add] at hl
    refine ⟨hd, ⟨by omega, rfl⟩, p1, fun e0 => ?_, fun e0 => ⟨⟨by omega, by omega⟩, fun k' hk' htk => ?_⟩⟩
    · have e1 : src = [] := List.eq_nil_of_length_eq_zero e0
      have := hk st rfl hst (by rw [e1, Bld.bytes_nil hbuf]; rfl) h hkc (by rw [Bld.slice_nil hbuf, set_same_self hkc]; exact hh)
      rw [Bld.slice_nil hbuf] at this
      exact this
    · have hne : k' ≠ k := fun e' => by subst e'; rw [hkc] at hk'; cases hk'
      have hsrc : src ≠ [] := fun e' => e0 (by rw [e']; rfl)
      have := hk ⟨st.used, some (k', src)⟩ rfl ((Bld.ok_some rfl).2 ⟨hne, h₀h.none hk', htk he, hsrc⟩) rfl (h.set k' ⟨byteCells src, 0⟩) (by rw [AHeap.set_ne _ _ hne.symm]; exact hkc) (fun j c hj => by
        rw [bldH_some rfl] at hj
        by_cases e1 : j = k'
        · subst e1
          rw [AHeap.set_same] at hj
          rw [AHeap.set_ne _ _ hne, AHeap.set_same]
          exact hj
        · rw [AHeap.set_ne _ _ e1] at hj
          by_cases e2 : j = k
          · subst e2
            rw [AHeap.set_same] at hj ⊢
            exact hj
          · rw [AHeap.set_ne _ _ e2] at hj ⊢
            rw [AHeap.set_ne _ _ e1]
            exact h₀h j c hj)
      rw [p2]
      exact this
  | some q =>
    obtain ⟨kb, l⟩ := q
    obtain ⟨s1, s2, s3, s4⟩ := (Bld.ok_some hbuf).1 hst
    have hkb : h kb = some ⟨byteCells l, 0⟩ := hh _ _ (bldH_buf hbuf)
    rw [Bld.slice_some hbuf] at *
    rw [Bld.bytes_some hbuf] at *
    simp only [hkb]
    refine ⟨hd, ⟨by omega, rfl⟩, p1, trivial, ⟨by rw [byteCells_length]; omega, by omega, by omega, by rw [p2]; exact allScal_byteCells _, ?_, .inl trivial⟩, fun k' hk' htk => ?_⟩
    · rw [List.drop_zero]; exact allLive_of_u8 (byteCells_isU8 _)
    · have hne : k' ≠ k := fun e' => by subst e'; rw [hkc] at hk'; cases hk'
      have hneb : k' ≠ kb := fun e' => by subst e'; rw [hkb] at hk'; cases hk'
      have hl' : (l ++ src).length = l.length + src.length := List.length_append
      have := hk ⟨st.used, some (k', l ++ src)⟩ rfl ((Bld.ok_some rfl).2 ⟨hne, h₀h.none hk', htk trivial s3, by simp [s4]⟩) rfl ((h.del kb).set k' ⟨byteCells (l ++ src), 0⟩) (by rw [AHeap.set_ne _ _ hne.symm]; simp only [AHeap.del, s1.symm, if_false]; exact hkc) (fun j c hj => by
        rw [bldH_some rfl] at hj
        by_cases e1 : j = k'
        · subst e1
          rw [AHeap.set_same] at hj
          rw [AHeap.set_ne _ _ hne, AHeap.set_same]
          exact hj
        · rw [AHeap.set_ne _ _ e1] at hj
          by_cases e2 : j = k
          · subst e2
            rw [AHeap.set_same] at hj ⊢
            exact hj
          · rw [AHeap.set_ne _ _ e2] at hj ⊢
            rw [AHeap.set_ne _ _ e1]
            have e3 : j ≠ kb := fun e' => by subst e'; rw [s2] at hj; cases hj
            simp only [AHeap.del, e3, if_false]
            exact h₀h j c hj)
      rw [p2, List.drop_zero, ← byteCells_append]
      rw [Bld.slice_some rfl, hl'] at this
      exact this
end
end Go.AM
