/-
  An assertion layer over the model's wp, part X: rows of cells that a call lays, writes and appends to.
  Conditions: none. Nothing here is about a particular program.
-/
import Derived.Test.YthiiakghjoeikaaGreatDoorAmW
set_option linter.unusedSimpArgs false
set_option linter.unnecessarySimpa false
set_option linter.unusedVariables false
namespace Go.AM

/-! ### Rows of integers -/
def intCells (zs : List Int) : List AVal := zs.map (AVal.int .i64)
theorem intCells_length (zs : List Int) : (intCells zs).length = zs.length := by simp [intCells]
theorem intCells_getD {zs : List Int} {i : Nat} (hi : i < zs.length) : (intCells zs).getD i .dead = .int .i64 (zs.getD i 0) := by
  simp [intCells, List.getD, hi]
theorem intCells_append (a b : List Int) : intCells (a ++ b) = intCells a ++ intCells b := by simp [intCells]
theorem setAt_intCells (zs : List Int) (i : Nat) (n : Int) : setAt (intCells zs) i [.int .i64 n] = intCells (zs.set i n) := by
  simp only [setAt, intCells, List.map_set]
theorem allScal_intCells : ∀ zs : List Int, allScal (intCells zs) = true
  | [] => rfl
  | z :: zs => by
    have := allScal_intCells zs
    simpa [intCells, allScal, AVal.scal] using this
theorem allLive_intCells : ∀ zs : List Int, allLive (intCells zs) = true
  | [] => rfl
  | z :: zs => by
    have := allLive_intCells zs
    simpa [intCells, allLive, AVal.live] using this

section
variable {P : Program} {w₀ : World} {ops rest : List Oper} {s : Slots} {h : AHeap} {K : Slots → AHeap → Prop} {dst : Option Tmp} {ty : TypeId} {pos : String} {af : Array Edge}
theorem aOps_storeInt {t : TypeId} {x y : Operand} {k o i f : Nat} {n : Int} {zs : List Int} {h₀ : AHeap} (hx : ev s x = .ptr (.own k) o) (hv : ev s y = .int .i64 n) (ht : szOf P t = some 1) (hh : h = h₀.set k ⟨intCells zs, f⟩) (ho : o = i)
    (hi : i < zs.length) (hf : f ≤ i) (hk : aOps P w₀ ops rest (putD s dst (.tuple [])) (h₀.set k ⟨intCells (zs.set i n), f⟩) K) :
    aOps P w₀ ops (⟨dst, .store t x y, ty, pos, af, none⟩ :: rest) s h K := by
  subst hh ho
  refine aOps_store hx hv (AHeap.set_same _ _ _) ht rfl rfl (by rw [intCells_length]; omega) hf rfl ?_
  rw [AHeap.set_set]
  simp only [AVal.cells]
  rw [setAt_intCells]
  exact hk
theorem aOps_makeInts {t e : TypeId} {x y : Operand} {n : Int} {k₁ k₂ : IntKind} (ht : P.underlying t = some (.slice e)) (hs : szOf P e = some 1) (hb : byOf P e = some 8) (hz : zeOf P e = some (.int .i64 0)) (hx : ev s x = .int k₁ n) (hy : ev s y = .int k₂ n) (h0 : 0 ≤ n) (h1 : n ≤ 35184372088832)
    (hk : ∀ k, h k = none → aOps P w₀ ops rest (putD s dst (.slice (.own k) 0 n.toNat (.exact n.toNat))) (h.set k ⟨intCells (List.replicate n.toNat 0), 0⟩) K) :
    aOps P w₀ ops (⟨dst, .makeSlice t x y, ty, pos, af, none⟩ :: rest) s h K := by
  rw [aOps_e]
  simp only [eop, eMake, hx, hy, ht, hs, hb, hz, intA]
  refine ⟨⟨h0, by omega, by omega, by omega, rfl, by omega⟩, fun k hk' => ?_⟩
  have e : repCells ((Value.int .i64 0).cells.toList.map absS) (n.toNat * 1) = intCells (List.replicate n.toNat 0) := by
    have : ((Value.int .i64 0).cells.toList.map absS) = [.int .i64 0] := rfl
    rw [this, repCells_one, Nat.mul_one]
    simp [intCells]
  rw [e]
  exact hk k hk'
end

/-! ### A slice of the call's own that grows by append -/
/-- Nil, or a row in a block of its own: es cells an element. -/
structure Buf where
  blk : Nat
  cells : List AVal
def bufV (es : Nat) : Option Buf → AVal
  | none => .nilSlice
  | some b => .slice (.own b.blk) 0 (b.cells.length / es) (.grow es)
def bufC : Option Buf → List AVal
  | none => []
  | some b => b.cells
def bufH (h : AHeap) : Option Buf → AHeap
  | none => h
  | some b => h.set b.blk ⟨b.cells, 0⟩
def bufOk (h : AHeap) (es : Nat) : Option Buf → Prop
  | none => True
  | some b => h b.blk = none ∧ b.cells.length % es = 0 ∧ allLive b.cells = true
theorem bufOk.sub {h h' : AHeap} {es : Nat} {b : Option Buf} (hb : bufOk h es b) (hs : Sub h' h) : bufOk h' es b := by
  cases b with
  | none => trivial
  | some b => exact ⟨hs.none hb.1, hb.2⟩
theorem Sub.buf {h : AHeap} {es : Nat} {b : Option Buf} (hb : bufOk h es b) : Sub h (bufH h b) := by
  cases b with
  | none => exact Sub.refl _
  | some b => exact Sub.set hb.1
theorem bufV_live (es : Nat) (b : Option Buf) : (bufV es b).live = true := by cases b <;> rfl
theorem bufV_scal (es : Nat) (b : Option Buf) : (bufV es b).scal = true := by cases b <;> rfl

/-- What an append has left of the heap. -/
theorem sub_app {h₀ h : AHeap} {kb k' : Nat} {B C : Blk} (h0 : h₀ kb = none) (hs : Sub (h₀.set kb B) h) (hk' : h k' = none) : Sub (h₀.set k' C) ((h.del kb).set k' C) := fun j c hj => by
  by_cases e : j = k'
  · subst e; rw [AHeap.set_same] at hj ⊢; exact hj
  · rw [AHeap.set_ne _ _ e] at hj ⊢
    have e2 : j ≠ kb := fun e2 => by subst e2; rw [h0] at hj; cases hj
    simp only [AHeap.del, e2, if_false]
    exact hs j c (by rw [AHeap.set_ne _ _ e2]; exact hj)

section
variable {P : Program} {w₀ : World} {ops rest : List Oper} {s : Slots} {h : AHeap} {K : Slots → AHeap → Prop} {dst : Option Tmp} {ty : TypeId} {pos : String} {af : Array Edge}
/-- Cells behind a slice of the call's own: h₀ is what else is told of the heap. -/
theorem aOps_appendBuf {ts : Array TypeId} {t u e : TypeId} {d : TypeDesc} {x y : Operand} {v : AVal} {es by' m : Nat} {z : Value} {src : List AVal} {h₀ : AHeap} {b : Option Buf}
    (h0 : ts[0]? = some t) (h1 : ts[1]? = some u) (ht : P.underlying t = some (.slice e)) (hu : P.underlying u = some d) (hd : ∀ k, d ≠ .int k)
    (hs : szOf P e = some es) (hb : byOf P e = some by') (hz : zeOf P e = some z) (hzs : z.cells.size = es) (hes : es ≠ 0)
    (hx : ev s x = bufV es b) (hok : bufOk h₀ es b) (hh : Sub (bufH h₀ b) h) (hy : ev s y = v) (hm : srcLen v = some m) (hp : srcPre w₀ h es m v) (hc : srcCells w₀ h es m v = src) (hsl : src.length = m * es) (hsc : allScal src = true) (hlv : allLive src = true)
    (hl : ((bufC b).length / es + m) * by' ≤ 140737488355328) (hl' : (bufC b).length / es + m < 4611686018427387904)
    (hk : ∀ b' h', bufOk h₀ es b' → bufC b' = bufC b ++ src → Sub (bufH h₀ b') h' → aOps P w₀ ops rest (putD s dst (bufV es b')) h' K) :
    aOps P w₀ ops (⟨dst, .call ⟨.builtin .append, [x, y].toArray, ts⟩, ty, pos, af, none⟩ :: rest) s h K := by
  rw [aOps_e]
  simp only [eop, evs, List.map_cons, List.map_nil, hx, hy, eAppend, h0, h1, ht, hu, hs, hb, hz, hm]
  have hev : 0 < es := Nat.pos_of_ne_zero hes
  cases b with
  | none =>
    refine ⟨hd, ⟨hes, hzs⟩, hp, ?_⟩
    simp only [bufV]
    simp only [bufC, List.length_nil, Nat.zero_div, Nat.zero_add] at hl hl'
    refine ⟨fun e0 => ?_, fun e0 => ⟨⟨hl, hl'⟩, fun k hk0 _ => ?_⟩⟩
    · have : src = [] := List.eq_nil_of_length_eq_zero (by rw [hsl, e0, Nat.zero_mul])
      exact hk none h trivial (by rw [this]; rfl) hh
    · have hsub : Sub (bufH h₀ (some ⟨k, src⟩)) (h.set k ⟨src, 0⟩) := Sub.set_both hh k _
      have hk0' : h₀ k = none := hh.none hk0
      have e1 : src.length / es = m := by rw [hsl]; exact Nat.mul_div_cancel _ hev
      have := hk (some ⟨k, src⟩) (h.set k ⟨src, 0⟩) ⟨hk0', by simp only; rw [hsl]; exact Nat.mul_mod_left _ _, hlv⟩ rfl hsub
      simp only [bufV, e1] at this
      rw [hc]
      exact this
  | some b =>
    obtain ⟨o1, o2, o3⟩ := hok
    simp only [bufC] at hl hl'
    have hkb : h b.blk = some ⟨b.cells, 0⟩ := hh _ _ (AHeap.set_same _ _ _)
    refine ⟨hd, ⟨hes, hzs⟩, hp, ?_⟩
    simp only [bufV, hkb]
    have hdiv : b.cells.length / es * es = b.cells.length := Nat.div_mul_cancel (Nat.dvd_of_mod_eq_zero o2)
    refine ⟨trivial, ⟨by rw [Nat.zero_add, hdiv], hl, hl', by rw [hc]; exact hsc, by rw [List.drop_zero]; exact o3, .inl trivial⟩, fun k hk0 _ => ?_⟩
    rw [hc, List.drop_zero]
    have hsub : Sub (bufH h₀ (some ⟨k, b.cells ++ src⟩)) ((h.del b.blk).set k ⟨b.cells ++ src, 0⟩) := sub_app o1 hh hk0
    have hne : k ≠ b.blk := fun e' => by subst e'; rw [hkb] at hk0; cases hk0
    have hk0' : h₀ k = none := by
      have := hh.none hk0
      rwa [show (bufH h₀ (some b)) = h₀.set b.blk ⟨b.cells, 0⟩ from rfl, AHeap.set_ne _ _ hne] at this
    have e1 : (b.cells ++ src).length / es = b.cells.length / es + m := by
      rw [List.length_append, hsl, Nat.add_mul_div_right _ _ hev]
    have e2 : (b.cells ++ src).length % es = 0 := by
      rw [List.length_append, hsl, Nat.add_mul_mod_self_right]; exact o2
    have hlive : allLive (b.cells ++ src) = true := by
      have : ∀ (a c : List AVal), allLive (a ++ c) = (allLive a && allLive c) := fun a c => by
        induction a with
        | nil => rfl
        | cons x a ih => simp [allLive, ih, Bool.and_assoc]
      rw [this, o3, hlv]; rfl
    have := hk (some ⟨k, b.cells ++ src⟩) _ ⟨hk0', e2, hlive⟩ rfl hsub
    simp only [bufV, e1] at this
    exact this
end
end Go.AM
