/-
  An assertion layer over the model's wp, part V: heaps that are chains of blocks; slices whose elements are rows of cells.
  Conditions: none. Nothing here is about a particular program.
-/
import Derived.Test.YthiiakghjoeikaaGreatDoorAmU
set_option linter.unusedSimpArgs false
set_option linter.unnecessarySimpa false
set_option linter.unusedVariables false
namespace Go.AM
open Go.RowKit (Below)

theorem AHeap.set_none (h : AHeap) (k j : Nat) (b : Blk) : ((h.set k b) j = none) = (j ≠ k ∧ k ≠ j ∧ h j = none) := by
  refine propext ⟨fun e => ?_, fun ⟨e1, _, e2⟩ => by rw [AHeap.set_ne _ _ e1]; exact e2⟩
  have hne : j ≠ k := fun e' => by subst e'; rw [AHeap.set_same] at e; cases e
  exact ⟨hne, Ne.symm hne, by rwa [AHeap.set_ne _ _ hne] at e⟩
theorem AHeap.del_none' (h : AHeap) (k j : Nat) (hj : j ≠ k) : (h.del k) j = h j := by simp [AHeap.del, hj]
theorem rd_ne' (w₀ : World) (h : AHeap) {j k : Nat} (hj : j ≠ k) (b : Blk) (o : Nat) : rd w₀ (h.set k b) (.own j) o = rd w₀ h (.own j) o := rd_ne w₀ h b hj o
theorem Sub.set_both {h h' : AHeap} (hs : Sub h h') (k : Nat) (b : Blk) : Sub (h.set k b) (h'.set k b) := fun j c e => by
  by_cases ej : j = k
  · subst ej; rw [AHeap.set_same] at e ⊢; exact e
  · rw [AHeap.set_ne _ _ ej] at e ⊢; exact hs j c e
theorem lv_bool (b : Bool) : (AVal.bool b).live = true := rfl
theorem lv_int (k : IntKind) (n : Int) : (AVal.int k n).live = true := rfl
theorem lv_str (s : List UInt8) : (AVal.str s).live = true := rfl
theorem lv_nilPtr : AVal.nilPtr.live = true := rfl
theorem lv_ptr (l : Loc) (o : Nat) : (AVal.ptr l o).live = true := rfl
theorem lv_nilSlice : AVal.nilSlice.live = true := rfl
theorem lv_slice (l : Loc) (o n : Nat) (c : Cap) : (AVal.slice l o n c).live = true := rfl
theorem lv_nilFunc : AVal.nilFunc.live = true := rfl
theorem lv_func (f : FuncId) (c : List AVal) : (AVal.func f c).live = true := rfl
theorem lv_nilIface : AVal.nilIface.live = true := rfl
theorem lv_iface (t : TypeId) (v : AVal) : (AVal.iface t v).live = true := rfl
theorem lv_nilMap : AVal.nilMap.live = true := rfl
theorem lv_agg (cs : List AVal) : (AVal.agg cs).live = true := rfl
theorem lv_tuple (cs : List AVal) : (AVal.tuple cs).live = true := rfl
theorem IsB.live {w₀ : World} {h : AHeap} {v : AVal} {bs : List UInt8} (hb : IsB w₀ h v bs) : v.live = true := by cases hb <;> rfl
theorem IsB.scal {w₀ : World} {h : AHeap} {v : AVal} {bs : List UInt8} (hb : IsB w₀ h v bs) : v.scal = true := by cases hb <;> rfl

section
variable {P : Program} {w₀ : World} {s : Slots} {h : AHeap}
theorem resOf_four (t u v x : Nat) : resOf P w₀ s h [.tmp t, .tmp u, .tmp v, .tmp x] = .tuple [s.get t, s.get u, s.get v, s.get x] := rfl
theorem resOfG_four (r u v x : ResultVar) : resOf P w₀ s h [r, u, v, x] = .tuple [(resV P w₀ s h r).val, (resV P w₀ s h u).val, (resV P w₀ s h v).val, (resV P w₀ s h x).val] := rfl
end

section
variable {P : Program}
theorem pSliceS_00 {t : TypeId} (ht : P.underlying t = some .string) (s : List UInt8) : pSlice P t (.str s) none none none = pSliceS s (bndA none 0) (bndA none s.length) := pSliceS_str ht s _ _
theorem pSliceS_0i {t : TypeId} (ht : P.underlying t = some .string) (s : List UInt8) (k : IntKind) (b : Int) : pSlice P t (.str s) none (some (.int k b)) none = pSliceS s (bndA none 0) (bndA (some (.int k b)) s.length) := pSliceS_str ht s _ _
theorem pSliceS_i0 {t : TypeId} (ht : P.underlying t = some .string) (s : List UInt8) (k : IntKind) (b : Int) : pSlice P t (.str s) (some (.int k b)) none none = pSliceS s (bndA (some (.int k b)) 0) (bndA none s.length) := pSliceS_str ht s _ _
theorem pSliceS_ii {t : TypeId} (ht : P.underlying t = some .string) (s : List UInt8) (k k' : IntKind) (a b : Int) : pSlice P t (.str s) (some (.int k a)) (some (.int k' b)) none = pSliceS s (bndA (some (.int k a)) 0) (bndA (some (.int k' b)) s.length) := pSliceS_str ht s _ _
end
end Go.AM
