/-
  Texts of this proof, joined: AmL, AmM, AmN, AmO, AmP, AmQ, AmR, AmS, AmT, AmU, AmV, AmW, AmX, AmY, AmZ, BmA, BmC, BmD, Ty, CoA, PrA, PrB, PrC, PrD, PrE, PrF, PrI, PrJ.
  Conditions: none.
-/
import Derived.Test.YtgnebodlkfblcaaDoorDa
import Derived.ProofKit
import Derived.OpenShut
import Derived.ShutString
import Derived.ChangeOld
import Derived.Below
import Derived.StillTail
import Derived.Lib.UnsafeStr
import Derived.Lib.Builder
import Derived.Laws.Externs
import Derived.Scope
import Derived.Defers
import Derived.Test.YtgnebodlkfblcaaDoorRows
import Derived.KernelRfl
import Derived.Lib.ItoaNum
import Derived.Test.YtgnebodlkfblcaaDoorProg
set_option linter.unusedSimpArgs false
set_option linter.unnecessarySimpa false
set_option linter.unusedVariables false
/-
  An assertion layer over the model's wp, part L: values that are bytes, and the operations that write, as a walk applies them.
  Conditions: none. Nothing here is about a particular program.
-/
namespace Go.AM

/-! ### A value that holds bytes -/
inductive IsB (w₀ : World) (h : AHeap) : AVal → List UInt8 → Prop
  | nil : IsB w₀ h .nilSlice []
  | mk (l : Loc) (o n : Nat) (c : Cap) (bs : List UInt8) (hn : n = bs.length) (hc : cellsAt w₀ h l o n = byteCells bs) (hcap : match c with | .exact c => n ≤ c | .grow g => g = 1) : IsB w₀ h (.slice l o n c) bs

theorem cellsAt_get (w₀ : World) (h : AHeap) (l : Loc) : ∀ (n o i : Nat), i < n → (cellsAt w₀ h l o n)[i]? = some (rd w₀ h l (o + i))
  | n + 1, o, 0, _ => by simp [cellsAt]
  | n + 1, o, i + 1, hi => by
    simp only [cellsAt, List.getElem?_cons_succ]
    rw [cellsAt_get w₀ h l n (o + 1) i (by omega)]
    congr 2
    omega

theorem cellsAt_own {w₀ : World} {h : AHeap} {k : Nat} {b : Blk} (hk : h k = some b) (o n : Nat) (hn : o + n ≤ b.cells.length) : cellsAt w₀ h (.own k) o n = (b.cells.drop o).take n := by
  apply List.ext_getElem?
  intro i
  by_cases hi : i < n
  · rw [cellsAt_get w₀ h (.own k) n o i hi]
    have : o + i < b.cells.length := by omega
    simp [rd, hk, hi, List.getD, List.getElem?_drop, this]
  · rw [List.getElem?_eq_none (by rw [cellsAt_length]; omega), List.getElem?_eq_none (by simp; omega)]

theorem rd_byte {w₀ : World} {h : AHeap} {l : Loc} {o : Nat} {bs : List UInt8} (hc : cellsAt w₀ h l o bs.length = byteCells bs) (i : Nat) (hi : i < bs.length) : rd w₀ h l (o + i) = .int .u8 (bs.getD i 0).toNat := by
  have := cellsAt_get w₀ h l bs.length o i hi
  rw [hc] at this
  simp only [byteCells, List.getElem?_map, List.getElem?_eq_getElem hi, Option.map_some, Option.some.injEq] at this
  rw [← this]
  simp [List.getD, hi]

/-- The pointer to an element. -/
def elemP : AVal → Nat → AVal
  | .slice l o _ _, i => .ptr l (o + i * 1)
  | _, _ => .dead

/-- A part of a slice of bytes. -/
def subV : AVal → Nat → Nat → AVal
  | .slice l o _ (.exact c), i, j => .slice l (o + i * 1) (j - i) (.exact (c - i))
  | .slice l o _ (.grow g), i, j => .slice l (o + i * 1) (j - i) (.grow g)
  | v, _, _ => v

section
variable {P : Program} {w₀ : World} {h : AHeap} {v : AVal} {bs : List UInt8}

theorem IsB.len (hb : IsB w₀ h v bs) {t e : TypeId} (ht : P.underlying t = some (.slice e)) : pLen P t v = ⟨True, .int .i64 bs.length⟩ := by
  cases hb with
  | nil => simp [pLen, ht]
  | mk l o n c bs hn hc hcap => simp [pLen, ht, hn]

theorem IsB.load (hb : IsB w₀ h v bs) {t : TypeId} (ha : aggOf P t = some false) {i : Nat} (hi : i < bs.length) : pLoad P w₀ h t (elemP v i) = ⟨True, .int .u8 (bs.getD i 0).toNat⟩ := by
  cases hb with
  | nil => simp at hi
  | mk l o n c bs hn hc hcap =>
    subst hn
    simp only [elemP, pLoad, ha, Nat.mul_one, rd_byte hc i hi, AVal.live]

theorem IsB.conv (hb : IsB w₀ h v bs) {t u e : TypeId} (ht : P.underlying t = some (.slice e)) (hu : P.underlying u = some .string) (he : P.underlying e = some (.int .u8)) : pConv P w₀ h t u v = ⟨True, .str bs⟩ := by
  cases hb with
  | nil => simp [pConv, ht, hu, he]
  | mk l o n c bs hn hc hcap =>
    subst hn
    simp only [pConv, ht, hu, he, hc, byteCells_isU8, byteCells_byte]

theorem cellsAt_part (w₀ : World) (h : AHeap) (l : Loc) (o n i j : Nat) (hij : i ≤ j) (hj : j ≤ n) : cellsAt w₀ h l (o + i) (j - i) = ((cellsAt w₀ h l o n).drop i).take (j - i) := by
  apply List.ext_getElem?
  intro q
  by_cases hq : q < j - i
  · rw [cellsAt_get _ _ _ _ _ _ hq, List.getElem?_take, if_pos hq, List.getElem?_drop, cellsAt_get _ _ _ _ _ _ (by omega)]
    congr 2
    omega
  · rw [List.getElem?_eq_none (by rw [cellsAt_length]; omega), List.getElem?_eq_none (by simp; omega)]

theorem IsB.sub (hb : IsB w₀ h v bs) {i j : Nat} (hij : i ≤ j) (hj : j ≤ bs.length) : IsB w₀ h (subV v i j) ((bs.drop i).take (j - i)) := by
  cases hb with
  | nil =>
    simp only [List.length_nil] at hj
    simp only [subV, List.drop_nil, List.take_nil]
    exact .nil
  | mk l o n c bs hn hc hcap =>
    subst hn
    have e1 : cellsAt w₀ h l (o + i * 1) (j - i) = byteCells ((bs.drop i).take (j - i)) := by
      rw [Nat.mul_one, cellsAt_part w₀ h l o bs.length i j hij hj, hc]
      simp [byteCells, List.map_take, List.map_drop]
    cases c with
    | exact c => exact .mk l _ _ _ _ (by simp; omega) e1 (by simp only at hcap ⊢; omega)
    | grow g => exact .mk l _ _ _ _ (by simp; omega) e1 hcap

theorem IsB.slice (hb : IsB w₀ h v bs) {t e : TypeId} (ht : P.underlying t = some (.slice e)) (hs : szOf P e = some 1) (lo hi : Option AVal) {l r : Int} (hl : bndA lo 0 = some l) (hr : bndA hi bs.length = some r)
    (h0 : 0 ≤ l) (h1 : l ≤ r) (h2 : r ≤ bs.length) : pSlice P t v lo hi none = ⟨True, subV v l.toNat r.toNat⟩ := by
  cases hb with
  | nil =>
    simp only [List.length_nil] at h2 hr
    have e1 : l = 0 := by omega
    have e2 : r = 0 := by omega
    subst e1 e2
    simp only [pSlice, ht, hs, hl, hr, subV, and_self]
  | mk lc o n c bs hn hc hcap =>
    subst hn
    have e : (r - l).toNat = r.toNat - l.toNat := by omega
    cases c with
    | exact c =>
      simp only at hcap
      have e3 : ((c : Int) - l).toNat = c - l.toNat := by omega
      have e4 : r ≤ c := by omega
      simp only [pSlice, ht, hs, hl, hr, subV, e, e3, h0, h1, e4, and_self]
    | grow g =>
      simp only at hcap
      subst hcap
      simp only [pSlice, ht, hs, hl, hr, subV, e, h0, h1, h2, and_self]

theorem IsB.mono (hb : IsB w₀ h v bs) {h' : AHeap} (hs : Sub h h') : IsB w₀ h' v bs := by
  cases hb with
  | nil => exact .nil
  | mk l o n c bs hn hc hcap =>
    refine .mk l o n c bs hn ?_ hcap
    subst hn
    cases l with
    | base b =>
      rw [← hc]
      have : ∀ (m o : Nat), cellsAt w₀ h' (.base b) o m = cellsAt w₀ h (.base b) o m := by
        intro m
        induction m with
        | zero => intro o; rfl
        | succ m ih => intro o; simp only [cellsAt, ih]; rfl
      exact this _ _
    | own k =>
      cases hk : h k with
      | some b =>
        rw [← hc]
        have : ∀ (m o : Nat), cellsAt w₀ h' (.own k) o m = cellsAt w₀ h (.own k) o m := by
          intro m
          induction m with
          | zero => intro o; rfl
          | succ m ih => intro o; simp only [cellsAt, ih, rd, hk, hs k b hk]
        exact this _ _
      | none =>
        cases bs with
        | nil => rfl
        | cons b bs =>
          simp only [List.length_cons, cellsAt, rd, hk, byteCells, List.map_cons, List.cons.injEq] at hc
          exact absurd hc.1 (by simp)

/-- A block of bytes of the call's own. -/
theorem IsB.own {k : Nat} {f : Nat} (hk : h k = some ⟨byteCells bs, f⟩) {n : Nat} (hn : n = bs.length) {c : Cap} (hcap : match c with | .exact c => n ≤ c | .grow g => g = 1) : IsB w₀ h (.slice (.own k) 0 n c) bs := by
  refine .mk _ _ _ _ _ hn ?_ hcap
  subst hn
  rw [cellsAt_own hk 0 _ (by simp [byteCells])]
  simp only [List.drop_zero]
  exact List.take_of_length_le (by simp [byteCells])
end

theorem rd_set (w₀ : World) (h : AHeap) (k o : Nat) (b : Blk) : rd w₀ (h.set k b) (.own k) o = b.cells.getD o .dead := by simp [rd, AHeap.set_same]
theorem byteCells_getD {bs : List UInt8} {i : Nat} (hi : i < bs.length) : (byteCells bs).getD i .dead = .int .u8 (bs.getD i 0).toNat := by
  simp [byteCells, List.getD, List.getElem?_eq_getElem hi]

theorem byteCells_append (a b : List UInt8) : byteCells (a ++ b) = byteCells a ++ byteCells b := by simp [byteCells]

/-! ### Operations that write, as a walk applies them -/
section
variable {P : Program} {w₀ : World} {ops rest : List Oper} {s : Slots} {h : AHeap} {K : Slots → AHeap → Prop} {dst : Option Tmp} {ty : TypeId} {pos : String} {af : Array Edge}

/-- A guard of a known value: it runs. -/
theorem aOps_yes {op : Op} {j : Nat} {want : Bool} (hg : gv s ops j = .bool want) (hk : aOps P w₀ ops (⟨dst, op, ty, pos, af, none⟩ :: rest) s h K) :
    aOps P w₀ ops (⟨dst, op, ty, pos, af, some (j, want)⟩ :: rest) s h K := by
  unfold gv at hg
  cases hj : nthDst ops j with
  | none => rw [hj] at hg; cases hg
  | some d =>
    rw [hj] at hg
    simp only at hg
    by_cases hp : pureOp P op = true
    · rw [aOps_g hj hp, hg]
      rw [aOps_p hp] at hk
      have e : guardB (.bool want) want = true := by simp [guardB]
      rw [e]
      exact ⟨rfl, fun _ => hk.1, hk.2⟩
    · refine aOps_ge hj (by simpa using hp) (by rw [hg]; rfl) (fun _ => hk) (fun e => ?_)
      rw [hg] at e
      simp [guardB] at e

/-- A guard of a known value: it does not run. -/
theorem aOps_no {op : Op} {j : Nat} {want b : Bool} (hg : gv s ops j = .bool b) (hb : b = !want) (hk : aOps P w₀ ops rest (putD s dst (.tuple [])) h K) :
    aOps P w₀ ops (⟨dst, op, ty, pos, af, some (j, want)⟩ :: rest) s h K := by
  unfold gv at hg
  subst hb
  cases hj : nthDst ops j with
  | none => rw [hj] at hg; cases hg
  | some d =>
    rw [hj] at hg
    simp only at hg
    have e : guardB (.bool (!want)) want = false := by cases want <;> rfl
    by_cases hp : pureOp P op = true
    · rw [aOps_g hj hp, hg, e]
      exact ⟨rfl, fun e' => (by cases e'), hk⟩
    · refine aOps_ge hj (by simpa using hp) (by rw [hg]; rfl) (fun e' => ?_) (fun _ => hk)
      rw [hg, e] at e'
      cases e'

theorem aOps_store {t : TypeId} {x y : Operand} {k o n : Nat} {b : Blk} {v : AVal} (hx : ev s x = .ptr (.own k) o) (hv : ev s y = v) (hb : h k = some b) (hn : szOf P t = some n) (hl : v.live = true) (hc : v.cells.length = n)
    (ho : o + n ≤ b.cells.length) (hf : b.frz ≤ o) (hs : allScal v.cells = true) (hk : aOps P w₀ ops rest (putD s dst (.tuple [])) (h.set k ⟨setAt b.cells o v.cells, b.frz⟩) K) :
    aOps P w₀ ops (⟨dst, .store t x y, ty, pos, af, none⟩ :: rest) s h K := by
  rw [aOps_e]
  simp only [eop, eStore, hx, hv, hb, hn]
  exact ⟨⟨hl, hc, by omega, hf, hs⟩, hk⟩

end


/-! ### Contracts of the library, told over the plain model -/
/-- A contract that answers one value and leaves all that was there. -/
theorem acall_of_calls {P : Program} {w₀ : World} {f : FuncId} {fn : Func} {h : AHeap} {args : List AVal} {V : AVal} {vals : List Value} {val : Value} (hf : P.funcs[f]? = some fn) (hname : (fn.name == "runtime.NumGoroutine") = false) (hb : fn.body.isSome = true)
    (hv : ∀ φ vs, VRs φ args vs → vs = vals) (hV : ∀ φ, VR φ V val) (hc : ∀ w, Calls P f vals.toArray w fun e w' => e = .returned val ∧ Go.RowKit.Below w.heap.size w w') :
    ACall P w₀ f args h (fun v h' => v = V ∧ h' = h) := by
  intro φ vs w hr hvs
  obtain rfl := hv φ vs hvs
  refine .inl ⟨fn, hf, hname, hb, (hc w).mono fun e w' ⟨e1, e2⟩ => ⟨val, e1, φ, V, h, φ.le_refl, hr.later e2, hV φ, rfl, rfl⟩⟩

/-! ### copy and append of bytes -/
/-- What a source of bytes holds. -/
def SrcB (w₀ : World) (h : AHeap) (x : AVal) (src : List UInt8) : Prop :=
  srcLen x = some src.length ∧ ∀ n, n ≤ src.length → srcPre w₀ h 1 n x ∧ srcCells w₀ h 1 n x = byteCells (src.take n)

theorem SrcB.str (w₀ : World) (h : AHeap) (s : List UInt8) : SrcB w₀ h (.str s) s := ⟨rfl, fun _ _ => ⟨rfl, rfl⟩⟩

theorem allScal_byteCells : ∀ bs : List UInt8, allScal (byteCells bs) = true
  | [] => rfl
  | b :: bs => by
    have := allScal_byteCells bs
    simp only [byteCells, List.map_cons, allScal, AVal.scal, Bool.true_and] at this ⊢
    exact this

section
variable {P : Program} {w₀ : World} {ops rest : List Oper} {s : Slots} {h : AHeap} {K : Slots → AHeap → Prop} {dst : Option Tmp} {ty : TypeId} {pos : String} {af : Array Edge}

end

end Go.AM

/-
  An assertion layer over the model's wp, part M: slicing, told for each shape of value.
  Conditions: none. Nothing here is about a particular program.
-/
namespace Go.AM

theorem bndA_int (k : IntKind) (n : Int) (d : Nat) : bndA (some (.int k n)) d = some n := rfl
section
variable {P : Program}
end
end Go.AM

/-
  An assertion layer over the model's wp, part N: append and new rows of bytes, as a walk applies them.
  Conditions: none. Nothing here is about a particular program.
-/
namespace Go.AM

theorem eqNil {α : Type} (s : List α) : (s = []) = (s.length = 0) := by simp

/-- A value of one cell. -/
def Sc : AVal → Prop
  | .agg _ => False
  | .dead => False
  | .mapO _ => False
  | .mapE _ _ _ => False
  | .iterO _ _ _ _ => False
  | _ => True
theorem Sc_slice (l : Loc) (o n : Nat) (c : Cap) : Sc (.slice l o n c) = True := eq_true trivial
theorem Sc_nilSlice : Sc .nilSlice = True := eq_true trivial
theorem Sc_nilPtr : Sc .nilPtr = True := eq_true trivial
theorem Sc_ptr (l : Loc) (o : Nat) : Sc (.ptr l o) = True := eq_true trivial
theorem Sc_nilFunc : Sc .nilFunc = True := eq_true trivial
theorem Sc_func (f : FuncId) (c : List AVal) : Sc (.func f c) = True := eq_true trivial
theorem Sc_nilMap : Sc .nilMap = True := eq_true trivial
theorem aOps_box {P : Program} {w₀ : World} {ops rest : List Oper} {s : Slots} {h : AHeap} {K : Slots → AHeap → Prop} {dst : Option Tmp} {ty : TypeId} {pos : String} {af : Array Edge} {e : TypeId} {x : Operand} {v : AVal} {cs : List AVal}
    (hx : ev s x = v) (hl : v.live = true) (hc : v.cells = cs) (hk : ∀ k, h k = none → aOps P w₀ ops rest (putD s dst (.ptr (.own k) 0)) (h.set k ⟨cs, 0⟩) K) :
    aOps P w₀ ops (⟨dst, .box e x, ty, pos, af, none⟩ :: rest) s h K := by
  rw [aOps_e]
  simp only [eop, hx, hc]
  exact ⟨hl, hk⟩

theorem aOps_alloc {P : Program} {w₀ : World} {ops rest : List Oper} {s : Slots} {h : AHeap} {K : Slots → AHeap → Prop} {dst : Option Tmp} {ty : TypeId} {pos : String} {af : Array Edge} {e : TypeId} {z : Value} {cs : List AVal}
    (hz : zeOf P e = some z) (hc : z.cells.toList.map absS = cs) (hk : ∀ k, h k = none → aOps P w₀ ops rest (putD s dst (.ptr (.own k) 0)) (h.set k ⟨cs, 0⟩) K) :
    aOps P w₀ ops (⟨dst, .alloc e, ty, pos, af, none⟩ :: rest) s h K := by
  rw [aOps_e]
  simp only [eop, hz, hc]
  exact hk

/-- New memory that holds bytes, with no room to spare; or nil. -/
def FreshB (h : AHeap) (bs : List UInt8) (v : AVal) (h' : AHeap) : Prop :=
  (bs = [] ∧ v = .nilSlice ∧ h' = h) ∨ ∃ k, h k = none ∧ v = .slice (.own k) 0 bs.length (.exact bs.length) ∧ h' = h.set k ⟨byteCells bs, 0⟩

theorem FreshB.sub {h : AHeap} {bs : List UInt8} {v : AVal} {h' : AHeap} (hf : FreshB h bs v h') : Sub h h' := by
  rcases hf with ⟨rfl, rfl, rfl⟩ | ⟨k, hk, rfl, rfl⟩
  · exact Sub.refl _
  · exact Sub.set hk
theorem FreshB.cap {P : Program} {h : AHeap} {bs : List UInt8} {v : AVal} {h' : AHeap} (hf : FreshB h bs v h') {t e : TypeId} (ht : P.underlying t = some (.slice e)) : pCap P t v = ⟨True, .int .i64 bs.length⟩ := by
  rcases hf with ⟨rfl, rfl, rfl⟩ | ⟨k, hk, rfl, rfl⟩ <;> simp [pCap, ht]

theorem retA_retE {P : Program} {w₀ : World} {s : Slots} {h : AHeap} {rs : List ResultVar} {R : AVal → AHeap → Prop} (hp : resPre P w₀ s h rs) (hr : ∃ h', Sub h' h ∧ R (resOf P w₀ s h rs) h') : retA P w₀ rs R .ret s h := ⟨hp, hr⟩
section
variable {P : Program} {w₀ : World} {s : Slots} {h : AHeap}
theorem resV_cell (a : Nat) (t : TypeId) : resV P w₀ s h (.cell a t) = pLoad P w₀ h t (s.get a) := rfl
theorem resOfG_one (r : ResultVar) : resOf P w₀ s h [r] = (resV P w₀ s h r).val := rfl
theorem pop_buildL (t : TypeId) (ps : List (Nat × Operand)) : pop P w₀ h s (.build t ps.toArray) = pBuild P t (evP s ps) := rfl
end
theorem rd_own (w₀ : World) {h : AHeap} {k : Nat} {b : Blk} (hk : h k = some b) (o : Nat) : rd w₀ h (.own k) o = b.cells.getD o .dead := by simp [rd, hk]
theorem rd_ne (w₀ : World) (h : AHeap) {j k : Nat} (b : Blk) (hj : j ≠ k) (o : Nat) : rd w₀ (h.set k b) (.own j) o = rd w₀ h (.own j) o := by simp only [rd, AHeap.set_ne h b hj]
theorem rd_any (w₀ : World) (h : AHeap) (k o : Nat) (cs : List AVal) (f : Nat) : rd w₀ (h.set k ⟨cs, f⟩) (.own k) o = cs.getD o .dead := rd_set w₀ h k o ⟨cs, f⟩

theorem Sub.two {h : AHeap} {k k' : Nat} {b b' c' : Blk} (hk : h k = Option.none) (hk' : h.set k b k' = Option.none) : Sub h ((h.set k b').set k' c') := fun j d e => by
  have h1 : j ≠ k := fun e' => by subst e'; rw [hk] at e; cases e
  have h2 : j ≠ k' := fun e' => by
    subst e'
    rw [AHeap.set_ne _ _ h1, e] at hk'
    cases hk'
  rw [AHeap.set_ne _ _ h2, AHeap.set_ne _ _ h1]; exact e

section
variable {P : Program} {w₀ : World} {ops rest : List Oper} {s : Slots} {h : AHeap} {K : Slots → AHeap → Prop} {dst : Option Tmp} {ty : TypeId} {pos : String} {af : Array Edge}

theorem aOps_buildSlice {t : TypeId} {n : Nat} {ps : List (Nat × Operand)} {cs : List AVal} (hb : buildSliceA P t n (evP s ps) = some cs)
    (hk : ∀ k, h k = none → aOps P w₀ ops rest (putD s dst (.slice (.own k) 0 n (.exact n))) (h.set k ⟨cs, 0⟩) K) :
    aOps P w₀ ops (⟨dst, .buildSlice t n ps.toArray, ty, pos, af, none⟩ :: rest) s h K := by
  rw [aOps_e]
  simp only [eop, hb]
  exact hk

end

theorem pickV_cond_rn (c : Bool) (v w : AVal) : pickV (!c) v (condV c w) = pickV (!c) v w := by cases c <;> cases v <;> cases w <;> simp [pickV, condV]

theorem pickV_true (a b : AVal) : pickV true a b = a := by cases a <;> cases b <;> rfl
theorem pickV_false (a b : AVal) : pickV false a b = b := by cases a <;> cases b <;> rfl
theorem cp_nest1 (g c : Bool) (x y : AVal) : condV g (pickV c (condV (g && c) x) y) = condV g (pickV c x y) := by cases g <;> cases c <;> cases x <;> cases y <;> simp [pickV, condV]
theorem cp_nest2 (g c : Bool) (x y : AVal) : condV g (pickV c x (condV (g && !c) y)) = condV g (pickV c x y) := by cases g <;> cases c <;> cases x <;> cases y <;> simp [pickV, condV]

theorem cp_nest3 (g c : Bool) (x y : AVal) : condV g (pickV (!c) x (condV (g && c) y)) = condV g (pickV (!c) x y) := by cases g <;> cases c <;> cases x <;> cases y <;> simp [pickV, condV]
theorem cp_nest4 (g c : Bool) (x y : AVal) : condV g (pickV (!c) (condV (g && !c) x) y) = condV g (pickV (!c) x y) := by cases g <;> cases c <;> cases x <;> cases y <;> simp [pickV, condV]

/-- A contract of the library, in a world that goes on from the first. -/
theorem acall_of_callsB {P : Program} {w₀ : World} {f : FuncId} {fn : Func} {h : AHeap} {args : List AVal} {V : AVal} {vals : List Value} {val : Value} (hf : P.funcs[f]? = some fn) (hname : (fn.name == "runtime.NumGoroutine") = false) (hb : fn.body.isSome = true)
    (hv : ∀ φ vs, VRs φ args vs → vs = vals) (hV : ∀ φ, VR φ V val) (hc : ∀ w, Go.RowKit.Below w₀.heap.size w₀ w → Calls P f vals.toArray w fun e w' => e = .returned val ∧ Go.RowKit.Below w.heap.size w w') :
    ACall P w₀ f args h (fun v h' => v = V ∧ h' = h) := by
  intro φ vs w hr hvs
  obtain rfl := hv φ vs hvs
  refine .inl ⟨fn, hf, hname, hb, (hc w hr.below).mono fun e w' ⟨e1, e2⟩ => ⟨val, e1, φ, V, h, φ.le_refl, hr.later e2, hV φ, rfl, rfl⟩⟩
theorem VRs_i {φ : PMap} {k : IntKind} {n : Int} {vs : List Value} (h : VRs φ [.int k n] vs) : vs = [.int k n] := by
  simp only [VRs, VR] at h
  obtain ⟨v, vs', rfl, rfl, rfl⟩ := h
  rfl
theorem ACall.val {P : Program} {w₀ : World} {f : FuncId} {args : List AVal} {h : AHeap} {V V' : AVal} (hc : ACall P w₀ f args h (fun x h' => x = V ∧ h' = h)) (e : V = V') : ACall P w₀ f args h (fun x h' => x = V' ∧ h' = h) := by
  subst e; exact hc

/-! ### Loads, whose value is told where they may be made -/
section
variable {P : Program} {w₀ : World} {ops rest : List Oper} {s : Slots} {h : AHeap} {K : Slots → AHeap → Prop} {dst : Option Tmp} {ty : TypeId} {pos : String} {af : Array Edge}
def apL (P : Program) (w₀ : World) (ops rest : List Oper) (s : Slots) (h : AHeap) (K : Slots → AHeap → Prop) (dst : Option Tmp) (r : PR) : Prop := r.pre ∧ aOps P w₀ ops rest (putD s dst r.val) h K
def agL (P : Program) (w₀ : World) (ops rest : List Oper) (s : Slots) (h : AHeap) (K : Slots → AHeap → Prop) (dst : Option Tmp) (g : AVal) (want : Bool) (r : PR) : Prop := agP P w₀ ops rest s h K dst g want r
def agQL (P : Program) (w₀ : World) (ops rest : List Oper) (s : Slots) (h : AHeap) (K : Slots → AHeap → Prop) (dst : Option Tmp) (want : Bool) (r : PR) : Option Tmp → Prop
  | none => aOps P w₀ ops rest (putD s dst (.tuple [])) h K
  | some d => agL P w₀ ops rest s h K dst (s.get d) want r
theorem agQL_some {want : Bool} {r : PR} {d : Tmp} : agQL P w₀ ops rest s h K dst want r (some d) = agL P w₀ ops rest s h K dst (s.get d) want r := rfl
theorem ap_loadL (t : TypeId) (x : Operand) : aOps P w₀ ops (⟨dst, .load t x, ty, pos, af, none⟩ :: rest) s h K = apL P w₀ ops rest s h K dst (pLoad P w₀ h t (ev s x)) := by rw [ap_load]; rfl
theorem ag_loadL (t : TypeId) (x : Operand) {j : Nat} {want : Bool} : aOps P w₀ ops (⟨dst, .load t x, ty, pos, af, some (j, want)⟩ :: rest) s h K = agQL P w₀ ops rest s h K dst want (pLoad P w₀ h t (ev s x)) (nthDst ops j) := by
  rw [ag_load]
  cases nthDst ops j <;> rfl
theorem apL_mk (p : Prop) (v : AVal) : apL P w₀ ops rest s h K dst ⟨p, v⟩ = (p ∧ aOps P w₀ ops rest (putD s dst v) h K) := rfl
theorem agL_mk (g : AVal) (want : Bool) (p : Prop) (v : AVal) : agL P w₀ ops rest s h K dst g want ⟨p, v⟩ = agP P w₀ ops rest s h K dst g want ⟨p, v⟩ := rfl
theorem agL_ld5 (b : Bool) (t : TypeId) (x : AVal) : agL P w₀ ops rest s h K dst (.bool (!b)) false (pLoad P w₀ h t (condV b x)) = agL P w₀ ops rest s h K dst (.bool (!b)) false (pLoad P w₀ h t x) := by
  cases b <;> first | rfl | simp [agL, agP, guardB, condV]
theorem agL_ld6 (c b : Bool) (t : TypeId) (x : AVal) : agL P w₀ ops rest s h K dst (condV c (.bool (!b))) false (pLoad P w₀ h t (condV (c && b) x)) = agL P w₀ ops rest s h K dst (condV c (.bool (!b))) false (pLoad P w₀ h t x) := by
  cases c <;> cases b <;> first | rfl | simp [agL, agP, guardB, condV]
theorem agL_il5 (b : Bool) (t : TypeId) (x y : AVal) : agL P w₀ ops rest s h K dst (.bool (!b)) false (pIndexAddr P t (condV b x) y) = agL P w₀ ops rest s h K dst (.bool (!b)) false (pIndexAddr P t x y) := by
  cases b <;> first | rfl | simp [agL, agP, guardB, condV]
theorem agL_il6 (c b : Bool) (t : TypeId) (x y : AVal) : agL P w₀ ops rest s h K dst (condV c (.bool (!b))) false (pIndexAddr P t (condV (c && b) x) y) = agL P w₀ ops rest s h K dst (condV c (.bool (!b))) false (pIndexAddr P t x y) := by
  cases c <;> cases b <;> first | rfl | simp [agL, agP, guardB, condV]
theorem agL_ir5 (b : Bool) (t : TypeId) (x y : AVal) : agL P w₀ ops rest s h K dst (.bool (!b)) false (pIndexAddr P t x (condV b y)) = agL P w₀ ops rest s h K dst (.bool (!b)) false (pIndexAddr P t x y) := by
  cases b <;> first | rfl | simp [agL, agP, guardB, condV]
theorem agL_ir6 (c b : Bool) (t : TypeId) (x y : AVal) : agL P w₀ ops rest s h K dst (condV c (.bool (!b))) false (pIndexAddr P t x (condV (c && b) y)) = agL P w₀ ops rest s h K dst (condV c (.bool (!b))) false (pIndexAddr P t x y) := by
  cases c <;> cases b <;> first | rfl | simp [agL, agP, guardB, condV]
theorem agL_ld1 (b : Bool) (t : TypeId) (x : AVal) : agL P w₀ ops rest s h K dst (.bool b) true (pLoad P w₀ h t (condV b x)) = agL P w₀ ops rest s h K dst (.bool b) true (pLoad P w₀ h t x) := by
  cases b <;> first | rfl | simp [agL, agP, guardB, condV]
theorem agL_ld2 (b : Bool) (t : TypeId) (x : AVal) : agL P w₀ ops rest s h K dst (.bool b) false (pLoad P w₀ h t (condV (!b) x)) = agL P w₀ ops rest s h K dst (.bool b) false (pLoad P w₀ h t x) := by
  cases b <;> first | rfl | simp [agL, agP, guardB, condV]
theorem agL_ld3 (c b : Bool) (t : TypeId) (x : AVal) : agL P w₀ ops rest s h K dst (condV c (.bool b)) true (pLoad P w₀ h t (condV (c && b) x)) = agL P w₀ ops rest s h K dst (condV c (.bool b)) true (pLoad P w₀ h t x) := by
  cases c <;> cases b <;> first | rfl | simp [agL, agP, guardB, condV]
theorem agL_ld4 (c b : Bool) (t : TypeId) (x : AVal) : agL P w₀ ops rest s h K dst (condV c (.bool b)) false (pLoad P w₀ h t (condV (c && !b) x)) = agL P w₀ ops rest s h K dst (condV c (.bool b)) false (pLoad P w₀ h t x) := by
  cases c <;> cases b <;> first | rfl | simp [agL, agP, guardB, condV]
theorem agL_il1 (b : Bool) (t : TypeId) (x y : AVal) : agL P w₀ ops rest s h K dst (.bool b) true (pIndexAddr P t (condV b x) y) = agL P w₀ ops rest s h K dst (.bool b) true (pIndexAddr P t x y) := by
  cases b <;> first | rfl | simp [agL, agP, guardB, condV]
theorem agL_il2 (b : Bool) (t : TypeId) (x y : AVal) : agL P w₀ ops rest s h K dst (.bool b) false (pIndexAddr P t (condV (!b) x) y) = agL P w₀ ops rest s h K dst (.bool b) false (pIndexAddr P t x y) := by
  cases b <;> first | rfl | simp [agL, agP, guardB, condV]
theorem agL_il3 (c b : Bool) (t : TypeId) (x y : AVal) : agL P w₀ ops rest s h K dst (condV c (.bool b)) true (pIndexAddr P t (condV (c && b) x) y) = agL P w₀ ops rest s h K dst (condV c (.bool b)) true (pIndexAddr P t x y) := by
  cases c <;> cases b <;> first | rfl | simp [agL, agP, guardB, condV]
theorem agL_il4 (c b : Bool) (t : TypeId) (x y : AVal) : agL P w₀ ops rest s h K dst (condV c (.bool b)) false (pIndexAddr P t (condV (c && !b) x) y) = agL P w₀ ops rest s h K dst (condV c (.bool b)) false (pIndexAddr P t x y) := by
  cases c <;> cases b <;> first | rfl | simp [agL, agP, guardB, condV]
theorem agL_ir1 (b : Bool) (t : TypeId) (x y : AVal) : agL P w₀ ops rest s h K dst (.bool b) true (pIndexAddr P t x (condV b y)) = agL P w₀ ops rest s h K dst (.bool b) true (pIndexAddr P t x y) := by
  cases b <;> first | rfl | simp [agL, agP, guardB, condV]
theorem agL_ir2 (b : Bool) (t : TypeId) (x y : AVal) : agL P w₀ ops rest s h K dst (.bool b) false (pIndexAddr P t x (condV (!b) y)) = agL P w₀ ops rest s h K dst (.bool b) false (pIndexAddr P t x y) := by
  cases b <;> first | rfl | simp [agL, agP, guardB, condV]
theorem agL_ir3 (c b : Bool) (t : TypeId) (x y : AVal) : agL P w₀ ops rest s h K dst (condV c (.bool b)) true (pIndexAddr P t x (condV (c && b) y)) = agL P w₀ ops rest s h K dst (condV c (.bool b)) true (pIndexAddr P t x y) := by
  cases c <;> cases b <;> first | rfl | simp [agL, agP, guardB, condV]
theorem agL_ir4 (c b : Bool) (t : TypeId) (x y : AVal) : agL P w₀ ops rest s h K dst (condV c (.bool b)) false (pIndexAddr P t x (condV (c && !b) y)) = agL P w₀ ops rest s h K dst (condV c (.bool b)) false (pIndexAddr P t x y) := by
  cases c <;> cases b <;> first | rfl | simp [agL, agP, guardB, condV]

theorem ap_indexAddrL (t : TypeId) (x i : Operand) : aOps P w₀ ops (⟨dst, .indexAddr t x i, ty, pos, af, none⟩ :: rest) s h K = apL P w₀ ops rest s h K dst (pIndexAddr P t (ev s x) (ev s i)) := by rw [ap_indexAddr]; rfl
theorem ag_indexAddrL (t : TypeId) (x i : Operand) {j : Nat} {want : Bool} : aOps P w₀ ops (⟨dst, .indexAddr t x i, ty, pos, af, some (j, want)⟩ :: rest) s h K = agQL P w₀ ops rest s h K dst want (pIndexAddr P t (ev s x) (ev s i)) (nthDst ops j) := by
  rw [ag_indexAddr]
  cases nthDst ops j <;> rfl

section
variable {v : AVal} {bs : List UInt8} (hb : IsB w₀ h v bs)
include hb
end
end
/-! ### A slice of bytes of the call's own that is written -/
/-- The heap in which a slice of the call's own holds other bytes. -/
def updB (got : AVal) (h : AHeap) (T : List UInt8) : AHeap :=
  match got with
  | .slice (.own k) _ _ _ => h.set k ⟨byteCells T, 0⟩
  | _ => h

theorem FreshB.upd {h₀ h h2 : AHeap} {T : List UInt8} {got : AVal} (hf : FreshB h₀ T got h) (hs : Sub h h2) : Sub h2 (updB got h2 T) ∧ Sub (updB got h2 T) h2 := by
  rcases hf with ⟨rfl, rfl, rfl⟩ | ⟨k, hk, rfl, rfl⟩
  · exact ⟨Sub.refl _, Sub.refl _⟩
  · have e : h2.set k ⟨byteCells T, 0⟩ = h2 := by
      funext j
      by_cases ej : j = k
      · subst ej; rw [AHeap.set_same]; exact (hs _ _ (AHeap.set_same _ _ _)).symm
      · rw [AHeap.set_ne _ _ ej]
    simp only [updB, e]
    exact ⟨Sub.refl _, Sub.refl _⟩
section
variable {P : Program} {w₀ : World} {ops rest : List Oper} {s : Slots} {h : AHeap} {K : Slots → AHeap → Prop} {dst : Option Tmp} {ty : TypeId} {pos : String} {af : Array Edge}
end

end Go.AM

/-
  An assertion layer over the model's wp, part O: what comes into a law, as symbolic values.
  Conditions: none. Nothing here is about a particular program.
-/
namespace Go.AM
open Go.RowKit (Below)

theorem wf_u8 {n : Int} (h : (Lit.int .u8 n).wf = true) : 0 ≤ n ∧ n ≤ 255 := by
  have e1 : IntKind.u8.min = 0 := by decide
  have e2 : IntKind.u8.max = 255 := by decide
  simpa [Lit.wf, e1, e2] using h
theorem wf_i64 {n : Int} (h : (Lit.int .i64 n).wf = true) : -9223372036854775808 ≤ n ∧ n ≤ 9223372036854775807 := by
  have e1 : IntKind.i64.min = -9223372036854775808 := by decide
  have e2 : IntKind.i64.max = 9223372036854775807 := by decide
  simpa [Lit.wf, e1, e2] using h
theorem cell_lt {w : World} {b o : Nat} {v : Value} (h : w.cell? ⟨b, o, none⟩ = some v) : b < w.heap.size := by
  simp only [World.cell?] at h
  cases hb : w.heap[b]? with
  | none => simp [hb] at h
  | some x => exact (Array.getElem?_eq_some_iff.1 hb).1

end Go.AM

/-
  An assertion layer over the model's wp, part P: statements whose order is open and that hold calls which leave the heap.
  Conditions: none. Nothing here is about a particular program.
-/
namespace Go.AM
open Go.RowKit (Below)

def opTmps (op : Op) : List Nat := op.operands.toList.filterMap fun | .tmp t => some t | _ => none
def looksL (ops : List Oper) (o : Oper) : List Nat :=
  opTmps o.op ++ match o.guard with
    | some (j, _) => (nthDst ops j).toList
    | none => []

def vOps (P : Program) (w₀ : World) (ops : List Oper) : List Oper → Slots → AHeap → (Slots → AHeap → Prop) → Prop
  | [], s, h, K => K s h
  | o :: rest, s, h, K =>
    match o.guard with
    | none => ∃ V, eop P w₀ h (s.keep (looksL ops o)) o.op (fun x h' => x = V ∧ h' = h) ∧ vOps P w₀ ops rest (putD s o.dst V) h K
    | some (j, want) => match nthDst ops j with
      | none => vOps P w₀ ops rest (putD s o.dst (.tuple [])) h K
      | some d => gKnown (s.get d) = true ∧ ∃ V, (guardB (s.get d) want = true → eop P w₀ h (s.keep (looksL ops o)) o.op (fun x h' => x = V ∧ h' = h)) ∧ vOps P w₀ ops rest (putD s o.dst (condV (guardB (s.get d) want) V)) h K

theorem vOps_mono {P : Program} {w₀ : World} {ops : List Oper} {h : AHeap} {K K' : Slots → AHeap → Prop} : ∀ {l : List Oper} {s : Slots}, vOps P w₀ ops l s h K → (∀ s h, K s h → K' s h) → vOps P w₀ ops l s h K'
  | [], s, hv, hk => hk _ _ hv
  | o :: rest, s, hv, hk => by
    simp only [vOps] at hv ⊢
    split
    · rename_i hg
      rw [hg] at hv
      obtain ⟨V, h1, h2⟩ := hv
      exact ⟨V, h1, vOps_mono h2 hk⟩
    · rename_i j want hg
      rw [hg] at hv
      simp only at hv
      split
      · rename_i hj
        rw [hj] at hv
        exact vOps_mono hv hk
      · rename_i d hj
        rw [hj] at hv
        obtain ⟨h1, V, h2, h3⟩ := hv
        exact ⟨h1, V, h2, vOps_mono h3 hk⟩

section
variable {P : Program} {w₀ : World} {n : FrameK} {h : AHeap}

/-- What one operation does, in whatever act holds what it looks at. -/
def StepOk (P : Program) (w₀ : World) (n : FrameK) (h : AHeap) (ops : List Oper) (o : Oper) (S : Slots) (V : AVal) : Prop :=
  ∀ (ψ : PMap) (w : World) (a : Act) (next : Act → World → Prop) (Q : Exit → Act → World → Prop), HRel w₀ ψ h w → SRel ψ n (S.keep (looksL ops o)) a →
    (∀ ψ' v w', ψ.le ψ' → HRel w₀ ψ' h w' → VR ψ' V v → next (a.put o.dst v) w') →
    if Region.wanted o (yielded ops.toArray a.tmps) = true then o.wp P a w next Q else next (a.put o.dst undef) w

theorem nth_lt {n : Nat} : ∀ (l : List Oper) (j d : Nat), dstsOk n l = true → nthDst l j = some d → d < n := by
  intro l
  induction l with
  | nil => intro j d _ h; simp [nthDst] at h
  | cons o r ih =>
    intro j d h1 h2
    simp only [dstsOk, Bool.and_eq_true] at h1
    cases j with
    | zero => simp only [nthDst] at h2; rw [h2] at h1; simpa using h1.1
    | succ j => exact ih j d h1.2 h2

theorem StepOk.plain {ops : List Oper} {o : Oper} {S : Slots} {V : AVal} (hg : o.guard = none) (he : eop P w₀ h (S.keep (looksL ops o)) o.op (fun x h' => x = V ∧ h' = h)) : StepOk P w₀ n h ops o S V := by
  intro ψ w a next Q hr hs hn
  have hw : Region.wanted o (yielded ops.toArray a.tmps) = true := by simp [Region.wanted, hg]
  rw [if_pos hw]
  exact eop_ok o he hr hs fun ψ' x h' v w' h1 h2 h3 ⟨e1, e2⟩ => by subst e1 e2; exact hn ψ' v w' h1 h2 h3

theorem StepOk.guarded {ops : List Oper} (hall : dstsOk n ops = true) {o : Oper} {S : Slots} {V : AVal} {j d : Nat} {want : Bool} (hg : o.guard = some (j, want)) (hj : nthDst ops j = some d) (hk : gKnown (S.get d) = true)
    (he : guardB (S.get d) want = true → eop P w₀ h (S.keep (looksL ops o)) o.op (fun x h' => x = V ∧ h' = h)) : StepOk P w₀ n h ops o S (condV (guardB (S.get d) want) V) := by
  intro ψ w a next Q hr hs hn
  have hd : (S.keep (looksL ops o)).get d = S.get d := by
    rw [Slots.get_keep, if_pos]
    simp [looksL, hg, hj]
  have hw : Region.wanted o (yielded ops.toArray a.tmps) = guardB (S.get d) want := by
    have := guard_ok hs ops j d hj (nth_lt ops j d hall hj) (by rw [hd]; exact hk) want
    rw [hd] at this
    simp only [Region.wanted, hg]
    exact this
  cases hb : guardB (S.get d) want with
  | true =>
    rw [hw, hb, if_pos rfl]
    rw [hb] at hn
    exact eop_ok o (he hb) hr hs fun ψ' x h' v w' h1 h2 h3 ⟨e1, e2⟩ => by subst e1 e2; exact hn ψ' v w' h1 h2 h3
  | false =>
    rw [hw, hb, if_neg (by decide)]
    rw [hb] at hn
    exact hn ψ undef w ψ.le_refl hr (VR_undef ψ)

theorem StepOk.never {ops : List Oper} {o : Oper} {S : Slots} {j : Nat} {want : Bool} (hg : o.guard = some (j, want)) (hj : nthDst ops j = none) : StepOk P w₀ n h ops o S (.tuple []) := by
  intro ψ w a next Q hr hs hn
  have hd : (ops.toArray[j]?).bind (·.dst) = none := by rw [← hj, nthDst_eq]; simp
  have hw : Region.wanted o (yielded ops.toArray a.tmps) = false := by
    simp only [Region.wanted, hg, yielded, hd]
    rfl
  rw [if_neg (by rw [hw]; decide)]
  exact hn ψ undef w ψ.le_refl hr (VR_undef ψ)

/-- The slots in front of operation i, in the order of the text. -/
def slotsAt (s : Slots) (l : List Oper) (Vs : List AVal) : Nat → Slots
  | 0 => s
  | i + 1 => match l[i]? with
    | some o => putD (slotsAt s l Vs i) o.dst (Vs.getD i .dead)
    | none => slotsAt s l Vs i

theorem slotsAt_take (s : Slots) (l : List Oper) (A B : List AVal) : ∀ i, i ≤ A.length → slotsAt s l (A ++ B) i = slotsAt s l A i
  | 0, _ => rfl
  | i + 1, hi => by
    simp only [slotsAt, slotsAt_take s l A B i (by omega)]
    have : (A ++ B).getD i .dead = A.getD i .dead := by simp [List.getD, List.getElem?_append, show i < A.length by omega]
    rw [this]

theorem vOps_steps {l : List Oper} (hall : dstsOk n l = true) {s : Slots} {K : Slots → AHeap → Prop} : ∀ (rest pre : List Oper) (A : List AVal), l = pre ++ rest → A.length = pre.length → vOps P w₀ l rest (slotsAt s l A pre.length) h K →
    ∃ B : List AVal, B.length = rest.length ∧ (∀ i o, pre.length ≤ i → l[i]? = some o → StepOk P w₀ n h l o (slotsAt s l (A ++ B) i) ((A ++ B).getD i .dead)) ∧ K (slotsAt s l (A ++ B) l.length) h
  | [], pre, A, hl, hA, hv => ⟨[], rfl, fun i o hi ho => by
      rw [hl] at ho; simp at ho
      have := (List.getElem?_eq_some_iff.1 ho).1
      omega, by
      have e : l.length = pre.length := by rw [hl]; simp
      rw [List.append_nil, e]; exact hv⟩
  | o :: rest, pre, A, hl, hA, hv => by
    have hat : l[pre.length]? = some o := by rw [hl]; simp
    have go : ∀ V, StepOk P w₀ n h l o (slotsAt s l A pre.length) V → vOps P w₀ l rest (putD (slotsAt s l A pre.length) o.dst V) h K →
        ∃ B : List AVal, B.length = (o :: rest).length ∧ (∀ i o, pre.length ≤ i → l[i]? = some o → StepOk P w₀ n h l o (slotsAt s l (A ++ B) i) ((A ++ B).getD i .dead)) ∧ K (slotsAt s l (A ++ B) l.length) h := by
      intro V hst hv'
      have e : slotsAt s l (A ++ [V]) (pre ++ [o]).length = putD (slotsAt s l A pre.length) o.dst V := by
        rw [List.length_append, List.length_singleton, slotsAt, hat]
        simp only
        rw [slotsAt_take s l A [V] _ (by omega)]
        congr 1
        simp [List.getD, ← hA]
      obtain ⟨B, h1, h2, h3⟩ := vOps_steps hall rest (pre ++ [o]) (A ++ [V]) (by simp [hl]) (by simp [hA]) (by rw [e]; exact hv')
      refine ⟨V :: B, by simp [h1], fun i o' hi ho' => ?_, by simpa using h3⟩
      rcases Nat.eq_or_lt_of_le hi with e' | e'
      · subst e'
        rw [hat] at ho'
        obtain rfl := Option.some.inj ho'
        rw [slotsAt_take s l A (V :: B) _ (by omega)]
        have : (A ++ V :: B).getD pre.length .dead = V := by simp [List.getD, ← hA]
        rw [this]
        exact hst
      · have := h2 i o' (by simp; omega) ho'
        simpa using this
    simp only [vOps] at hv
    cases hg : o.guard with
    | none =>
      simp only [hg] at hv
      obtain ⟨V, h1, h2⟩ := hv
      exact go V (.plain hg h1) h2
    | some gw =>
      obtain ⟨j, want⟩ := gw
      simp only [hg] at hv
      cases hj : nthDst l j with
      | none =>
        simp only [hj] at hv
        exact go _ (.never hg hj) hv
      | some d =>
        simp only [hj] at hv
        obtain ⟨hk, V, h1, h2⟩ := hv
        exact go _ (.guarded hall hg hj hk h1) h2

/-- The order of a statement leaves each operation what it looks at. -/
def orderB (l : List Oper) : Bool :=
  (List.range l.length).all fun i => match l[i]? with
    | none => true
    | some oi => (oi.after.all fun e => !Region.binds .any e || decide (e.on < i)) &&
      (List.range l.length).all fun j => match l[j]? with
        | none => true
        | some oj => (match oj.dst with
            | none => true
            | some t => (decide (i = j) || decide (oi.dst ≠ some t)) &&
                (!(looksL l oi).contains t || (decide (j < i) && Region.waitsFor .any l.toArray i j) || (decide (i < j) && Region.waitsFor .any l.toArray j i)))

theorem orderB_spec {l : List Oper} (hB : orderB l = true) {i : Nat} {oi : Oper} (hi : l[i]? = some oi) :
    (∀ e ∈ oi.after, Region.binds .any e = true → e.on < i) ∧ ∀ j oj t, l[j]? = some oj → oj.dst = some t → (oi.dst = some t → i = j) ∧
      (t ∈ looksL l oi → (j < i ∧ Region.waitsFor .any l.toArray i j = true) ∨ (i < j ∧ Region.waitsFor .any l.toArray j i = true)) := by
  unfold orderB at hB
  rw [List.all_eq_true] at hB
  have h1 := hB i (by rw [List.mem_range]; exact (List.getElem?_eq_some_iff.1 hi).1)
  simp only [hi, Bool.and_eq_true] at h1
  obtain ⟨ha, hb⟩ := h1
  refine ⟨fun e he hbd => ?_, fun j oj t hj hd => ?_⟩
  · rw [Array.all_eq_true'] at ha
    have := ha e he
    simpa [hbd] using this
  · rw [List.all_eq_true] at hb
    have h2 := hb j (by rw [List.mem_range]; exact (List.getElem?_eq_some_iff.1 hj).1)
    simp only [hj, hd, Bool.and_eq_true, Bool.or_eq_true, decide_eq_true_eq, Bool.not_eq_true', List.contains_eq_mem] at h2
    refine ⟨fun he => ?_, fun ht => ?_⟩
    · rcases h2.1 with e | e
      · exact e
      · exact absurd he e
    · rcases h2.2 with (e | e) | e
      · exact absurd ht (by simpa using e)
      · exact .inl e
      · exact .inr e

theorem put_get (s : Slots) (d : Option Tmp) (x : AVal) (t : Nat) : (putD s d x).get t = if d = some t then x else s.get t := by
  cases d with
  | none => simp [putD]
  | some d =>
    simp only [putD, Slots.get_put, Option.some.injEq]
    by_cases e : t = d
    · subst e; simp
    · rw [if_neg e, if_neg (fun e' => e e'.symm)]

theorem slotsAt_writer {l : List Oper} (hB : orderB l = true) (s : Slots) (Vs : List AVal) {j : Nat} {oj : Oper} {t : Nat} (hj : l[j]? = some oj) (hd : oj.dst = some t) : ∀ i, j < i → i ≤ l.length → (slotsAt s l Vs i).get t = Vs.getD j .dead
  | 0, h, _ => by omega
  | i + 1, h, hi => by
    obtain ⟨o, ho⟩ : ∃ o, l[i]? = some o := ⟨_, List.getElem?_eq_getElem (show i < l.length by omega)⟩
    simp only [slotsAt, ho, put_get]
    by_cases e : o.dst = some t
    · have : i = j := (((orderB_spec hB ho).2 j oj t hj hd).1 e)
      subst this
      rw [if_pos e]
    · rw [if_neg e]
      refine slotsAt_writer hB s Vs hj hd i ?_ (by omega)
      rcases Nat.eq_or_lt_of_le (Nat.le_of_lt_succ h) with e' | e'
      · subst e'
        rw [hj] at ho
        obtain rfl := Option.some.inj ho
        exact absurd hd e
      · exact e'
theorem slotsAt_none {l : List Oper} (s : Slots) (Vs : List AVal) {t : Nat} : ∀ i, (∀ j oj, j < i → l[j]? = some oj → oj.dst ≠ some t) → (slotsAt s l Vs i).get t = s.get t
  | 0, _ => rfl
  | i + 1, h => by
    have ih := slotsAt_none s Vs (t := t) i fun j oj hj => h j oj (by omega)
    simp only [slotsAt]
    split
    · rename_i o ho
      rw [put_get, if_neg (h i o (by omega) ho), ih]
    · exact ih

structure AnyInv (l : List Oper) (Vs : List AVal) (s : Slots) (ψ : PMap) (n : FrameK) (listed : Array Bool) (a : Act) : Prop where
  size : listed.size = l.length
  closed : ∀ j oj, l[j]? = some oj → listed.getD j false = true → ∀ e ∈ oj.after, Region.binds .any e = true → listed.getD e.on false = true
  tsize : a.tmps.size = n
  defers : a.defers = n.dfr
  done : ∀ t j oj, l[j]? = some oj → oj.dst = some t → listed.getD j false = true → VR ψ (Vs.getD j .dead) (a.tmps.getD t undef)
  still : ∀ t, (∀ j oj, l[j]? = some oj → oj.dst = some t → listed.getD j false = false) → VR ψ (s.get t) (a.tmps.getD t undef)

theorem set_self {listed : Array Bool} {i : Nat} (hi : i < listed.size) : (listed.setIfInBounds i true).getD i false = true := by
  simp [Array.getD, hi]
theorem set_other {listed : Array Bool} {i j : Nat} (h : j ≠ i) : (listed.setIfInBounds i true).getD j false = listed.getD j false := by
  rw [Array.getD_eq_getD_getElem?, Array.getD_eq_getD_getElem?, Array.getElem?_setIfInBounds_ne (Ne.symm h)]

theorem all_listed {l : List Oper} (hB : orderB l = true) {listed : Array Bool} (hs : listed.size = l.length) (hr : Region.ready .any l.toArray listed = []) : ∀ i, i < l.length → listed.getD i false = true := by
  intro i
  induction i using Nat.strongRecOn with
  | ind i ih =>
    intro hi
    cases hl : listed.getD i false with
    | true => rfl
    | false =>
      exfalso
      obtain ⟨o, ho⟩ : ∃ o, l[i]? = some o := ⟨_, List.getElem?_eq_getElem hi⟩
      have : i ∈ Region.ready .any l.toArray listed := by
        rw [mem_ready]
        refine ⟨?_, o, by simpa using ho, fun e he hb => ?_⟩
        · have hi' : i < listed.size := by omega
          simp [Array.getD, hi'] at hl ⊢; exact hl
        · have hlt := (orderB_spec hB ho).1 e he hb
          exact ih e.on hlt (by omega)
      rw [hr] at this
      cases this

theorem count_set : ∀ (l : List Bool) (i : Nat), l[i]? = some false → ((l.set i true).filter (!·)).length + 1 = (l.filter (!·)).length
  | [], _, h => by simp at h
  | b :: l, 0, h => by
    simp only [List.getElem?_cons_zero, Option.some.injEq] at h
    subst h
    simp
  | b :: l, i + 1, h => by
    simp only [List.getElem?_cons_succ] at h
    have := count_set l i h
    cases b <;> simp [List.set_cons_succ, List.filter_cons] <;> omega

theorem any_ok {l : List Oper} (hall : dstsOk n l = true) (hB : orderB l = true) {s : Slots} {Vs : List AVal} (hst : ∀ i o, l[i]? = some o → StepOk P w₀ n h l o (slotsAt s l Vs i) (Vs.getD i .dead)) {φ : PMap} {Q : Exit → Act → World → Prop}
    (hq : ∀ ψ a w, φ.le ψ → HRel w₀ ψ h w → SRel ψ n (slotsAt s l Vs l.length) a → Q .normal a w) : ∀ (fuel : Nat) (listed : Array Bool) (a : Act) (w : World) (ψ : PMap), φ.le ψ → HRel w₀ ψ h w → AnyInv l Vs s ψ n listed a →
    (listed.toList.filter (!·)).length ≤ fuel → wpAny P .any l.toArray Q fuel listed a w := by
  have fin : ∀ (listed : Array Bool) (a : Act) (w : World) (ψ : PMap), φ.le ψ → HRel w₀ ψ h w → AnyInv l Vs s ψ n listed a → Region.ready .any l.toArray listed = [] → Q .normal a w := by
    intro listed a w ψ hle hr inv hrd
    refine hq ψ a w hle hr ⟨inv.tsize, inv.defers, fun t => ?_⟩
    by_cases hw : ∃ (j : Nat) (oj : Oper), l[j]? = some oj ∧ oj.dst = some t
    · obtain ⟨j, oj, hj, hd⟩ := hw
      have hlt := (List.getElem?_eq_some_iff.1 hj).1
      rw [slotsAt_writer hB s Vs hj hd l.length hlt (Nat.le_refl _)]
      exact inv.done t j oj hj hd (all_listed hB inv.size hrd j hlt)
    · rw [slotsAt_none s Vs l.length fun j oj _ hj hd => hw ⟨j, oj, hj, hd⟩]
      exact inv.still t fun j oj hj hd => absurd ⟨j, oj, hj, hd⟩ hw
  intro fuel
  induction fuel with
  | zero =>
    intro listed a w ψ hle hr inv hc
    have hrd : Region.ready .any l.toArray listed = [] := by
      cases hrd : Region.ready .any l.toArray listed with
      | nil => rfl
      | cons i r =>
        exfalso
        have hm : i ∈ Region.ready .any l.toArray listed := by rw [hrd]; exact List.mem_cons_self
        obtain ⟨h1, o, ho, _⟩ := mem_ready.1 hm
        have hi : i < listed.size := by
          have : l[i]? = some o := by simpa using ho
          rw [inv.size]; exact (List.getElem?_eq_some_iff.1 this).1
        have h2 : listed.toList[i]? = some false := by
          simp [Array.getD, hi] at h1
          simp [hi, h1]
        have := List.mem_of_getElem? h2
        have hmem : false ∈ listed.toList.filter (!·) := by simp [List.mem_filter, this]
        have := List.length_pos_of_mem hmem
        omega
    exact ⟨hrd, fin listed a w ψ hle hr inv hrd⟩
  | succ fuel ih =>
    intro listed a w ψ hle hr inv hc
    refine ⟨fun hrd => fin listed a w ψ hle hr inv hrd, fun i hi => ?_⟩
    obtain ⟨h1, o, ho, hedges⟩ := mem_ready.1 hi
    have hol : l[i]? = some o := by simpa using ho
    have hilt : i < l.length := (List.getElem?_eq_some_iff.1 hol).1
    have hisz : i < listed.size := by rw [inv.size]; exact hilt
    have hif : listed.getD i false = false := by simp [Array.getD, hisz] at h1 ⊢; exact h1
    have spec := orderB_spec hB hol
    have hs : SRel ψ n ((slotsAt s l Vs i).keep (looksL l o)) a := by
      refine ⟨inv.tsize, inv.defers, fun t => ?_⟩
      rw [Slots.get_keep]
      by_cases ht : (looksL l o).contains t = true
      · rw [if_pos ht]
        have ht' : t ∈ looksL l o := by simpa using ht
        by_cases hw : ∃ (j : Nat) (oj : Oper), l[j]? = some oj ∧ oj.dst = some t
        · obtain ⟨j, oj, hj, hd⟩ := hw
          rcases (spec.2 j oj t hj hd).2 ht' with ⟨c1, c2⟩ | ⟨c1, c2⟩
          · rw [slotsAt_writer hB s Vs hj hd i c1 (by omega)]
            refine inv.done t j oj hj hd ?_
            obtain ⟨oi, g1, e, g2, g3, g4⟩ := Region.waitsFor_spec c2
            rw [ho] at g1
            obtain rfl := Option.some.inj g1
            rw [← g4]
            exact hedges e g2 g3
          · rw [slotsAt_none s Vs i fun j' oj' hj'' hj' hd' => by
              have := ((orderB_spec hB hj').2 j oj t hj hd).1 hd'
              omega]
            refine inv.still t fun j' oj' hj' hd' => ?_
            have e := ((orderB_spec hB hj').2 j oj t hj hd).1 hd'
            subst e
            cases hl : listed.getD j' false with
            | false => rfl
            | true =>
              exfalso
              obtain ⟨oi, g1, e, g2, g3, g4⟩ := Region.waitsFor_spec c2
              have g1' : l[j']? = some oi := by simpa using g1
              have := inv.closed j' oi g1' hl e g2 g3
              rw [g4, hif] at this
              cases this
        · rw [slotsAt_none s Vs i fun j oj _ hj hd => hw ⟨j, oj, hj, hd⟩]
          exact inv.still t fun j oj hj hd => absurd ⟨j, oj, hj, hd⟩ hw
      · rw [if_neg ht]
        trivial
    have step := hst i o hol ψ w a (wpAny P .any l.toArray Q fuel (listed.setIfInBounds i true)) Q hr hs fun ψ' v w' hle' hr' hv => by
      have hdn : ∀ d, o.dst = some d → d < n := fun d hd => nth_lt l i d hall (by rw [nthDst_eq, hol]; exact hd)
      refine ih _ _ _ ψ' (PMap.le_trans hle hle') hr' ?_ ?_
      · refine ⟨by simp [inv.size], fun j oj hj hl e he hb => ?_, ?_, ?_, fun t j oj hj hd hl => ?_, fun t hun => ?_⟩
        · by_cases e1 : e.on = i
          · rw [e1]; exact set_self hisz
          · rw [set_other e1]
            by_cases e2 : j = i
            · subst e2
              rw [hol] at hj
              obtain rfl := Option.some.inj hj
              exact hedges e he hb
            · rw [set_other e2] at hl
              exact inv.closed j oj hj hl e he hb
        · cases hod : o.dst with
          | none => simpa [Act.put] using inv.tsize
          | some d => simpa [Act.put] using inv.tsize
        · cases hod : o.dst with
          | none => simpa [Act.put] using inv.defers
          | some d => simpa [Act.put] using inv.defers
        · by_cases e : j = i
          · subst e
            rw [hol] at hj
            obtain rfl := Option.some.inj hj
            have hlt : t < a.tmps.size := by rw [inv.tsize]; exact hdn t hd
            have : (a.put o.dst v).tmps.getD t undef = v := by rw [hd]; simp [Act.put, hlt]
            rw [this]; exact hv
          · rw [set_other e] at hl
            have hne : o.dst ≠ some t := fun hod => e (((spec.2 j oj t hj hd).1 hod).symm)
            have : (a.put o.dst v).tmps.getD t undef = a.tmps.getD t undef := by
              cases hod : o.dst with
              | none => rfl
              | some d =>
                have hdt : d ≠ t := fun e => hne (by rw [hod, e])
                simp [Act.put, Array.getD_eq_getD_getElem?, Array.getElem?_setIfInBounds_ne hdt]
            rw [this]
            exact VR_mono hle' _ _ (inv.done t j oj hj hd hl)
        · have hne : o.dst ≠ some t := fun hod => by
            have := hun i o hol hod
            rw [set_self hisz] at this
            cases this
          have : (a.put o.dst v).tmps.getD t undef = a.tmps.getD t undef := by
            cases hod : o.dst with
            | none => rfl
            | some d =>
              have hdt : d ≠ t := fun e => hne (by rw [hod, e])
              simp [Act.put, Array.getD_eq_getD_getElem?, Array.getElem?_setIfInBounds_ne hdt]
          rw [this]
          refine VR_mono hle' _ _ (inv.still t fun j oj hj hd => ?_)
          have e : j ≠ i := fun e => by subst e; rw [hol] at hj; obtain rfl := Option.some.inj hj; exact hne hd
          have := hun j oj hj hd
          rwa [set_other e] at this
      · have h2 : listed.toList[i]? = some false := by
          simp [Array.getD, hisz] at h1
          simp [hisz, h1]
        have := count_set listed.toList i h2
        have e : (listed.setIfInBounds i true).toList = listed.toList.set i true := by simp
        rw [e]
        omega
    simp only [wpOp, ho]
    split
    · rename_i hw
      rw [if_pos hw] at step
      exact .inl step
    · rename_i hw
      rw [if_neg hw] at step
      exact step

/-- A statement whose order is open, and whose operations read, or call what leaves the heap. -/
theorem awp_draw_any {Q : Exit → Slots → AHeap → Prop} {s : Slots} {id : Nat} {l : List Oper} (hm : P.follows .mixedOrders = true) (hB : orderB l = true) (hd : dstsOk n l = true) (hc : vOps P w₀ l l s h (fun s' h' => Q .normal s' h')) :
    Awp P w₀ n (.region id l.toArray true) Q s h := by
  refine Awp.of0 ?_
  intro φ a w hr hs
  obtain ⟨Vs, h1, h2, h3⟩ := vOps_steps (P := P) (w₀ := w₀) (n := n) (h := h) hd (s := s) l [] [] rfl rfl hc
  simp only [List.nil_append, List.length_nil, Nat.zero_le, true_implies] at h1 h2 h3
  refine wp_region_any hm ?_
  refine any_ok (φ := φ) hd hB (s := s) (Vs := Vs) (fun i o ho => h2 i o ho) (fun ψ a' w' hle hr' hs' => ⟨ψ, _, h, hle, hr', hs', h3⟩) _ _ _ _ φ φ.le_refl hr.drew ?_ ?_
  · have hf : ∀ j, (Array.replicate l.toArray.size false).getD j false = false := fun j => by
      simp [Array.getD]
    refine ⟨by simp, fun j oj _ hl => (by rw [hf] at hl; cases hl), hs.size, hs.defers, fun t j oj _ _ hl => (by rw [hf] at hl; cases hl), fun t _ => hs.val t⟩
  · have := List.length_filter_le (!·) (Array.replicate l.toArray.size false).toList
    simpa using this

theorem awp_dseq_any {Q : Exit → Slots → AHeap → Prop} {s : Slots} {id : Nat} {l : List Oper} {y : Code} (L : List Nat) (hm : P.follows .mixedOrders = true) (hB : orderB l = true) (hd : dstsOk n l = true)
    (hc : ∀ K : Slots → AHeap → Prop, (∀ s h, Awp P w₀ n y Q s h → K s h) → vOps P w₀ l l s h (fun s' h' => K (s'.keep L) h')) : Awp P w₀ n (.seq (.region id l.toArray true) y) Q s h :=
  awp_seq (awp_draw_any hm hB hd (hc (fun s h => Awp P w₀ n y Q (s) h) (fun _ _ hk => hk) |> fun hv => vOps_mono hv fun _ _ hk => Awp.keep L hk))
end
end Go.AM

/-
  An assertion layer over the model's wp, part Q: statements of open order, as a walk rewrites them.
  Conditions: none. Nothing here is about a particular program.
-/
namespace Go.AM

theorem ev_keep {s : Slots} {L : List Nat} {x : Operand} (h : ∀ t, x = .tmp t → t ∈ L) : ev (s.keep L) x = ev s x := by
  cases x with
  | tmp t =>
    simp only [ev, Slots.get_keep]
    rw [if_pos (by simpa using h t rfl)]
  | _ => rfl
theorem looks_of {ops : List Oper} {o : Oper} {x : Operand} (h : x ∈ o.op.operands.toList) : ∀ t, x = .tmp t → t ∈ looksL ops o := by
  rintro t rfl
  unfold looksL opTmps
  rw [List.mem_append]
  exact .inl (List.mem_filterMap.2 ⟨_, h, rfl⟩)
theorem evs_keep {s : Slots} {L : List Nat} : ∀ {xs : List Operand}, (∀ x ∈ xs, ∀ t, x = .tmp t → t ∈ L) → evs (s.keep L) xs = evs s xs
  | [], _ => rfl
  | x :: xs, h => by
    have := evs_keep (s := s) (L := L) (xs := xs) fun y hy => h y (List.mem_cons_of_mem _ hy)
    simp only [evs, List.map_cons] at this ⊢
    rw [ev_keep (h x List.mem_cons_self), this]

section
variable {P : Program} {w₀ : World} {ops rest : List Oper} {s : Slots} {h : AHeap} {K : Slots → AHeap → Prop} {dst : Option Tmp} {ty : TypeId} {pos : String} {af : Array Edge}

theorem vOps_nil : vOps P w₀ ops [] s h K = K s h := rfl
theorem vp_of {op : Op} (hp : pureOp P op = true) (hk : pop P w₀ h (s.keep (looksL ops ⟨dst, op, ty, pos, af, none⟩)) op = pop P w₀ h s op) :
    vOps P w₀ ops (⟨dst, op, ty, pos, af, none⟩ :: rest) s h K = ((pop P w₀ h s op).pre ∧ vOps P w₀ ops rest (putD s dst (pop P w₀ h s op).val) h K) := by
  simp only [vOps]
  refine propext ⟨fun ⟨V, h1, h2⟩ => ?_, fun ⟨h1, h2⟩ => ⟨_, (eop_pure hp).2 ⟨by rw [hk]; exact h1, by rw [hk], rfl⟩, h2⟩⟩
  obtain ⟨g1, g2, _⟩ := (eop_pure hp).1 h1
  rw [hk] at g1 g2
  subst g2
  exact ⟨g1, h2⟩
theorem vp_move (x : Operand) : vOps P w₀ ops (⟨dst, .move x, ty, pos, af, none⟩ :: rest) s h K = ((pop P w₀ h s (.move x)).pre ∧ vOps P w₀ ops rest (putD s dst (pop P w₀ h s (.move x)).val) h K) :=
  vp_of rfl (by
    simp only [pop, ev_keep (looks_of (o := ⟨dst, .move x, ty, pos, af, none⟩) (x := x) (by simp [Op.operands]))])
theorem vp_load (t : TypeId) (x : Operand) : vOps P w₀ ops (⟨dst, .load t x, ty, pos, af, none⟩ :: rest) s h K = ((pop P w₀ h s (.load t x)).pre ∧ vOps P w₀ ops rest (putD s dst (pop P w₀ h s (.load t x)).val) h K) :=
  vp_of rfl (by
    simp only [pop, ev_keep (looks_of (o := ⟨dst, .load t x, ty, pos, af, none⟩) (x := x) (by simp [Op.operands]))])
theorem vp_fieldAddr (t : TypeId) (x : Operand) (f : Nat) : vOps P w₀ ops (⟨dst, .fieldAddr t x f, ty, pos, af, none⟩ :: rest) s h K = ((pop P w₀ h s (.fieldAddr t x f)).pre ∧ vOps P w₀ ops rest (putD s dst (pop P w₀ h s (.fieldAddr t x f)).val) h K) :=
  vp_of rfl (by
    simp only [pop, ev_keep (looks_of (o := ⟨dst, .fieldAddr t x f, ty, pos, af, none⟩) (x := x) (by simp [Op.operands]))])
theorem vp_indexAddr (t : TypeId) (x i : Operand) : vOps P w₀ ops (⟨dst, .indexAddr t x i, ty, pos, af, none⟩ :: rest) s h K = ((pop P w₀ h s (.indexAddr t x i)).pre ∧ vOps P w₀ ops rest (putD s dst (pop P w₀ h s (.indexAddr t x i)).val) h K) :=
  vp_of rfl (by
    simp only [pop, ev_keep (looks_of (o := ⟨dst, .indexAddr t x i, ty, pos, af, none⟩) (x := x) (by simp [Op.operands])), ev_keep (looks_of (o := ⟨dst, .indexAddr t x i, ty, pos, af, none⟩) (x := i) (by simp [Op.operands]))])
/-- A call whose answer is one value and that leaves the heap. -/
theorem vOps_callV {fo : Operand} {args : List Operand} {ts : Array TypeId} {f : FuncId} {cap xs : List AVal} {V : AVal} (hf : ev s fo = .func f cap) (hx : evs s args ++ cap = xs) (hc : ACall P w₀ f xs h (fun x h' => x = V ∧ h' = h))
    (hk : vOps P w₀ ops rest (putD s dst V) h K) : vOps P w₀ ops (⟨dst, .call ⟨.value fo, args.toArray, ts⟩, ty, pos, af, none⟩ :: rest) s h K := by
  simp only [vOps]
  refine ⟨V, ?_, hk⟩
  have e1 : ev (s.keep (looksL ops ⟨dst, .call ⟨.value fo, args.toArray, ts⟩, ty, pos, af, none⟩)) fo = .func f cap := by
    rw [ev_keep (looks_of (by simp [Op.operands, Call.operands]))]; exact hf
  have e2 : evs (s.keep (looksL ops ⟨dst, .call ⟨.value fo, args.toArray, ts⟩, ty, pos, af, none⟩)) args = evs s args :=
    evs_keep fun x hx => looks_of (by simp [Op.operands, Call.operands, hx])
  simp only [eop, e1, e2, hx]
  exact hc
end
end Go.AM

/-
  An assertion layer over the model's wp, part R: statements of open order that end in operations that write.
  Conditions: none. Nothing here is about a particular program.
-/
namespace Go.AM
open Go.RowKit (Below)

section
variable {P : Program} {w₀ : World} {n : FrameK} {h : AHeap}

end
end Go.AM

/-
  An assertion layer over the model's wp, part S: statements of open order whose heap hangs on what has been listed (an alloc among the operations).
  Conditions: none. Nothing here is about a particular program.
-/
namespace Go.AM
open Go.RowKit (Below)

section
variable {P : Program} {w₀ : World} {n : FrameK} {h : AHeap}

/-- What operation i does, in whatever order it comes up; HS tells the heap from what is listed. -/
def StepH (P : Program) (w₀ : World) (n : FrameK) (HS : Array Bool → PMap → Act → World → Prop) (l : List Oper) (Vs : List AVal) (s : Slots) (i : Nat) (o : Oper) : Prop :=
  ∀ (listed : Array Bool) (ψ : PMap) (w : World) (a : Act) (next : Act → World → Prop) (Q : Exit → Act → World → Prop), listed.getD i false = false → i < listed.size → (∀ e ∈ o.after, Region.binds .any e = true → listed.getD e.on false = true) →
    HS listed ψ a w → AnyInv l Vs s ψ n listed a → SRel ψ n ((slotsAt s l Vs i).keep (looksL l o)) a →
    (∀ ψ' v w', ψ.le ψ' → HS (listed.setIfInBounds i true) ψ' (a.put o.dst v) w' → VR ψ' (Vs.getD i .dead) v → next (a.put o.dst v) w') →
    if Region.wanted o (yielded l.toArray a.tmps) = true then o.wp P a w next Q else next (a.put o.dst undef) w

/-- The heap of a statement that allocates at ia (into slot ta) and stores there at is. -/
def HSA (w₀ : World) (h : AHeap) (ia is ta : Nat) (zb b : Blk) (listed : Array Bool) (ψ : PMap) (a : Act) (w : World) : Prop :=
  (listed.getD ia false = false ∧ HRel w₀ ψ h w) ∨
  (listed.getD ia false = true ∧ ∃ k, h k = none ∧ VR ψ (.ptr (.own k) 0) (a.tmps.getD ta undef) ∧ HRel w₀ ψ (h.set k (if listed.getD is false then b else zb)) w)

theorem put_tmps_ne (a : Act) (d : Option Tmp) (v : Value) {t : Nat} (hne : d ≠ some t) : (a.put d v).tmps.getD t undef = a.tmps.getD t undef := by
  cases d with
  | none => rfl
  | some d =>
    have hdt : d ≠ t := fun e => hne (by rw [e])
    simp [Act.put, Array.getD_eq_getD_getElem?, Array.getElem?_setIfInBounds_ne hdt]

theorem StepH.plain {l : List Oper} {Vs : List AVal} {s : Slots} {i : Nat} {o : Oper} {ia is ta : Nat} {zb b : Blk} (hi : i ≠ ia) (hi' : i ≠ is) (hdt : o.dst ≠ some ta)
    (h1 : StepOk P w₀ n h l o (slotsAt s l Vs i) (Vs.getD i .dead)) (h2 : ∀ k c, h k = none → StepOk P w₀ n (h.set k c) l o (slotsAt s l Vs i) (Vs.getD i .dead)) : StepH P w₀ n (HSA w₀ h ia is ta zb b) l Vs s i o := by
  intro listed ψ w a next Q hl hsz he hH inv hs hn
  rcases hH with ⟨e1, hr⟩ | ⟨e1, k, hk, hv, hr⟩
  · exact h1 ψ w a next Q hr hs fun ψ' v w' hle hr' hv' => hn ψ' v w' hle (.inl ⟨by rw [set_other (Ne.symm hi)]; exact e1, hr'⟩) hv'
  · refine h2 k _ hk ψ w a next Q hr hs fun ψ' v w' hle hr' hv' => hn ψ' v w' hle (.inr ⟨by rw [set_other (Ne.symm hi)]; exact e1, k, hk, ?_, ?_⟩) hv'
    · rw [put_tmps_ne a o.dst v hdt]; exact VR_mono hle _ _ hv
    · rw [set_other (Ne.symm hi')]; exact hr'

theorem StepH.alloc {l : List Oper} (hall : dstsOk n l = true) {Vs : List AVal} {s : Slots} {o : Oper} {ia is ta : Nat} {zb b : Blk} (hol : l[ia]? = some o) (hg : o.guard = none) (hd : o.dst = some ta) {e : TypeId} (hop : o.op = .alloc e) {z : Value} (hz : zeOf P e = some z)
    (hzb : zb = ⟨z.cells.toList.map absS, 0⟩) (hne : is ≠ ia) (hw : Region.waitsFor .any l.toArray is ia = true) (hV : Vs.getD ia .dead = .dead) : StepH P w₀ n (HSA w₀ h ia is ta zb b) l Vs s ia o := by
  intro listed ψ w a next Q hl hsz he hH inv hs hn
  have hwt : Region.wanted o (yielded l.toArray a.tmps) = true := by simp [Region.wanted, hg]
  rw [if_pos hwt]
  rcases hH with ⟨_, hr⟩ | ⟨e1, _⟩
  · have hlis : listed.getD is false = false := by
      cases hc : listed.getD is false with
      | false => rfl
      | true =>
        exfalso
        obtain ⟨oi, g1, e, g2, g3, g4⟩ := Region.waitsFor_spec hw
        have := inv.closed is oi (by simpa using g1) hc e g2 g3
        rw [g4, hl] at this
        cases this
    have heop : eop P w₀ h ((slotsAt s l Vs ia).keep (looksL l o)) o.op (fun x h' => ∃ k, h k = none ∧ x = .ptr (.own k) 0 ∧ h' = h.set k zb) := by
      rw [hop]
      simp only [eop, hz]
      exact fun k hk => ⟨k, hk, rfl, by rw [hzb]⟩
    refine eop_ok o heop hr hs fun ψ' x h' v w' h1 h2 h3 ⟨k, hk, e1, e2⟩ => ?_
    subst e1 e2
    have hlt : ta < a.tmps.size := by rw [inv.tsize]; exact nth_lt l ia ta hall (by rw [nthDst_eq, hol]; exact hd)
    refine hn ψ' v w' h1 (.inr ⟨set_self hsz, k, hk, ?_, ?_⟩) (by rw [hV]; trivial)
    · have : (a.put o.dst v).tmps.getD ta undef = v := by rw [hd]; simp [Act.put, hlt]
      rw [this]; exact h3
    · rw [set_other hne, hlis, if_neg (by decide)]; exact h2
  · rw [hl] at e1; cases e1

theorem StepH.store {l : List Oper} {Vs : List AVal} {s : Slots} {o : Oper} {ia is ta : Nat} {zb b : Blk} (hol : l[is]? = some o) (hg : o.guard = none) (hd : o.dst = none) (hne : is ≠ ia) (hw : Region.waitsFor .any l.toArray is ia = true) (hV : Vs.getD is .dead = .dead)
    (hst : ∀ k, h k = none → eop P w₀ (h.set k zb) (((slotsAt s l Vs is).put ta (.ptr (.own k) 0)).keep (looksL l o)) o.op (fun _ h' => h' = h.set k b)) : StepH P w₀ n (HSA w₀ h ia is ta zb b) l Vs s is o := by
  intro listed ψ w a next Q hl hsz he hH inv hs hn
  have hwt : Region.wanted o (yielded l.toArray a.tmps) = true := by simp [Region.wanted, hg]
  rw [if_pos hwt]
  have hlia : listed.getD ia false = true := by
    obtain ⟨oi, g1, e, g2, g3, g4⟩ := Region.waitsFor_spec hw
    have g1' : l[is]? = some oi := by simpa using g1
    rw [hol] at g1'
    obtain rfl := Option.some.inj g1'
    rw [← g4]
    exact he e g2 g3
  rcases hH with ⟨e1, _⟩ | ⟨e1, k, hk, hv, hr⟩
  · rw [hlia] at e1; cases e1
  · rw [hl, if_neg (by decide)] at hr
    have hs' : SRel ψ n (((slotsAt s l Vs is).put ta (.ptr (.own k) 0)).keep (looksL l o)) a := by
      refine ⟨hs.size, hs.defers, fun t => ?_⟩
      have h0 := hs.val t
      rw [Slots.get_keep] at h0 ⊢
      by_cases hc : (looksL l o).contains t = true
      · rw [if_pos hc] at h0 ⊢
        rw [Slots.get_put]
        by_cases ht : t = ta
        · subst ht; simpa using hv
        · simpa [ht] using h0
      · rw [if_neg hc]; trivial
    refine eop_ok o (hst k hk) hr hs' fun ψ' x h' v w' h1 h2 h3 e2 => ?_
    subst e2
    refine hn ψ' v w' h1 (.inr ⟨by rw [set_other (Ne.symm hne)]; exact hlia, k, hk, ?_, ?_⟩) (by rw [hV]; trivial)
    · rw [hd]; exact VR_mono h1 _ _ hv
    · rw [set_self hsz, if_pos rfl]; exact h2

/-- 0: writes; 1: asked at every heap near h; 2: reads. -/
def kindB : Op → Nat
  | .alloc .. => 0
  | .store .. => 0
  | .call .. => 1
  | .convert .. => 1
  | .box .. => 1
  | .buildSlice .. => 1
  | .makeSlice .. => 1
  | .makeMap .. => 1
  | .mapUpdate .. => 1
  | .insert .. => 1
  | .range .. => 1
  | .next .. => 1
  | .entry .. => 1
  | _ => 2

def Near (h g : AHeap) : Prop := g = h ∨ ∃ k c, h k = none ∧ g = h.set k c
theorem Near.sub {h g : AHeap} (hn : Near h g) : ∀ k b, h k = some b → g k = some b := by
  intro k b hb
  rcases hn with rfl | ⟨k', c, hk, rfl⟩
  · exact hb
  · rw [AHeap.set_ne]
    · exact hb
    · intro e; subst e; rw [hk] at hb; cases hb

theorem eop_reads {op : Op} {s : Slots} {K : AVal → AHeap → Prop} (hp : kindB op = 2) (he : eop P w₀ h s op K) : (pop P w₀ h s op).pre ∧ K (pop P w₀ h s op).val h := by
  cases op <;> first
    | exact he
    | (simp [kindB] at hp; done)

/-- A step that reads does so beside other memory. -/
theorem StepOk.far {ops : List Oper} {o : Oper} {S : Slots} {V : AVal} {g : AHeap} (hg : o.guard = none) (hp : kindB o.op = 2) (hn : Near h g) (he : eop P w₀ h (S.keep (looksL ops o)) o.op (fun x h' => x = V ∧ h' = h)) : StepOk P w₀ n g ops o S V := by
  intro ψ w a next Q hr hs hnx
  have hw : Region.wanted o (yielded ops.toArray a.tmps) = true := by simp [Region.wanted, hg]
  rw [if_pos hw]
  obtain ⟨h1, h2, _⟩ := eop_reads hp he
  obtain ⟨r, e1, e2⟩ := pop_ok o h1 (hr.forget hn.sub) hs
  exact wp_value (e1 w (Same.refl w)) (hnx ψ r w ψ.le_refl hr (h2 ▸ e2))

variable {ops rest : List Oper} {dst : Option Tmp} {ty : TypeId} {pos : String} {af : Array Edge}
end
end Go.AM

/-
  An assertion layer over the model's wp, part T: one rule for statements of open order: operations that read, call or lay blocks in any order, late ones that only look at slots, and a chained tail.
  Conditions: none. Nothing here is about a particular program.
-/
namespace Go.AM
open Go.RowKit (Below)

/-! ### What an operation does hangs on what it looks at -/
theorem ev_mem {s : Slots} {L : List Nat} {op : Op} (hL : ∀ t ∈ opTmps op, t ∈ L) : ∀ x ∈ op.operands.toList, ev (s.keep L) x = ev s x := by
  intro x hx
  refine ev_keep fun t ht => hL t ?_
  subst ht
  exact List.mem_filterMap.2 ⟨_, hx, rfl⟩
theorem evs_mem {s s' : Slots} : ∀ {xs : List Operand}, (∀ x ∈ xs, ev s' x = ev s x) → evs s' xs = evs s xs
  | [], _ => rfl
  | x :: xs, h => by
    have := evs_mem (s := s) (s' := s') (xs := xs) fun y hy => h y (List.mem_cons_of_mem _ hy)
    simp only [evs, List.map_cons] at this ⊢
    rw [h x List.mem_cons_self, this]
theorem evP_mem {s s' : Slots} : ∀ {xs : List (Nat × Operand)}, (∀ p ∈ xs, ev s' p.2 = ev s p.2) → evP s' xs = evP s xs
  | [], _ => rfl
  | x :: xs, h => by
    have := evP_mem (s := s) (s' := s') (xs := xs) fun y hy => h y (List.mem_cons_of_mem _ hy)
    simp only [evP, List.map_cons] at this ⊢
    rw [h x List.mem_cons_self, this]
theorem evO_mem {s s' : Slots} {x : Option Operand} (h : ∀ y, x = some y → ev s' y = ev s y) : evO s' x = evO s x := by
  cases x with
  | none => rfl
  | some y => simp only [evO, h y rfl]

theorem pop_congr {P : Program} {w₀ : World} {h : AHeap} {s s' : Slots} (op : Op) (E : ∀ x ∈ op.operands.toList, ev s' x = ev s x) : pop P w₀ h s' op = pop P w₀ h s op := by
  cases op with
  | move x => simp only [pop, E x (by simp [Op.operands])]
  | assign x => simp only [pop, E x (by simp [Op.operands])]
  | pick c a b => simp only [pop, E c (by simp [Op.operands]), E a (by simp [Op.operands]), E b (by simp [Op.operands])]
  | binOp o t x y u => simp only [pop, E x (by simp [Op.operands]), E y (by simp [Op.operands])]
  | unOp o t x => simp only [pop, E x (by simp [Op.operands])]
  | convert a b x => simp only [pop, E x (by simp [Op.operands])]
  | load t x => simp only [pop, E x (by simp [Op.operands])]
  | field t x f => simp only [pop, E x (by simp [Op.operands])]
  | fieldAddr t x f => simp only [pop, E x (by simp [Op.operands])]
  | index t x i => simp only [pop, E x (by simp [Op.operands]), E i (by simp [Op.operands])]
  | indexAddr t x i => simp only [pop, E x (by simp [Op.operands]), E i (by simp [Op.operands])]
  | slice t x lo hi mx =>
    simp only [pop, E x (by simp [Op.operands])]
    rw [evO_mem (s := s) (s' := s') (x := lo) fun y hy => E y (by subst hy; simp [Op.operands]), evO_mem (s := s) (s' := s') (x := hi) fun y hy => E y (by subst hy; simp [Op.operands]), evO_mem (s := s) (s' := s') (x := mx) fun y hy => E y (by subst hy; simp [Op.operands])]
  | extract x i => simp only [pop, E x (by simp [Op.operands])]
  | nilCheck x => simp only [pop, E x (by simp [Op.operands])]
  | build t ps =>
    simp only [pop]
    rw [evP_mem (s := s) (s' := s') fun p hp => E p.2 (by simp only [Op.operands, List.toList_toArray, List.mem_map]; exact ⟨p, hp, rfl⟩)]
  | makeFunc fn first cap =>
    simp only [pop]
    rw [evs_mem (s := s) (s' := s') (xs := cap.toList) fun x hx => E x (by simp only [Op.operands, Array.toList_append, List.mem_append]; exact .inr hx)]
  | makeInterface t x => simp only [pop, E x (by simp [Op.operands])]
  | lookup t x i ok => simp only [pop, E x (by simp [Op.operands]), E i (by simp [Op.operands])]
  | call c =>
    obtain ⟨callee, args, ts⟩ := c
    simp only [pop]
    cases callee with
    | builtin b =>
      simp only
      rw [evs_mem (s := s) (s' := s') (xs := args.toList) fun x hx => E x (by simp only [Op.operands, Call.operands, Array.toList_append, List.mem_append]; exact .inr hx)]
    | _ => rfl
  | _ => rfl

theorem eop_congr {P : Program} {w₀ : World} {h : AHeap} {s s' : Slots} (op : Op) {K : AVal → AHeap → Prop} (E : ∀ x ∈ op.operands.toList, ev s' x = ev s x) : eop P w₀ h s' op K = eop P w₀ h s op K := by
  have hp := pop_congr (P := P) (w₀ := w₀) (h := h) (s := s) (s' := s') op E
  cases op with
  | box e x => simp only [eop, E x (by simp [Op.operands])]
  | buildSlice t n ps =>
    simp only [eop]
    rw [evP_mem (s := s) (s' := s') fun p hp => E p.2 (by simp only [Op.operands, List.toList_toArray, List.mem_map]; exact ⟨p, hp, rfl⟩)]
  | store t x v => simp only [eop, E x (by simp [Op.operands]), E v (by simp [Op.operands])]
  | makeSlice t n c => simp only [eop, E n (by simp [Op.operands]), E c (by simp [Op.operands])]
  | mapUpdate t m i v => simp only [eop, E m (by simp [Op.operands]), E i (by simp [Op.operands]), E v (by simp [Op.operands])]
  | insert t m i v => simp only [eop, E m (by simp [Op.operands]), E i (by simp [Op.operands]), E v (by simp [Op.operands])]
  | range t x => simp only [eop, E x (by simp [Op.operands])]
  | next it b => simp only [eop, E it (by simp [Op.operands])]
  | entry it => simp only [eop, E it (by simp [Op.operands])]
  | convert a b x => simp only [eop, E x (by simp [Op.operands]), hp]
  | call c =>
    obtain ⟨callee, args, ts⟩ := c
    have hx : evs s' args.toList = evs s args.toList := evs_mem fun x hx => E x (by simp only [Op.operands, Call.operands, Array.toList_append, List.mem_append]; exact .inr hx)
    cases callee with
    | value f =>
      simp only [eop, hx]
      rw [E f (by simp [Op.operands, Call.operands])]
    | builtin b => cases b <;> simp only [eop, hx] <;> rw [hp]
    | invoke r m => simp only [eop, hp]
  | alloc e => rfl
  | _ => simp only [eop, hp]

/-! ### Names that a value bears -/
mutual
/-- Each own block that the value names has a place. -/
def AVal.okIn (f : Nat → Bool) : AVal → Prop
  | .ptr (.own k) _ => f k = true
  | .slice (.own k) _ len c => match c with
    | .exact c => (c ≠ 0 ∨ len ≠ 0 → f k = true)
    | .grow _ => f k = true
  | .func _ cs => okInL f cs
  | .map k => f k = true
  | .iface _ x => x.okIn f
  | .agg cs => okInL f cs
  | .tuple cs => okInL f cs
  | _ => True
def okInL (f : Nat → Bool) : List AVal → Prop
  | [] => True
  | x :: xs => x.okIn f ∧ okInL f xs
end

mutual
theorem okIn_of_VR {φ : PMap} : ∀ (x : AVal) (v : Value), VR φ x v → x.okIn (fun k => (φ k).isSome)
  | .dead, _, _ => by simp only [AVal.okIn]
  | .bool _, _, _ => by simp only [AVal.okIn]
  | .int _ _, _, _ => by simp only [AVal.okIn]
  | .str _, _, _ => by simp only [AVal.okIn]
  | .nilPtr, _, _ => by simp only [AVal.okIn]
  | .nilSlice, _, _ => by simp only [AVal.okIn]
  | .nilFunc, _, _ => by simp only [AVal.okIn]
  | .nilIface, _, _ => by simp only [AVal.okIn]
  | .nilMap, _, _ => by simp only [AVal.okIn]
  | .mapO _, _, _ => by simp only [AVal.okIn]
  | .mapE _ _ _, _, _ => by simp only [AVal.okIn]
  | .iterO _ _ _ _, _, _ => by simp only [AVal.okIn]
  | .map k, v, h => by
    simp only [VR] at h
    obtain ⟨p, hp, _⟩ := h
    simp only [AVal.okIn, hp, Option.isSome_some]
  | .ptr (.base b) _, _, _ => by simp only [AVal.okIn]
  | .ptr (.own k) o, v, h => by
    simp only [VR, locAddr, Option.map_eq_some_iff] at h
    obtain ⟨a, ⟨p, hp, _⟩, _⟩ := h
    simp only [AVal.okIn, hp, Option.isSome_some]
  | .slice (.base b) _ _ _, _, _ => by simp only [AVal.okIn]
  | .slice (.own k) o len (.exact c), v, h => by
    simp only [VR, locAddr, Option.map_eq_some_iff] at h
    obtain ⟨a, _, h2⟩ := h
    simp only [AVal.okIn]
    intro hc
    obtain ⟨p, hp, _⟩ := h2 hc
    simp only [hp, Option.isSome_some]
  | .slice (.own k) o len (.grow es), v, h => by
    simp only [VR] at h
    obtain ⟨k', p, c, a, e, hp, _⟩ := h
    cases e
    simp only [AVal.okIn, hp, Option.isSome_some]
  | .func f cs, v, h => by
    simp only [VR] at h
    obtain ⟨vs, _, h2⟩ := h
    simp only [AVal.okIn]
    exact okInL_of_VRs cs vs h2
  | .iface t x, v, h => by
    simp only [VR] at h
    obtain ⟨y, _, h2⟩ := h
    simp only [AVal.okIn]
    exact okIn_of_VR x y h2
  | .agg cs, v, h => by
    simp only [VR] at h
    obtain ⟨vs, _, h2⟩ := h
    simp only [AVal.okIn]
    exact okInL_of_VRs cs vs h2
  | .tuple cs, v, h => by
    simp only [VR] at h
    obtain ⟨vs, _, h2⟩ := h
    simp only [AVal.okIn]
    exact okInL_of_VRs cs vs h2
theorem okInL_of_VRs {φ : PMap} : ∀ (xs : List AVal) (vs : List Value), VRs φ xs vs → okInL (fun k => (φ k).isSome) xs
  | [], _, _ => by simp only [okInL]
  | x :: xs, vs, h => by
    simp only [VRs] at h
    obtain ⟨v, vs', _, h1, h2⟩ := h
    simp only [okInL]
    exact ⟨okIn_of_VR x v h1, okInL_of_VRs xs vs' h2⟩
end

mutual
theorem VR_limit {φ ψ : PMap} {f : Nat → Bool} (hf : ∀ k, f k = true → φ k = ψ k) : ∀ (x : AVal) (v : Value), x.okIn f → VR φ x v → VR ψ x v
  | .dead, _, _, h => h
  | .bool _, _, _, h => h
  | .int _ _, _, _, h => h
  | .str _, _, _, h => h
  | .nilPtr, _, _, h => h
  | .nilSlice, _, _, h => h
  | .nilFunc, _, _, h => h
  | .nilIface, _, _, h => h
  | .nilMap, _, _, h => h
  | .mapO _, _, _, h => h
  | .mapE _ _ _, _, _, h => h
  | .iterO _ _ _ _, _, _, h => h
  | .map k, v, ok, h => by
    simp only [AVal.okIn] at ok
    simp only [VR, ← hf k ok] at h ⊢
    exact h
  | .ptr (.base b) _, _, _, h => h
  | .ptr (.own k) o, v, ok, h => by
    simp only [AVal.okIn] at ok
    simp only [VR, locAddr, ← hf k ok] at h ⊢
    exact h
  | .slice (.base b) _ _ (.exact c), _, _, h => h
  | .slice (.base b) _ _ (.grow c), v, _, h => by
    simp only [VR] at h
    obtain ⟨k, p, c, a, e, _⟩ := h
    cases e
  | .slice (.own k) o len (.exact c), v, ok, h => by
    simp only [AVal.okIn] at ok
    simp only [VR, locAddr] at h ⊢
    obtain ⟨a, h1, h2⟩ := h
    exact ⟨a, h1, fun hc => by rw [← hf k (ok hc)]; exact h2 hc⟩
  | .slice (.own k) o len (.grow es), v, ok, h => by
    simp only [AVal.okIn] at ok
    simp only [VR] at h ⊢
    obtain ⟨k', p, c, a, e, hp, rest⟩ := h
    cases e
    exact ⟨k, p, c, a, rfl, by rw [← hf k ok]; exact hp, rest⟩
  | .func f cs, v, ok, h => by
    simp only [AVal.okIn] at ok
    simp only [VR] at h ⊢
    obtain ⟨vs, h1, h2⟩ := h
    exact ⟨vs, h1, VRs_limit hf cs vs ok h2⟩
  | .iface t x, v, ok, h => by
    simp only [AVal.okIn] at ok
    simp only [VR] at h ⊢
    obtain ⟨y, h1, h2⟩ := h
    exact ⟨y, h1, VR_limit hf x y ok h2⟩
  | .agg cs, v, ok, h => by
    simp only [AVal.okIn] at ok
    simp only [VR] at h ⊢
    obtain ⟨vs, h1, h2⟩ := h
    exact ⟨vs, h1, VRs_limit hf cs vs ok h2⟩
  | .tuple cs, v, ok, h => by
    simp only [AVal.okIn] at ok
    simp only [VR] at h ⊢
    obtain ⟨vs, h1, h2⟩ := h
    exact ⟨vs, h1, VRs_limit hf cs vs ok h2⟩
theorem VRs_limit {φ ψ : PMap} {f : Nat → Bool} (hf : ∀ k, f k = true → φ k = ψ k) : ∀ (xs : List AVal) (vs : List Value), okInL f xs → VRs φ xs vs → VRs ψ xs vs
  | [], _, _, h => h
  | x :: xs, vs, ok, h => by
    simp only [okInL] at ok
    simp only [VRs] at h ⊢
    obtain ⟨v, vs', h0, h1, h2⟩ := h
    exact ⟨v, vs', h0, VR_limit hf x v ok.1 h1, VRs_limit hf xs vs' ok.2 h2⟩
end



theorem ERel.limit {φ ψ ψ' : PMap} (hk : ∀ k, (φ k).isSome = true → ψ k = ψ' k) : ∀ {cs : List AVal} {l l' : List MapEntry}, ERel φ cs l → ERel ψ cs l' → ERel ψ' cs l'
  | [], _, _, _, h => h
  | c :: cs, l, l', h, h' => by
    simp only [ERel] at h h' ⊢
    obtain ⟨e, r, rfl, h1, h2⟩ := h
    obtain ⟨e', r', rfl, h1', h2'⟩ := h'
    refine ⟨e', r', rfl, ?_, ERel.limit hk h2 h2'⟩
    cases c <;> first | exact h1.elim | exact ⟨h1'.1, VR_limit (f := fun k => (φ k).isSome) hk _ _ (okIn_of_VR _ _ h1.2.1) h1'.2.1, VR_limit (f := fun k => (φ k).isSome) hk _ _ (okIn_of_VR _ _ h1.2.2) h1'.2.2⟩
theorem ORel.limit {φ ψ ψ' : PMap} (hk : ∀ k, (φ k).isSome = true → ψ k = ψ' k) {cs : List AVal} {o o' : Obj} (h : ORel φ cs o) (h' : ORel ψ cs o') : ORel ψ' cs o' := by
  unfold ORel at h' ⊢
  split at h'
  · rename_i c es entries clock
    refine ⟨h'.1, ?_⟩
    cases o with
    | map en cl => exact ERel.limit hk (show cl = c ∧ ERel φ es en.toList from h).2 h'.2
    | _ => exact (show False from h).elim
  · rename_i m since seen last r s1 s2 s3
    obtain ⟨⟨p, g1, g2⟩, g3⟩ := h'
    refine ⟨⟨p, ?_, g2⟩, g3⟩
    cases o with
    | mapIter mm b1 b2 b3 =>
      cases mm with
      | none => exact (show False from h).elim
      | some mm =>
        obtain ⟨⟨q, q1, _⟩, _⟩ := (show (∃ p, φ m = some p ∧ mm = p.blk) ∧ b1 = since ∧ b2.toList = seen ∧ b3 = last from h)
        rw [← hk m (by rw [q1]; rfl)]
        exact g1
    | _ => exact (show False from h).elim
  · exact h'.elim

/-- Names that nothing bears may be taken back. -/
theorem HRel.limit {w₀ w w' : World} {φ ψ ψ' : PMap} {g : AHeap} (hr : HRel w₀ φ g w) (hr' : HRel w₀ ψ g w') (hl : ψ'.le ψ) (hk : ∀ k, (φ k).isSome = true → ψ k = ψ' k) : HRel w₀ ψ' g w' := by
  refine ⟨hr'.below, fun k b hb => ?_, fun k k' b b' p p' hb hb' hp hp' => hr'.inj k k' b b' p p' hb hb' (hl _ _ hp) (hl _ _ hp'), fun k p hp => hr'.lt k p (hl _ _ hp), ?_, fun k p hp => hr'.typ k p (hl _ _ hp)⟩
  · obtain ⟨p, hp, h1, h2⟩ := hr'.own k b hb
    obtain ⟨q, hq, _, c2⟩ := hr.own k b hb
    refine ⟨p, by rw [← hk k (by simp [hq])]; exact hp, h1, ?_⟩
    rcases h2 with h2 | h2
    · obtain ⟨cs, e, lo, hi, r1, r2, r3, r4, r5, r6⟩ := h2.row
      obtain ⟨cs', e', lo', hi', s1, s2, s3, s4, s5, s6⟩ := c2.row r4
      exact .inl ⟨cs, e, lo, hi, r1, r2, r3, r4, VRs_limit (f := fun k => (φ k).isSome) (fun k hf => hk k hf) _ _ (okInL_of_VRs _ _ s5) r5, r6⟩
    · obtain ⟨o, r1, r2⟩ := h2.obj
      obtain ⟨o', s1, s2⟩ := (c2.obj h2.frz).obj
      exact .inr ⟨h2.frz, h2.at_, o, r1, ORel.limit hk s2 r2⟩
  · obtain ⟨N, hN⟩ := hr'.fin
    refine ⟨N, fun k hk' => ?_⟩
    cases e : ψ' k with
    | none => rfl
    | some p => have := hl k p e; rw [hN k hk'] at this; cases this

/-- 0: lays a block; 1: calls; 2: reads; 3: none of these. -/
def kindF (P : Program) : Op → Nat
  | .alloc _ => 0
  | .box _ _ => 0
  | .buildSlice _ _ _ => 0
  | .makeSlice _ _ _ => 0
  | .store _ _ _ => 3
  | .makeMap _ _ => 3
  | .mapUpdate _ _ _ _ => 3
  | .insert _ _ _ _ => 3
  | .range _ _ => 3
  | .next _ _ => 3
  | .entry _ => 3
  | .convert src dst _ => if eStrBytes P src dst = true then 0 else if eSame P src dst = true then 3 else 2
  | .call c => match c.callee with
    | .value _ => 1
    | .builtin .append => 3
    | .builtin .copy => 3
    | .builtin .delete => 3
    | .builtin _ => 2
    | .invoke _ _ => 3
  | _ => 2

theorem kindF_pure {P : Program} {op : Op} (h : kindF P op = 2) : pureOp P op = true := by
  cases op <;> simp only [kindF, pureOp] at h ⊢ <;> first | rfl | (cases h; done) | skip
  case convert a b x =>
    split at h
    · cases h
    · split at h
      · cases h
      · rename_i h1 h2
        simp [h1, h2]
  case call c =>
    obtain ⟨callee, args, ts⟩ := c
    cases callee with
    | value f => simp at h
    | invoke r m => simp at h
    | builtin b => cases b <;> simp at h ⊢

section
variable {P : Program} {w₀ : World} {n : FrameK} {h₀ : AHeap}

/-! ### The heads of statements of open order -/
def stepF (P : Program) (w₀ : World) (h₀ h : AHeap) (S : Slots) (op : Op) (V : AVal) : Prop :=
  if kindF P op = 2 then (pop P w₀ h S op).pre ∧ V = (pop P w₀ h S op).val
  else kindF P op = 1 ∧ V.okIn (fun k => (h₀ k).isSome) ∧ ∀ g, (∀ k b, h₀ k = some b → g k = some b) → eop P w₀ g S op (fun x h' => x = V ∧ h' = g)

def fOps (P : Program) (w₀ : World) (ops : List Oper) (h₀ : AHeap) : List Oper → Slots → AHeap → (Slots → AHeap → Prop) → Prop
  | [], s, h, K => K s h
  | o :: rest, s, h, K =>
    if kindF P o.op = 0 then o.guard = none ∧ eop P w₀ h (s.keep (looksL ops o)) o.op (fun x h' => fOps P w₀ ops h₀ rest (putD s o.dst x) h' K)
    else match o.guard with
      | none => ∃ V, stepF P w₀ h₀ h (s.keep (looksL ops o)) o.op V ∧ fOps P w₀ ops h₀ rest (putD s o.dst V) h K
      | some (j, want) => match nthDst ops j with
        | none => fOps P w₀ ops h₀ rest (putD s o.dst (.tuple [])) h K
        | some d => gKnown (s.get d) = true ∧ ∃ V, (guardB (s.get d) want = true → stepF P w₀ h₀ h (s.keep (looksL ops o)) o.op V) ∧ fOps P w₀ ops h₀ rest (putD s o.dst (condV (guardB (s.get d) want) V)) h K

/-- The heap when some of the blocks are laid; the block that operation i lays bears the name N + i. -/
def gOf (h₀ : AHeap) (N : Nat) (bl : List (Option Blk)) (listed : Nat → Bool) : AHeap := fun k => if N ≤ k then (bif listed (k - N) then bl.getD (k - N) none else none) else h₀ k

def HH (w₀ : World) (h₀ : AHeap) (N : Nat) (bl : List (Option Blk)) (listed : Array Bool) (ψ : PMap) (w : World) : Prop :=
  HRel w₀ ψ (gOf h₀ N bl fun i => listed.getD i false) w ∧ ∀ i, i < bl.length → listed.getD i false = false → ψ (N + i) = none

/-- What operation i of the head does, whatever is listed. -/
def HeadStep (P : Program) (w₀ : World) (n : FrameK) (h₀ : AHeap) (l : List Oper) (N : Nat) (bl : List (Option Blk)) (S : Slots) (i : Nat) (o : Oper) (V : AVal) : Prop :=
  ∀ (listed : Array Bool) (ψ : PMap) (w : World) (a : Act) (next : Act → World → Prop) (Q : Exit → Act → World → Prop), listed.getD i false = false → i < listed.size → HH w₀ h₀ N bl listed ψ w → SRel ψ n (S.keep (looksL l o)) a →
    (∀ ψ' v w', ψ.le ψ' → HH w₀ h₀ N bl (listed.setIfInBounds i true) ψ' w' → VR ψ' V v → next (a.put o.dst v) w') →
    if Region.wanted o (yielded l.toArray a.tmps) = true then o.wp P a w next Q else next (a.put o.dst undef) w

theorem cells_up {ψ : PMap} {H g : AHeap} (hg : ∀ k b, H k = some b → (ψ k).isSome = true → g k = some b) {l : Loc} (hl : ∀ k, l = .own k → (ψ k).isSome = true ∨ False) : ∀ (n o : Nat), allLive (cellsAt w₀ H l o n) = true → cellsAt w₀ g l o n = cellsAt w₀ H l o n
  | 0, _, _ => rfl
  | n + 1, o, ha => by
    simp only [cellsAt, allLive, Bool.and_eq_true] at ha ⊢
    rw [cells_up hg hl n (o + 1) ha.2]
    congr 1
    cases l with
    | base b => rfl
    | own k =>
      have hs := (hl k rfl).resolve_right id
      have h1 := ha.1
      simp only [rd] at h1 ⊢
      cases hH : H k with
      | none => simp [hH, AVal.live] at h1
      | some b => simp [hg k b hH hs]

theorem rd_up {ψ : PMap} {H g : AHeap} (hg : ∀ k b, H k = some b → (ψ k).isSome = true → g k = some b) {l : Loc} (hl : ∀ k, l = .own k → (ψ k).isSome = true) (o : Nat) (ha : (rd w₀ H l o).live = true) : rd w₀ g l o = rd w₀ H l o := by
  have := cells_up (w₀ := w₀) hg (l := l) (fun k e => .inl (hl k e)) 1 o (by simp [cellsAt, allLive, ha])
  simpa [cellsAt] using this

theorem ptr_some {ψ : PMap} {l : Loc} {o : Nat} {v : Value} (h : VR ψ (.ptr l o) v) : ∀ k, l = .own k → (ψ k).isSome = true := by
  rintro k rfl
  have := okIn_of_VR _ _ h
  simpa only [AVal.okIn] using this

theorem pBuiltin_other {P : Program} {g H : AHeap} {b : Builtin} (hb : b ≠ .len) (ts : Array TypeId) (xs : List AVal) : pBuiltin P g b ts xs = pBuiltin P H b ts xs := by
  unfold pBuiltin
  generalize ts[0]? = q
  cases b <;> first | exact absurd rfl hb | (rcases xs with _ | ⟨x, _ | ⟨y, xs⟩⟩ <;> cases q <;> rfl)
theorem pBuiltin_len {P : Program} {g H : AHeap} (ts : Array TypeId) (xs : List AVal) (h : ∀ t x, ts[0]? = some t → xs = [x] → pLenH P g t x = pLenH P H t x) : pBuiltin P g .len ts xs = pBuiltin P H .len ts xs := by
  unfold pBuiltin
  generalize hq : ts[0]? = q at h
  rcases xs with _ | ⟨x, _ | ⟨y, xs⟩⟩ <;> cases q <;> first | rfl | exact h _ _ rfl rfl
/-- What is read here is read alike where more lies. -/
theorem pop_up {ψ : PMap} {H g : AHeap} {S : Slots} {a : Act} {op : Op} (hk : kindF P op = 2) (hg : ∀ k b, H k = some b → (ψ k).isSome = true → g k = some b) (hs : SRel ψ n S a) (hp : (pop P w₀ H S op).pre) : pop P w₀ g S op = pop P w₀ H S op := by
  cases op <;> first
    | rfl
    | skip
  case load t x =>
    simp only [pop] at hp ⊢
    have hx := hs.ev x
    cases hv : ev S x with
    | ptr l o =>
      rw [hv] at hx hp
      have hl := ptr_some hx
      simp only [pLoad] at hp ⊢
      split at hp
      · rename_i h1 h2
        rw [cells_up hg (fun k e => .inl (hl k e)) _ _ hp]
      · rename_i h1
        rw [rd_up hg hl _ hp]
      · exact hp.elim
    | _ => rfl
  case convert src dst x =>
    simp only [pop] at hp ⊢
    have hx := hs.ev x
    cases hv : ev S x with
    | slice l o len c =>
      rw [hv] at hx hp
      simp only [pConv] at hp ⊢
      split at hp <;> first | exact hp.elim | skip
      rename_i e h1 h2
      split at hp <;> first | exact hp.elim | skip
      rename_i h3
      by_cases hz : len = 0
      · subst hz; rfl
      · have hl : ∀ k, l = .own k → (ψ k).isSome = true ∨ False := by
          rintro k rfl
          have := okIn_of_VR _ _ hx
          simp only [AVal.okIn] at this
          cases c with
          | exact c => exact .inl (this (.inr hz))
          | grow es => exact .inl this
        rw [cells_up hg hl _ _ (allLive_of_u8 hp)]
    | _ => rfl
  case lookup t x i ok =>
    simp only [pop] at hp ⊢
    have hx := hs.ev x
    cases hv : ev S x with
    | map k =>
      rw [hv] at hx hp
      have hk2 : (ψ k).isSome = true := okIn_of_VR _ _ hx
      simp only [pLookup] at hp ⊢
      split at hp <;> first | exact hp.elim | skip
      split at hp <;> first | exact hp.elim | skip
      split at hp <;> first | exact hp.elim | skip
      rename_i c es hm
      rw [mapCells_of (hg k _ (mapCells_some hm) hk2)]
    | _ => rfl
  case call c =>
    obtain ⟨callee, args, ts⟩ := c
    cases callee with
    | builtin b =>
      have hvs := hs.evs args.toList
      have hp' : (pBuiltin P H b ts (evs S args.toList)).pre := hp
      show pBuiltin P g b ts (evs S args.toList) = pBuiltin P H b ts (evs S args.toList)
      by_cases hb : b = .len
      · subst hb
        refine pBuiltin_len _ _ fun t x hq hxs => ?_
        rw [hxs] at hvs hp'
        simp only [pBuiltin, hq] at hp'
        simp only [pLenH] at hp' ⊢
        cases hmt : isMapTy P t with
        | false => rfl
        | true =>
          rw [hmt, cond_true] at hp'
          simp only [cond_true]
          simp only [VRs] at hvs
          obtain ⟨u, _, _, hx, _⟩ := hvs
          cases x with
          | map k =>
            have hk2 : (ψ k).isSome = true := okIn_of_VR _ _ hx
            unfold pLenM at hp' ⊢
            split at hp' <;> first | exact hp'.elim | rfl | skip
            rename_i k' _ e
            cases e
            split at hp' <;> first | exact hp'.elim | skip
            rename_i c es hm
            rw [mapCells_of (hg k _ (mapCells_some hm) hk2)]
          | _ =>
            unfold pLenM
            cases P.underlying t with
            | none => rfl
            | some d => cases d <;> rfl
      · exact pBuiltin_other hb _ _
    | _ => rfl

theorem gOf_none {h₀ : AHeap} {N : Nat} {bl : List (Option Blk)} {i : Nat} (hb : bl.getD i none = none) {listed : Array Bool} :
    (gOf h₀ N bl fun j => (listed.setIfInBounds i true).getD j false) = gOf h₀ N bl fun j => listed.getD j false := by
  funext k
  simp only [gOf]
  by_cases hN : N ≤ k
  · rw [if_pos hN, if_pos hN]
    by_cases e : k - N = i
    · rw [e, hb]; simp
    · rw [set_other e]
  · rw [if_neg hN, if_neg hN]

theorem HH.quiet {N : Nat} {bl : List (Option Blk)} {i : Nat} (hb : bl.getD i none = none) {listed : Array Bool} {ψ : PMap} {w : World} (h : HH w₀ h₀ N bl listed ψ w) : HH w₀ h₀ N bl (listed.setIfInBounds i true) ψ w := by
  refine ⟨by rw [gOf_none hb]; exact h.1, fun j hj hl => h.2 j hj ?_⟩
  by_cases e : j = i
  · subst e
    cases hc : listed.getD j false with
    | false => rfl
    | true =>
      have hsz : j < listed.size := by
        refine Nat.lt_of_not_le fun hge => ?_
        simp [Array.getD, Nat.not_lt.2 hge] at hc
      rw [set_self hsz] at hl
      cases hl
  · rwa [set_other e] at hl

/-- The facts of one step of the head. -/
theorem HeadStep.of_step {l : List Oper} (hall : dstsOk n l = true) {N : Nat} (hN : ∀ j, N ≤ j → h₀ j = none) {bl : List (Option Blk)} {H : AHeap} {i : Nat} (hH : ∀ k b, H k = some b → k < N ∧ h₀ k = some b ∨ N ≤ k ∧ k - N < bl.length ∧ bl.getD (k - N) none = some b) (hb : bl.getD i none = none) {S : Slots} {o : Oper} {V : AVal}
    (hstep : stepF P w₀ h₀ H (S.keep (looksL l o)) o.op V) {ψ : PMap} {w : World} {a : Act} {listed : Array Bool} {next : Act → World → Prop} {Q : Exit → Act → World → Prop} (hh : HH w₀ h₀ N bl listed ψ w) (hs : SRel ψ n (S.keep (looksL l o)) a)
    (hn : ∀ ψ' v w', ψ.le ψ' → HH w₀ h₀ N bl (listed.setIfInBounds i true) ψ' w' → VR ψ' V v → next (a.put o.dst v) w') : o.wp P a w next Q := by
  unfold stepF at hstep
  split at hstep
  · rename_i hk
    obtain ⟨h1, h2⟩ := hstep
    have hup : ∀ k b, H k = some b → (ψ k).isSome = true → (gOf h₀ N bl fun j => listed.getD j false) k = some b := by
      intro k b hb' hs'
      simp only [gOf]
      rcases hH k b hb' with ⟨c1, c2⟩ | ⟨c1, c2, c3⟩
      · rw [if_neg (by omega)]; exact c2
      · rw [if_pos c1]
        cases hl : listed.getD (k - N) false with
        | true => simpa using c3
        | false =>
          have := hh.2 (k - N) c2 hl
          rw [show N + (k - N) = k by omega] at this
          rw [this] at hs'
          cases hs'
    have e := pop_up (P := P) (w₀ := w₀) (n := n) hk hup hs h1
    obtain ⟨r, e1, e2⟩ := pop_ok o (by rw [e]; exact h1) hh.1 hs
    rw [e, ← h2] at e2
    exact wp_value (e1 w (Same.refl w)) (hn ψ r w ψ.le_refl (hh.quiet hb) e2)
  · obtain ⟨_, hok, he⟩ := hstep
    have hsub : ∀ k b, h₀ k = some b → (gOf h₀ N bl fun j => listed.getD j false) k = some b := by
      intro k b hb'
      have hlt : k < N := by
        refine Nat.lt_of_not_le fun hge => ?_
        rw [hN k hge] at hb'; cases hb'
      simp only [gOf]
      rw [if_neg (by omega)]; exact hb'
    refine eop_ok o (he _ hsub) hh.1 hs fun ψ' x h' v w' h1 h2 h3 ⟨e1, e2⟩ => ?_
    subst e1 e2
    -- the names in store are taken back
    have hle : ψ.le fun k => if N ≤ k ∧ k - N < bl.length ∧ listed.getD (k - N) false = false then none else ψ' k := by
      intro k p hp
      simp only
      rw [if_neg]
      · exact h1 k p hp
      · rintro ⟨c1, c2, c3⟩
        have := hh.2 (k - N) c2 c3
        rw [show N + (k - N) = k by omega, hp] at this
        cases this
    have hlt : (PMap.le (fun k => if N ≤ k ∧ k - N < bl.length ∧ listed.getD (k - N) false = false then none else ψ' k) ψ') := by
      intro k p hp
      simp only at hp
      split at hp
      · cases hp
      · exact hp
    have hsame : ∀ k, (ψ k).isSome = true → ψ' k = (fun k => if N ≤ k ∧ k - N < bl.length ∧ listed.getD (k - N) false = false then none else ψ' k) k := by
      intro k hk
      obtain ⟨p, hp⟩ := Option.isSome_iff_exists.1 hk
      rw [hle k p hp, h1 k p hp]
    refine hn _ v w' hle (HH.quiet hb ⟨hh.1.limit h2 hlt hsame, fun j hj hl => ?_⟩) (VR_limit (f := fun k => (h₀ k).isSome) (fun k hk => ?_) _ _ hok h3)
    · simp only
      rw [if_pos ⟨by omega, by rw [show N + j - N = j by omega]; exact hj, by rw [show N + j - N = j by omega]; exact hl⟩]
    · have hlt : k < N := by
        refine Nat.lt_of_not_le fun hge => ?_
        simp [hN k hge] at hk
      rw [if_neg (by omega)]

theorem HeadStep.one {l : List Oper} (hall : dstsOk n l = true) {N : Nat} (hN : ∀ j, N ≤ j → h₀ j = none) {bl : List (Option Blk)} {H : AHeap} {i : Nat} (hH : ∀ k b, H k = some b → k < N ∧ h₀ k = some b ∨ N ≤ k ∧ k - N < bl.length ∧ bl.getD (k - N) none = some b) (hb : bl.getD i none = none) {S : Slots} {o : Oper} {V : AVal} (hg : o.guard = none)
    (hstep : stepF P w₀ h₀ H (S.keep (looksL l o)) o.op V) : HeadStep P w₀ n h₀ l N bl S i o V := by
  intro listed ψ w a next Q _ _ hh hs hn
  have hw : Region.wanted o (yielded l.toArray a.tmps) = true := by simp [Region.wanted, hg]
  rw [if_pos hw]
  exact HeadStep.of_step hall hN hH hb hstep hh hs hn

theorem HeadStep.guarded {l : List Oper} (hall : dstsOk n l = true) {N : Nat} (hN : ∀ j, N ≤ j → h₀ j = none) {bl : List (Option Blk)} {H : AHeap} {i : Nat} (hH : ∀ k b, H k = some b → k < N ∧ h₀ k = some b ∨ N ≤ k ∧ k - N < bl.length ∧ bl.getD (k - N) none = some b) (hb : bl.getD i none = none) {S : Slots} {o : Oper} {V : AVal} {j d : Nat} {want : Bool} (hg : o.guard = some (j, want)) (hj : nthDst l j = some d) (hk : gKnown (S.get d) = true)
    (hstep : guardB (S.get d) want = true → stepF P w₀ h₀ H (S.keep (looksL l o)) o.op V) : HeadStep P w₀ n h₀ l N bl S i o (condV (guardB (S.get d) want) V) := by
  intro listed ψ w a next Q _ _ hh hs hn
  have hd : (S.keep (looksL l o)).get d = S.get d := by
    rw [Slots.get_keep, if_pos]
    simp [looksL, hg, hj]
  have hw : Region.wanted o (yielded l.toArray a.tmps) = guardB (S.get d) want := by
    have := guard_ok hs l j d hj (nth_lt l j d hall hj) (by rw [hd]; exact hk) want
    rw [hd] at this
    simp only [Region.wanted, hg]
    exact this
  cases hb' : guardB (S.get d) want with
  | true =>
    rw [hw, hb', if_pos rfl]
    rw [hb'] at hn
    exact HeadStep.of_step hall hN hH hb (hstep hb') hh hs hn
  | false =>
    rw [hw, hb', if_neg (by decide)]
    rw [hb'] at hn
    exact hn ψ undef w ψ.le_refl (hh.quiet hb) (VR_undef ψ)

theorem HeadStep.never {l : List Oper} {N : Nat} {bl : List (Option Blk)} {i : Nat} (hb : bl.getD i none = none) {S : Slots} {o : Oper} {j : Nat} {want : Bool} (hg : o.guard = some (j, want)) (hj : nthDst l j = none) : HeadStep P w₀ n h₀ l N bl S i o (.tuple []) := by
  intro listed ψ w a next Q _ _ hh hs hn
  have hd : (l.toArray[j]?).bind (·.dst) = none := by rw [← hj, nthDst_eq]; simp
  have hw : Region.wanted o (yielded l.toArray a.tmps) = false := by
    simp only [Region.wanted, hg, yielded, hd]
    rfl
  rw [if_neg (by rw [hw]; decide)]
  exact hn ψ undef w ψ.le_refl (hh.quiet hb) (VR_undef ψ)

/-- A tail that leaves the blocks ks. -/
def kOps (P : Program) (w₀ : World) (ks : List Nat) : List Oper → Slots → AHeap → (Slots → AHeap → Prop) → Prop
  | [], s, h, K => K s h
  | o :: rest, s, h, K => o.guard = none ∧ eop P w₀ h s o.op fun x h' => (∀ k ∈ ks, h' k = h k) ∧ kOps P w₀ ks rest (putD s o.dst x) h' K
structure InvF (l : List Oper) (k : Nat) (Vs : List AVal) (s : Slots) (ψ : PMap) (n : FrameK) (listed : Array Bool) (a : Act) : Prop where
  size : listed.size = l.length
  closed : ∀ j oj, l[j]? = some oj → listed.getD j false = true → ∀ e ∈ oj.after, Region.binds .any e = true → listed.getD e.on false = true
  tsize : a.tmps.size = n
  defers : a.defers = n.dfr
  done : ∀ t j oj, j < k → l[j]? = some oj → oj.dst = some t → listed.getD j false = true → VR ψ (Vs.getD j .dead) (a.tmps.getD t undef)
  still : ∀ t, (∀ j oj, l[j]? = some oj → oj.dst = some t → listed.getD j false = false) → VR ψ (s.get t) (a.tmps.getD t undef)

theorem put_get_ne (a : Act) {d : Option Tmp} {v : Value} {t : Nat} (hne : d ≠ some t) : (a.put d v).tmps.getD t undef = a.tmps.getD t undef := put_tmps_ne a d v hne
theorem put_get_eq (a : Act) {d : Option Tmp} {v : Value} {t : Nat} (hd : d = some t) (ht : t < a.tmps.size) : (a.put d v).tmps.getD t undef = v := by rw [hd]; simp [Act.put, ht]
theorem put_size (a : Act) (d : Option Tmp) (v : Value) : (a.put d v).tmps.size = a.tmps.size := by cases d <;> simp [Act.put]
theorem put_defers (a : Act) (d : Option Tmp) (v : Value) : (a.put d v).defers = a.defers := by cases d <;> simp [Act.put]

/-- What operation i looks at lies in its slots. -/
theorem InvF.looks {l : List Oper} {k : Nat} (hB : orderB l = true) {Vs : List AVal} {s : Slots} {ψ : PMap} {listed : Array Bool} {a : Act} (inv : InvF l k Vs s ψ n listed a) {i : Nat} (hik : i < k) {o : Oper} (hol : l[i]? = some o) (hif : listed.getD i false = false)
    (hedges : ∀ e ∈ o.after, Region.binds .any e = true → listed.getD e.on false = true) : SRel ψ n ((slotsAt s l Vs i).keep (looksL l o)) a := by
  have hilt : i < l.length := (List.getElem?_eq_some_iff.1 hol).1
  have spec := orderB_spec hB hol
  refine ⟨inv.tsize, inv.defers, fun t => ?_⟩
  rw [Slots.get_keep]
  by_cases ht : (looksL l o).contains t = true
  · rw [if_pos ht]
    have ht' : t ∈ looksL l o := by simpa using ht
    by_cases hw : ∃ (j : Nat) (oj : Oper), l[j]? = some oj ∧ oj.dst = some t
    · obtain ⟨j, oj, hj, hd⟩ := hw
      rcases (spec.2 j oj t hj hd).2 ht' with ⟨c1, c2⟩ | ⟨c1, c2⟩
      · rw [slotsAt_writer hB s Vs hj hd i c1 (by omega)]
        refine inv.done t j oj (by omega) hj hd ?_
        obtain ⟨oi, g1, e, g2, g3, g4⟩ := Region.waitsFor_spec c2
        have g1' : l[i]? = some oi := by simpa using g1
        rw [hol] at g1'
        obtain rfl := Option.some.inj g1'
        rw [← g4]
        exact hedges e g2 g3
      · rw [slotsAt_none s Vs i fun j' oj' hj'' hj' hd' => by
          have := ((orderB_spec hB hj').2 j oj t hj hd).1 hd'
          omega]
        refine inv.still t fun j' oj' hj' hd' => ?_
        have e := ((orderB_spec hB hj').2 j oj t hj hd).1 hd'
        subst e
        cases hl : listed.getD j' false with
        | false => rfl
        | true =>
          exfalso
          obtain ⟨oi, g1, e, g2, g3, g4⟩ := Region.waitsFor_spec c2
          have g1' : l[j']? = some oi := by simpa using g1
          have := inv.closed j' oi g1' hl e g2 g3
          rw [g4, hif] at this
          cases this
    · rw [slotsAt_none s Vs i fun j oj _ hj hd => hw ⟨j, oj, hj, hd⟩]
      exact inv.still t fun j oj hj hd => absurd ⟨j, oj, hj, hd⟩ hw
  · rw [if_neg ht]
    trivial

/-- One operation more is listed. -/
theorem InvF.next {l : List Oper} {k : Nat} (hall : dstsOk n l = true) (hB : orderB l = true) {Vs : List AVal} {s : Slots} {ψ ψ' : PMap} (hle : ψ.le ψ') {listed : Array Bool} {a : Act} (inv : InvF l k Vs s ψ n listed a) {i : Nat} {o : Oper} (hol : l[i]? = some o)
    (hedges : ∀ e ∈ o.after, Region.binds .any e = true → listed.getD e.on false = true) {v : Value} (hv : i < k → VR ψ' (Vs.getD i .dead) v) : InvF l k Vs s ψ' n (listed.setIfInBounds i true) (a.put o.dst v) := by
  have hilt : i < l.length := (List.getElem?_eq_some_iff.1 hol).1
  have hisz : i < listed.size := by rw [inv.size]; exact hilt
  have spec := orderB_spec hB hol
  have hdn : ∀ d, o.dst = some d → d < n := fun d hd => nth_lt l i d hall (by rw [nthDst_eq, hol]; exact hd)
  refine ⟨by simp [inv.size], fun j oj hj hl e he hb => ?_, by rw [put_size]; exact inv.tsize, by rw [put_defers]; exact inv.defers, fun t j oj hjk hj hd hl => ?_, fun t hun => ?_⟩
  · by_cases e1 : e.on = i
    · rw [e1]; exact set_self hisz
    · rw [set_other e1]
      by_cases e2 : j = i
      · subst e2
        rw [hol] at hj
        obtain rfl := Option.some.inj hj
        exact hedges e he hb
      · rw [set_other e2] at hl
        exact inv.closed j oj hj hl e he hb
  · by_cases e : j = i
    · subst e
      rw [hol] at hj
      obtain rfl := Option.some.inj hj
      rw [put_get_eq a hd (by rw [inv.tsize]; exact hdn t hd)]
      exact hv hjk
    · rw [set_other e] at hl
      rw [put_get_ne a fun hod => e (((spec.2 j oj t hj hd).1 hod).symm)]
      exact VR_mono hle _ _ (inv.done t j oj hjk hj hd hl)
  · have hne : o.dst ≠ some t := fun hod => by
      have := hun i o hol hod
      rw [set_self hisz] at this
      cases this
    rw [put_get_ne a hne]
    refine VR_mono hle _ _ (inv.still t fun j oj hj hd => ?_)
    have e : j ≠ i := fun e => by subst e; rw [hol] at hj; obtain rfl := Option.some.inj hj; exact hne hd
    have := hun j oj hj hd
    rwa [set_other e] at this

end
end Go.AM

/-
  An assertion layer over the model's wp, part U: rewriting lemmas for the heads of statements of open order.
  Conditions: none. Nothing here is about a particular program.
-/
namespace Go.AM
open Go.RowKit (Below)
section
variable {P : Program} {w₀ : World} {ops rest : List Oper} {s : Slots} {h h₀ : AHeap} {K : Slots → AHeap → Prop} {dst : Option Tmp} {ty : TypeId} {pos : String} {af : Array Edge}

theorem fOps_nil : fOps P w₀ ops h₀ [] s h K = K s h := rfl
theorem kOps_nil {ks : List Nat} : kOps P w₀ ks [] s h K = K s h := rfl
end
end Go.AM

/-
  An assertion layer over the model's wp, part V: heaps that are chains of blocks; slices whose elements are rows of cells.
  Conditions: none. Nothing here is about a particular program.
-/
namespace Go.AM
open Go.RowKit (Below)

theorem AHeap.set_none (h : AHeap) (k j : Nat) (b : Blk) : ((h.set k b) j = none) = (j ≠ k ∧ k ≠ j ∧ h j = none) := by
  refine propext ⟨fun e => ?_, fun ⟨e1, _, e2⟩ => by rw [AHeap.set_ne _ _ e1]; exact e2⟩
  have hne : j ≠ k := fun e' => by subst e'; rw [AHeap.set_same] at e; cases e
  exact ⟨hne, Ne.symm hne, by rwa [AHeap.set_ne _ _ hne] at e⟩
theorem rd_ne' (w₀ : World) (h : AHeap) {j k : Nat} (hj : j ≠ k) (b : Blk) (o : Nat) : rd w₀ (h.set k b) (.own j) o = rd w₀ h (.own j) o := rd_ne w₀ h b hj o
theorem Sub.set_both {h h' : AHeap} (hs : Sub h h') (k : Nat) (b : Blk) : Sub (h.set k b) (h'.set k b) := fun j c e => by
  by_cases ej : j = k
  · subst ej; rw [AHeap.set_same] at e ⊢; exact e
  · rw [AHeap.set_ne _ _ ej] at e ⊢; exact hs j c e
theorem lv_bool (b : Bool) : (AVal.bool b).live = true := rfl
theorem lv_int (k : IntKind) (n : Int) : (AVal.int k n).live = true := rfl
theorem lv_str (s : List UInt8) : (AVal.str s).live = true := rfl
theorem lv_nilPtr : AVal.nilPtr.live = true := rfl
theorem lv_ptr (l : Loc) (o : Nat) : (AVal.ptr l o).live = true := rfl
theorem lv_nilSlice : AVal.nilSlice.live = true := rfl
theorem lv_slice (l : Loc) (o n : Nat) (c : Cap) : (AVal.slice l o n c).live = true := rfl
theorem lv_nilFunc : AVal.nilFunc.live = true := rfl
theorem lv_func (f : FuncId) (c : List AVal) : (AVal.func f c).live = true := rfl
theorem lv_nilIface : AVal.nilIface.live = true := rfl
theorem lv_iface (t : TypeId) (v : AVal) : (AVal.iface t v).live = true := rfl
theorem lv_nilMap : AVal.nilMap.live = true := rfl
theorem lv_map (k : Nat) : (AVal.map k).live = true := rfl
theorem lv_agg (cs : List AVal) : (AVal.agg cs).live = true := rfl
theorem lv_tuple (cs : List AVal) : (AVal.tuple cs).live = true := rfl
theorem IsB.live {w₀ : World} {h : AHeap} {v : AVal} {bs : List UInt8} (hb : IsB w₀ h v bs) : v.live = true := by cases hb <;> rfl
theorem IsB.scal {w₀ : World} {h : AHeap} {v : AVal} {bs : List UInt8} (hb : IsB w₀ h v bs) : v.scal = true := by cases hb <;> rfl

section
variable {P : Program} {w₀ : World} {s : Slots} {h : AHeap}
end

section
variable {P : Program}
end
end Go.AM

/-
  An assertion layer over the model's wp, part W: names that promise a type; strings.Builder as a block of the call's own.
  Conditions: none. Nothing here is about a particular program.
-/
namespace Go.AM
open Go.RowKit (Below)

/-- A variable is laid under a name that promises its type. -/
theorem awp_aseqT {P : Program} {w₀ : World} {n : FrameK} {s : Slots} {h : AHeap} {Q : Exit → Slots → AHeap → Prop} {id : Nat} {d : Tmp} {e : TypeId} {z : Value} {cs : List AVal} {ty : TypeId} {pos : String} {af : Array Edge} {y : Code} (L : List Nat)
    (hd : d < n) (he : e < 4096) (hz : zeOf P e = some z) (hc : z.cells.toList.map absS = cs)
    (hk : ∀ k, h k = none → tyOf k = some e → Awp P w₀ n y Q ((s.put d (.ptr (.own k) 0)).keep L) (h.set k ⟨cs, 0⟩)) :
    Awp P w₀ n (.seq (.region id [⟨some d, .alloc e, ty, pos, af, none⟩].toArray false) y) Q s h :=
  awp_seq <| Awp.of0 fun φ a w hr hs => wp_region (by
    obtain ⟨k, hk0, hφ, hke, hkt⟩ := hr.freshE e
    obtain ⟨e1, e2⟩ := hr.alloc k hk0 hφ (z.cells.toList.map absS) z.cells e 0 0 (by rw [List.length_map, List.take_length]; exact VRs_absS φ z.cells.toList) no_frz hkt
    have hw : Region.wanted (⟨some d, .alloc e, ty, pos, af, none⟩ : Oper) (yielded #[⟨some d, .alloc e, ty, pos, af, none⟩] a.tmps) = true := by simp [Region.wanted]
    simp only [List.size_toArray, List.length_singleton, List.range_succ, List.range_zero, List.nil_append, wpOps, List.getElem?_toArray, List.getElem?_cons_zero]
    rw [if_pos hw]
    refine .inl (wp_value (v := .pointer (some ⟨w.heap.size, 0, none⟩)) (w' := w.alloc (.cells z.cells e)) ?_ ?_)
    · simp [execOp, Instr.alloc, run_zero' hz, newVar, newRow]
    · refine ⟨_, _, _, e1, e2, (hs.mono e1).put d hd (VR_new _ _ _), ?_⟩
      rw [hc]
      exact Awp.keep L (hk k hk0 (hke he)))

/-- A row turns that is then forgotten. -/
theorem HRel.dropRow {w₀ w w' : World} {φ : PMap} {h h' : AHeap} (hr : HRel w₀ φ h w) {k : Nat} {b : Blk} {p : Place} (hk : h k = some b) (hp : φ k = some p)
    (hsize : w'.heap.size = w.heap.size) (hos : w'.os = w.os) (htape : w'.tape = w.tape) (hout : w'.output = w.output)
    (hother : ∀ i, i ≠ p.blk → w'.heap[i]? = w.heap[i]?) (hty : ∀ cs e fr, w.heap[p.blk]? = some (.cells cs e fr) → ∃ cs' fr', w'.heap[p.blk]? = some (.cells cs' e fr'))
    (hs : ∀ j c, h' j = some c → h j = some c ∧ j ≠ k) : HRel w₀ φ h' w' := by
  obtain ⟨q, hq, hq1, hq2⟩ := hr.own k b hk
  have hpq : q = p := by rw [hp] at hq; exact (Option.some.inj hq).symm
  subst hpq
  refine ⟨⟨hos.trans hr.below.os, htape.trans hr.below.tape, hout.trans hr.below.output, by rw [hsize]; exact hr.below.size, fun i hi => ?_⟩, fun j c hj => ?_, fun j j' b1 b2 p1 p2 h1 h2 f1 f2 e => ?_, fun j r hj => by rw [hsize]; exact hr.lt j r hj, hr.fin, fun j r hj t ht => ?_⟩
  · rw [hother i (by omega)]
    exact hr.below.block i hi
  · obtain ⟨h1, h2⟩ := hs j c hj
    obtain ⟨r, hr0, hr1, hr2⟩ := hr.own j c h1
    exact ⟨r, hr0, hr1, hr2.world (hother _ fun e' => h2 (hr.inj j k c b r q h1 hk hr0 hp e'))⟩
  · exact hr.inj j j' b1 b2 p1 p2 (hs j b1 h1).1 (hs j' b2 h2).1 f1 f2 e
  · obtain ⟨h0, cs, fr, hcs⟩ := hr.typ j r hj t ht
    refine ⟨h0, ?_⟩
    by_cases e : r.blk = q.blk
    · rw [e] at hcs ⊢
      exact hty cs t fr hcs
    · exact ⟨cs, fr, by rw [hother _ e]; exact hcs⟩

theorem freeze_facts (w : World) (a : Addr) (n : Nat) : (w.freeze a n).heap.size = w.heap.size ∧ (w.freeze a n).os = w.os ∧ (w.freeze a n).tape = w.tape ∧ (w.freeze a n).output = w.output ∧
    (∀ i, i ≠ a.block → (w.freeze a n).heap[i]? = w.heap[i]?) ∧ (∀ cs e fr, w.heap[a.block]? = some (.cells cs e fr) → ∃ cs' fr', (w.freeze a n).heap[a.block]? = some (.cells cs' e fr')) := by
  unfold World.freeze
  split
  · exact ⟨rfl, rfl, rfl, rfl, fun _ _ => rfl, fun cs e fr h => ⟨cs, fr, h⟩⟩
  · refine ⟨by simp, rfl, rfl, rfl, fun i hi => by simp [Array.getElem?_modify, Ne.symm hi], fun cs e fr h => ?_⟩
    obtain ⟨lo, hi⟩ := fr
    refine ⟨cs, if lo == hi then (a.off, a.off + n) else (min lo a.off, max hi (a.off + n)), ?_⟩
    simp only [Array.getElem?_modify, if_true, h, Option.map_some]

theorem HRel.setCell {w₀ w : World} {φ : PMap} {h : AHeap} (hr : HRel w₀ φ h w) {k : Nat} {b : Blk} {p : Place} (hk : h k = some b) (hp : φ k = some p) {o : Nat} {x : AVal} {v : Value}
    (hx : VR φ x v) (hs : x.scal = true) (hfit : o < b.cells.length) (hfrz : b.frz ≤ o) : HRel w₀ φ (h.set k ⟨b.cells.set o x, b.frz⟩) (w.setCell ⟨p.blk, p.off + o, none⟩ v) := by
  obtain ⟨q, hq, hq1, ok⟩ := hr.own k b hk
  have hpq : q = p := by rw [hp] at hq; exact (Option.some.inj hq).symm
  subst hpq
  obtain ⟨cs, e, lo, hi, h1, h2, h3, h4, h5, h6⟩ := ok.row (by omega)
  have hgl : q.blk < w.heap.size := hr.lt k q hp
  rw [setCell_putRow w q.blk (q.off + o) cs e (lo, hi) h1 v]
  refine hr.write k b _ q hk hp (by simp [AM.World.putRow]) rfl rfl rfl (fun i hi => putRow_other w _ _ _ _ i hi) (fun cs' e' fr' h' => by rw [h1] at h'; cases h'; exact ⟨_, _, putRow_get w _ _ _ _ hgl⟩) ?_
  refine .inl ⟨cs.setIfInBounds (q.off + o) v, e, lo, hi, putRow_get w _ _ _ _ hgl, by simp [h2], by simp [h3], by simp [h4], ?_, ?_⟩
  · have := take_drop_setAt cs.toList q.off b.cells.length o [v] (by simp; omega)
    simp only [setAt] at this
    simp only [Array.toList_setIfInBounds, List.length_set]
    rw [this]
    exact VRs_set h5 o hx
  · refine ⟨h6.1, fun i hi1 hi2 => ?_⟩
    have := h6.2 i hi1 hi2
    simpa using this

/-- What is laid out first in one variable is so in any number of them. -/
theorem liesAt_first {P : Program} {T U : TypeId} (h : liesAt P P.depth T 1 0 U 1 = true) (hU : ∀ m u, P.underlying U ≠ some (.array m u)) {c : Nat} (hc : 1 ≤ c) : liesAt P P.depth T c 0 U 1 = true := by
  have noarr : ∀ (d c' : Nat), liesAt P (d + 1) T c' 0 U 1 = rowAt P (sameLayout P P.depth · U) P.depth T c' 0 1 := fun d c' => by
    unfold liesAt
    cases e : P.underlying U with
    | none => simp
    | some t => cases t <;> first | exact absurd e (hU _ _) | simp
  cases hd : P.depth with
  | zero => rw [hd] at h; simp [liesAt] at h
  | succ d =>
    rw [hd] at h
    rw [noarr d] at h ⊢
    rw [hd] at h ⊢
    unfold rowAt at h ⊢
    simp only at h ⊢
    split at h
    · cases h
    · rename_i hs
      rw [if_neg hs]
      simp only [Nat.zero_div, Nat.zero_mod, Nat.zero_add, beq_self_eq_true, Bool.true_and, Nat.le_refl, decide_true, Nat.lt_add_one, show (0 : Nat) < 1 from Nat.one_pos] at h ⊢
      rw [decide_eq_true hc, decide_eq_true (show 0 < c by omega), Bool.true_and, Bool.true_and]
      exact h

/-! ### A builder: two cells at the head of a block -/
structure Bld where
  used : Bool
  buf : Option (Nat × List UInt8)
def Bld.bytes (b : Bld) : List UInt8 := match b.buf with | none => [] | some (_, l) => l
def Bld.head (b : Bld) (k : Nat) : AVal := if b.used = true then .ptr (.own k) 0 else .nilPtr
def Bld.slice (b : Bld) : AVal := match b.buf with | none => .nilSlice | some (kb, l) => .slice (.own kb) 0 l.length (.grow 1)
def Bld.none : Bld := ⟨false, Option.none⟩
/-- Its buffer lies apart from all else, in a row of bytes (type e), and is not empty. -/
def Bld.ok (e : TypeId) (h : AHeap) (k : Nat) (b : Bld) : Prop := match b.buf with | Option.none => True | some (kb, l) => kb ≠ k ∧ h kb = Option.none ∧ tyOf kb = some e ∧ l ≠ []
def bldH (h : AHeap) (k : Nat) (rest : List AVal) (b : Bld) : AHeap := match b.buf with
  | Option.none => h.set k ⟨b.head k :: .nilSlice :: rest, 0⟩
  | some (kb, l) => (h.set k ⟨b.head k :: .slice (.own kb) 0 l.length (.grow 1) :: rest, 0⟩).set kb ⟨byteCells l, 0⟩
theorem Bld.none_ok {e : TypeId} {h : AHeap} {k : Nat} : Bld.none.ok e h k := trivial
theorem bldH_nil {h : AHeap} {k : Nat} {rest : List AVal} {b : Bld} (hb : b.buf = Option.none) : bldH h k rest b = h.set k ⟨b.head k :: .nilSlice :: rest, 0⟩ := by unfold bldH; rw [hb]
theorem bldH_some {h : AHeap} {k : Nat} {rest : List AVal} {b : Bld} {kb : Nat} {l : List UInt8} (hb : b.buf = some (kb, l)) :
    bldH h k rest b = (h.set k ⟨b.head k :: .slice (.own kb) 0 l.length (.grow 1) :: rest, 0⟩).set kb ⟨byteCells l, 0⟩ := by unfold bldH; rw [hb]
theorem Bld.slice_nil {b : Bld} (hb : b.buf = Option.none) : b.slice = .nilSlice := by unfold Bld.slice; rw [hb]
theorem Bld.slice_some {b : Bld} {kb : Nat} {l : List UInt8} (hb : b.buf = some (kb, l)) : b.slice = .slice (.own kb) 0 l.length (.grow 1) := by unfold Bld.slice; rw [hb]
theorem Bld.bytes_nil {b : Bld} (hb : b.buf = Option.none) : b.bytes = [] := by unfold Bld.bytes; rw [hb]
theorem Bld.bytes_some {b : Bld} {kb : Nat} {l : List UInt8} (hb : b.buf = some (kb, l)) : b.bytes = l := by unfold Bld.bytes; rw [hb]
theorem Bld.ok_some {e : TypeId} {h : AHeap} {k : Nat} {b : Bld} {kb : Nat} {l : List UInt8} (hb : b.buf = some (kb, l)) : b.ok e h k ↔ (kb ≠ k ∧ h kb = Option.none ∧ tyOf kb = some e ∧ l ≠ []) := by unfold Bld.ok; rw [hb]
theorem Sub.bldH {h : AHeap} {k : Nat} {rest : List AVal} {e : TypeId} {b : Bld} (hk : h k = Option.none) (hb : b.ok e h k) : Sub h (AM.bldH h k rest b) := by
  cases hbuf : b.buf with
  | none => rw [bldH_nil hbuf]; exact Sub.set hk
  | some q =>
    obtain ⟨h1, h2, h3, h4⟩ := (Bld.ok_some hbuf).1 hb
    rw [bldH_some hbuf]
    exact (Sub.set hk).trans (Sub.set (by rw [AHeap.set_ne _ _ h1]; exact h2))
theorem bldH_head {h : AHeap} {k : Nat} {rest : List AVal} {e : TypeId} {b : Bld} (hb : b.ok e h k) : bldH h k rest b k = some ⟨b.head k :: b.slice :: rest, 0⟩ := by
  cases hbuf : b.buf with
  | none => rw [bldH_nil hbuf, Bld.slice_nil hbuf]; exact AHeap.set_same _ _ _
  | some q =>
    obtain ⟨h1, h2, h3, h4⟩ := (Bld.ok_some hbuf).1 hb
    rw [bldH_some hbuf, Bld.slice_some hbuf, AHeap.set_ne _ _ h1.symm, AHeap.set_same]
theorem bldH_buf {h : AHeap} {k : Nat} {rest : List AVal} {b : Bld} {kb : Nat} {l : List UInt8} (hb : b.buf = some (kb, l)) : bldH h k rest b kb = some ⟨byteCells l, 0⟩ := by
  rw [bldH_some hb]
  exact AHeap.set_same _ _ _
/-- Its own address is laid down. -/
theorem bldH_used {h : AHeap} {k : Nat} {rest : List AVal} {e : TypeId} {b : Bld} (hb : b.ok e h k) : (bldH h k rest b).set k ⟨.ptr (.own k) 0 :: b.slice :: rest, 0⟩ = bldH h k rest ⟨true, b.buf⟩ := by
  cases hbuf : b.buf with
  | none =>
    rw [bldH_nil hbuf, Bld.slice_nil hbuf, AHeap.set_set, bldH_nil rfl]
    rfl
  | some q =>
    obtain ⟨h1, h2, h3, h4⟩ := (Bld.ok_some hbuf).1 hb
    rw [bldH_some hbuf, Bld.slice_some hbuf, bldH_some rfl, AHeap.set_comm _ _ _ h1.symm, AHeap.set_set]
    rfl
theorem Bld.slice_live (b : Bld) : b.slice.live = true := by unfold Bld.slice; split <;> rfl
theorem Bld.slice_scal (b : Bld) : b.slice.scal = true := by unfold Bld.slice; split <;> rfl
theorem Bld.slice_cells (b : Bld) : b.slice.cells = [b.slice] := by unfold Bld.slice; split <;> rfl
theorem Bld.head_live (b : Bld) (k : Nat) : (b.head k).live = true := by unfold Bld.head; split <;> rfl
theorem Bld.len (b : Bld) : ∀ {P : Program} {t e : TypeId}, P.underlying t = some (.slice e) → pLen P t b.slice = ⟨True, .int .i64 b.bytes.length⟩ := fun ht => by
  cases hb : b.buf with
  | none => rw [Bld.slice_nil hb, Bld.bytes_nil hb]; simp [pLen, ht]
  | some q => rw [Bld.slice_some hb, Bld.bytes_some hb]; simp [pLen, ht]
theorem set_same_self {h : AHeap} {k : Nat} {b : Blk} (hk : h k = some b) : h.set k b = h := by
  funext j
  by_cases e : j = k
  · subst e; rw [AHeap.set_same, hk]
  · rw [AHeap.set_ne _ _ e]

section
variable {P : Program} {w₀ : World} {ops rest : List Oper} {s : Slots} {h : AHeap} {K : Slots → AHeap → Prop} {dst : Option Tmp} {ty : TypeId} {pos : String} {af : Array Edge}
/-- Bytes behind a builder's; the slice is laid down by the next store. -/
theorem aOps_appendBld {ts : Array TypeId} {t u e : TypeId} {d : TypeDesc} {x y : Operand} {v : AVal} {src : List UInt8} {h₀ : AHeap} {k : Nat} {cs : List AVal} {st : Bld}
    (h0 : ts[0]? = some t) (h1 : ts[1]? = some u) (ht : P.underlying t = some (.slice e)) (hu : P.underlying u = some d) (hd : ∀ k, d ≠ .int k)
    (hs : szOf P e = some 1) (hb : byOf P e = some 1) (hz : zeOf P e = some (.int .u8 0)) (he : e < 4096)
    (hx : ev s x = st.slice) (hk0 : h₀ k = none) (hst : st.ok e h₀ k) (hh : Sub (bldH h₀ k cs st) h) (hy : ev s y = v) (hv : SrcB w₀ h v src) (hl : st.bytes.length + src.length ≤ 140737488355328)
    (hk : ∀ st' : Bld, st'.used = st.used → st'.ok e h₀ k → st'.bytes = st.bytes ++ src → ∀ h', h' k = some ⟨st.head k :: st.slice :: cs, 0⟩ → Sub (bldH h₀ k cs st') (h'.set k ⟨st'.head k :: st'.slice :: cs, 0⟩) →
      aOps P w₀ ops rest (putD s dst st'.slice) h' K) :
    aOps P w₀ ops (⟨dst, .call ⟨.builtin .append, [x, y].toArray, ts⟩, ty, pos, af, none⟩ :: rest) s h K := by
  obtain ⟨g1, g2⟩ := hv
  obtain ⟨p1, p2⟩ := g2 src.length (Nat.le_refl _)
  rw [List.take_of_length_le (Nat.le_refl _)] at p2
  have hkc : h k = some ⟨st.head k :: st.slice :: cs, 0⟩ := hh _ _ (bldH_head hst)
  have h₀h : Sub h₀ h := (Sub.bldH hk0 hst).trans hh
  rw [aOps_e]
  simp only [eop, evs, List.map_cons, List.map_nil, hx, hy, eAppend, h0, h1, ht, hu, hs, hb, hz, g1]
  cases hbuf : st.buf with
  | none =>
    rw [Bld.slice_nil hbuf] at *
    rw [Bld.bytes_nil hbuf] at *
    simp only [List.length_nil, Nat.zero_add] at hl
    refine ⟨hd, ⟨by omega, rfl⟩, p1, fun e0 => ?_, fun e0 => ⟨⟨by omega, by omega⟩, fun k' hk' htk => ?_⟩⟩
    · have e1 : src = [] := List.eq_nil_of_length_eq_zero e0
      have := hk st rfl hst (by rw [e1, Bld.bytes_nil hbuf]; rfl) h hkc (by rw [Bld.slice_nil hbuf, set_same_self hkc]; exact hh)
      rw [Bld.slice_nil hbuf] at this
      exact this
    · have hne : k' ≠ k := fun e' => by subst e'; rw [hkc] at hk'; cases hk'
      have hsrc : src ≠ [] := fun e' => e0 (by rw [e']; rfl)
      have := hk ⟨st.used, some (k', src)⟩ rfl ((Bld.ok_some rfl).2 ⟨hne, h₀h.none hk', htk he, hsrc⟩) rfl (h.set k' ⟨byteCells src, 0⟩) (by rw [AHeap.set_ne _ _ hne.symm]; exact hkc) (fun j c hj => by
        rw [bldH_some rfl] at hj
        by_cases e1 : j = k'
        · subst e1
          rw [AHeap.set_same] at hj
          rw [AHeap.set_ne _ _ hne, AHeap.set_same]
          exact hj
        · rw [AHeap.set_ne _ _ e1] at hj
          by_cases e2 : j = k
          · subst e2
            rw [AHeap.set_same] at hj ⊢
            exact hj
          · rw [AHeap.set_ne _ _ e2] at hj ⊢
            rw [AHeap.set_ne _ _ e1]
            exact h₀h j c hj)
      rw [p2]
      exact this
  | some q =>
    obtain ⟨kb, l⟩ := q
    obtain ⟨s1, s2, s3, s4⟩ := (Bld.ok_some hbuf).1 hst
    have hkb : h kb = some ⟨byteCells l, 0⟩ := hh _ _ (bldH_buf hbuf)
    rw [Bld.slice_some hbuf] at *
    rw [Bld.bytes_some hbuf] at *
    simp only [hkb]
    refine ⟨hd, ⟨by omega, rfl⟩, p1, trivial, ⟨by rw [byteCells_length]; omega, by omega, by omega, by rw [p2]; exact allScal_byteCells _, ?_, .inl trivial⟩, fun k' hk' htk => ?_⟩
    · rw [List.drop_zero]; exact allLive_of_u8 (byteCells_isU8 _)
    · have hne : k' ≠ k := fun e' => by subst e'; rw [hkc] at hk'; cases hk'
      have hneb : k' ≠ kb := fun e' => by subst e'; rw [hkb] at hk'; cases hk'
      have hl' : (l ++ src).length = l.length + src.length := List.length_append
      have := hk ⟨st.used, some (k', l ++ src)⟩ rfl ((Bld.ok_some rfl).2 ⟨hne, h₀h.none hk', htk trivial s3, by simp [s4]⟩) rfl ((h.del kb).set k' ⟨byteCells (l ++ src), 0⟩) (by rw [AHeap.set_ne _ _ hne.symm]; simp only [AHeap.del, s1.symm, if_false]; exact hkc) (fun j c hj => by
        rw [bldH_some rfl] at hj
        by_cases e1 : j = k'
        · subst e1
          rw [AHeap.set_same] at hj
          rw [AHeap.set_ne _ _ hne, AHeap.set_same]
          exact hj
        · rw [AHeap.set_ne _ _ e1] at hj
          by_cases e2 : j = k
          · subst e2
            rw [AHeap.set_same] at hj ⊢
            exact hj
          · rw [AHeap.set_ne _ _ e2] at hj ⊢
            rw [AHeap.set_ne _ _ e1]
            have e3 : j ≠ kb := fun e' => by subst e'; rw [s2] at hj; cases hj
            simp only [AHeap.del, e3, if_false]
            exact h₀h j c hj)
      rw [p2, List.drop_zero, ← byteCells_append]
      rw [Bld.slice_some rfl, hl'] at this
      exact this
end
end Go.AM

/-
  An assertion layer over the model's wp, part X: rows of cells that a call lays, writes and appends to.
  Conditions: none. Nothing here is about a particular program.
-/
namespace Go.AM

section
variable {P : Program} {w₀ : World} {ops rest : List Oper} {s : Slots} {h : AHeap} {K : Slots → AHeap → Prop} {dst : Option Tmp} {ty : TypeId} {pos : String} {af : Array Edge}
end

/-! ### A slice of the call's own that grows by append -/
/-- Nil, or a row in a block of its own: es cells an element. -/
structure Buf where
  blk : Nat
  cells : List AVal
def bufV (es : Nat) : Option Buf → AVal
  | none => .nilSlice
  | some b => .slice (.own b.blk) 0 (b.cells.length / es) (.grow es)
def bufC : Option Buf → List AVal
  | none => []
  | some b => b.cells
def bufH (h : AHeap) : Option Buf → AHeap
  | none => h
  | some b => h.set b.blk ⟨b.cells, 0⟩
def bufOk (h : AHeap) (es : Nat) : Option Buf → Prop
  | none => True
  | some b => h b.blk = none ∧ b.cells.length % es = 0 ∧ allLive b.cells = true
theorem bufOk.sub {h h' : AHeap} {es : Nat} {b : Option Buf} (hb : bufOk h es b) (hs : Sub h' h) : bufOk h' es b := by
  cases b with
  | none => trivial
  | some b => exact ⟨hs.none hb.1, hb.2⟩
theorem Sub.buf {h : AHeap} {es : Nat} {b : Option Buf} (hb : bufOk h es b) : Sub h (bufH h b) := by
  cases b with
  | none => exact Sub.refl _
  | some b => exact Sub.set hb.1
theorem bufV_live (es : Nat) (b : Option Buf) : (bufV es b).live = true := by cases b <;> rfl
/-- What an append has left of the heap. -/
theorem sub_app {h₀ h : AHeap} {kb k' : Nat} {B C : Blk} (h0 : h₀ kb = none) (hs : Sub (h₀.set kb B) h) (hk' : h k' = none) : Sub (h₀.set k' C) ((h.del kb).set k' C) := fun j c hj => by
  by_cases e : j = k'
  · subst e; rw [AHeap.set_same] at hj ⊢; exact hj
  · rw [AHeap.set_ne _ _ e] at hj ⊢
    have e2 : j ≠ kb := fun e2 => by subst e2; rw [h0] at hj; cases hj
    simp only [AHeap.del, e2, if_false]
    exact hs j c (by rw [AHeap.set_ne _ _ e2]; exact hj)

section
variable {P : Program} {w₀ : World} {ops rest : List Oper} {s : Slots} {h : AHeap} {K : Slots → AHeap → Prop} {dst : Option Tmp} {ty : TypeId} {pos : String} {af : Array Edge}
/-- Cells behind a slice of the call's own: h₀ is what else is told of the heap. -/
theorem aOps_appendBuf {ts : Array TypeId} {t u e : TypeId} {d : TypeDesc} {x y : Operand} {v : AVal} {es by' m : Nat} {z : Value} {src : List AVal} {h₀ : AHeap} {b : Option Buf}
    (h0 : ts[0]? = some t) (h1 : ts[1]? = some u) (ht : P.underlying t = some (.slice e)) (hu : P.underlying u = some d) (hd : ∀ k, d ≠ .int k)
    (hs : szOf P e = some es) (hb : byOf P e = some by') (hz : zeOf P e = some z) (hzs : z.cells.size = es) (hes : es ≠ 0)
    (hx : ev s x = bufV es b) (hok : bufOk h₀ es b) (hh : Sub (bufH h₀ b) h) (hy : ev s y = v) (hm : srcLen v = some m) (hp : srcPre w₀ h es m v) (hc : srcCells w₀ h es m v = src) (hsl : src.length = m * es) (hsc : allScal src = true) (hlv : allLive src = true)
    (hl : ((bufC b).length / es + m) * by' ≤ 140737488355328) (hl' : (bufC b).length / es + m < 4611686018427387904)
    (hk : ∀ b' h', bufOk h₀ es b' → bufC b' = bufC b ++ src → Sub (bufH h₀ b') h' → aOps P w₀ ops rest (putD s dst (bufV es b')) h' K) :
    aOps P w₀ ops (⟨dst, .call ⟨.builtin .append, [x, y].toArray, ts⟩, ty, pos, af, none⟩ :: rest) s h K := by
  rw [aOps_e]
  simp only [eop, evs, List.map_cons, List.map_nil, hx, hy, eAppend, h0, h1, ht, hu, hs, hb, hz, hm]
  have hev : 0 < es := Nat.pos_of_ne_zero hes
  cases b with
  | none =>
    refine ⟨hd, ⟨hes, hzs⟩, hp, ?_⟩
    simp only [bufV]
    simp only [bufC, List.length_nil, Nat.zero_div, Nat.zero_add] at hl hl'
    refine ⟨fun e0 => ?_, fun e0 => ⟨⟨hl, hl'⟩, fun k hk0 _ => ?_⟩⟩
    · have : src = [] := List.eq_nil_of_length_eq_zero (by rw [hsl, e0, Nat.zero_mul])
      exact hk none h trivial (by rw [this]; rfl) hh
    · have hsub : Sub (bufH h₀ (some ⟨k, src⟩)) (h.set k ⟨src, 0⟩) := Sub.set_both hh k _
      have hk0' : h₀ k = none := hh.none hk0
      have e1 : src.length / es = m := by rw [hsl]; exact Nat.mul_div_cancel _ hev
      have := hk (some ⟨k, src⟩) (h.set k ⟨src, 0⟩) ⟨hk0', by simp only; rw [hsl]; exact Nat.mul_mod_left _ _, hlv⟩ rfl hsub
      simp only [bufV, e1] at this
      rw [hc]
      exact this
  | some b =>
    obtain ⟨o1, o2, o3⟩ := hok
    simp only [bufC] at hl hl'
    have hkb : h b.blk = some ⟨b.cells, 0⟩ := hh _ _ (AHeap.set_same _ _ _)
    refine ⟨hd, ⟨hes, hzs⟩, hp, ?_⟩
    simp only [bufV, hkb]
    have hdiv : b.cells.length / es * es = b.cells.length := Nat.div_mul_cancel (Nat.dvd_of_mod_eq_zero o2)
    refine ⟨trivial, ⟨by rw [Nat.zero_add, hdiv], hl, hl', by rw [hc]; exact hsc, by rw [List.drop_zero]; exact o3, .inl trivial⟩, fun k hk0 _ => ?_⟩
    rw [hc, List.drop_zero]
    have hsub : Sub (bufH h₀ (some ⟨k, b.cells ++ src⟩)) ((h.del b.blk).set k ⟨b.cells ++ src, 0⟩) := sub_app o1 hh hk0
    have hne : k ≠ b.blk := fun e' => by subst e'; rw [hkb] at hk0; cases hk0
    have hk0' : h₀ k = none := by
      have := hh.none hk0
      rwa [show (bufH h₀ (some b)) = h₀.set b.blk ⟨b.cells, 0⟩ from rfl, AHeap.set_ne _ _ hne] at this
    have e1 : (b.cells ++ src).length / es = b.cells.length / es + m := by
      rw [List.length_append, hsl, Nat.add_mul_div_right _ _ hev]
    have e2 : (b.cells ++ src).length % es = 0 := by
      rw [List.length_append, hsl, Nat.add_mul_mod_self_right]; exact o2
    have hlive : allLive (b.cells ++ src) = true := by
      have : ∀ (a c : List AVal), allLive (a ++ c) = (allLive a && allLive c) := fun a c => by
        induction a with
        | nil => rfl
        | cons x a ih => simp [allLive, ih, Bool.and_assoc]
      rw [this, o3, hlv]; rfl
    have := hk (some ⟨k, b.cells ++ src⟩) _ ⟨hk0', e2, hlive⟩ rfl hsub
    simp only [bufV, e1] at this
    exact this
end
end Go.AM

/-
  An assertion layer over the model's wp, part Y: statements of open order whose calls are chained and leave the told heap, with reading operations between them (rule H).
  Conditions: none. Nothing here is about a particular program.
-/
namespace Go.AM
open Go.RowKit (Below)
section
variable {P : Program} {w₀ : World} {n : FrameK}

theorem AHeap.ne_some {h : AHeap} {k j : Nat} {b : Blk} (hk : h k = none) (hj : h j = some b) : k ≠ j := fun e => by subst e; rw [hk] at hj; cases hj
theorem Sub_self (h : AHeap) : Sub h h = True := eq_true (Sub.refl h)

theorem aOps_one {l : List Oper} {o : Oper} {r : List Oper} {s : Slots} {h : AHeap} {K : Slots → AHeap → Prop} (ha : aOps P w₀ l (o :: r) s h K) : aOps P w₀ l [o] s h fun s' h' => aOps P w₀ l r s' h' K := by
  simp only [aOps] at ha ⊢
  exact ha
theorem aOps1_mono {l : List Oper} {o : Oper} {s : Slots} {h : AHeap} {K K' : Slots → AHeap → Prop} (hk : ∀ s h, K s h → K' s h) (ha : aOps P w₀ l [o] s h K) : aOps P w₀ l [o] s h K' := by
  simp only [aOps] at ha ⊢
  split
  · rename_i hg
    rw [hg] at ha
    exact eop_mono ha fun x h' hx => hk _ _ hx
  · rename_i j want hg
    rw [hg] at ha
    simp only at ha
    split
    · rename_i hj
      rw [hj] at ha
      exact hk _ _ ha
    · rename_i d hj
      rw [hj] at ha
      refine ⟨ha.1, ?_⟩
      have h2 := ha.2
      split
      · rename_i hp
        rw [if_pos hp] at h2
        exact ⟨h2.1, hk _ _ h2.2⟩
      · rename_i hp
        rw [if_neg hp] at h2
        exact ⟨fun e => eop_mono (h2.1 e) fun x h' hx => hk _ _ hx, fun e => hk _ _ (h2.2 e)⟩
/-- What the looked-at slots hold. -/
def LookOk (ψ : PMap) (n : FrameK) (l : List Oper) (o : Oper) (S : Slots) (a : Act) : Prop := a.tmps.size = n ∧ a.defers = n.dfr ∧ ∀ t ∈ looksL l o, VR ψ (S.get t) (a.tmps.getD t undef)
theorem LookOk.rel {ψ : PMap} {l : List Oper} {o : Oper} {S : Slots} {a : Act} (h : LookOk ψ n l o S a) : SRel ψ n (S.keep (looksL l o)) a := by
  refine ⟨h.1, h.2.1, fun t => ?_⟩
  rw [Slots.get_keep]
  by_cases ht : (looksL l o).contains t = true
  · rw [if_pos ht]; exact h.2.2 t (by simpa using ht)
  · rw [if_neg ht]; trivial
theorem guard_look {ψ : PMap} {l : List Oper} (hall : dstsOk n l = true) {o : Oper} {S : Slots} {a : Act} (h : LookOk ψ n l o S a) {j d : Nat} {want : Bool} (hg : o.guard = some (j, want)) (hj : nthDst l j = some d) (hk : gKnown (S.get d) = true) :
    Region.wanted o (yielded l.toArray a.tmps) = guardB (S.get d) want := by
  have hd : (S.keep (looksL l o)).get d = S.get d := by
    rw [Slots.get_keep, if_pos]
    simp [looksL, hg, hj]
  have := guard_ok h.rel l j d hj (nth_lt l j d hall hj) (by rw [hd]; exact hk) want
  rw [hd] at this
  simp only [Region.wanted, hg]
  exact this
theorem guard_never {l : List Oper} {o : Oper} {j : Nat} {want : Bool} {a : Act} (hg : o.guard = some (j, want)) (hj : nthDst l j = none) : Region.wanted o (yielded l.toArray a.tmps) = false := by
  have hd : (l.toArray[j]?).bind (·.dst) = none := by rw [← hj, nthDst_eq]; simp
  simp only [Region.wanted, hg, yielded, hd]
  rfl

/-- One operation is run. -/
theorem one_ok {l : List Oper} (hall : dstsOk n l = true) {o : Oper} {S : Slots} {g : AHeap} {K : Slots → AHeap → Prop} (ha : aOps P w₀ l [o] S g K) {ψ : PMap} {w : World} {a : Act} (hr : HRel w₀ ψ g w) (hl : LookOk ψ n l o S a)
    {next : Act → World → Prop} {Q : Exit → Act → World → Prop} (hn : ∀ ψ' x h' v w', ψ.le ψ' → HRel w₀ ψ' h' w' → VR ψ' x v → K (putD S o.dst x) h' → next (a.put o.dst v) w') :
    if Region.wanted o (yielded l.toArray a.tmps) = true then o.wp P a w next Q else next (a.put o.dst undef) w := by
  have hs := hl.rel
  have run : ∀ (K' : AVal → AHeap → Prop), eop P w₀ g S o.op K' → (∀ x h', K' x h' → K (putD S o.dst x) h') → o.wp P a w next Q := fun K' he hk => by
    rw [← eop_congr (s' := S.keep (looksL l o)) o.op (ev_mem fun t ht => by unfold looksL; exact List.mem_append_left _ ht)] at he
    exact eop_ok o he hr hs fun ψ' x h' v w' e1 e2 e3 e4 => hn ψ' x h' v w' e1 e2 e3 (hk x h' e4)
  have skip : K (putD S o.dst (.tuple [])) g → next (a.put o.dst undef) w := fun hk => hn ψ _ g undef w ψ.le_refl hr (VR_undef ψ) hk
  simp only [aOps] at ha
  cases hg : o.guard with
  | none =>
    simp only [hg] at ha
    have hw : Region.wanted o (yielded l.toArray a.tmps) = true := by simp [Region.wanted, hg]
    rw [if_pos hw]
    exact run _ ha fun _ _ hk => hk
  | some gw =>
    obtain ⟨j, want⟩ := gw
    simp only [hg] at ha
    cases hj : nthDst l j with
    | none =>
      simp only [hj] at ha
      rw [if_neg (by rw [guard_never hg hj]; decide)]
      exact skip ha
    | some d =>
      simp only [hj] at ha
      obtain ⟨hk, ha⟩ := ha
      rw [guard_look hall hl hg hj hk]
      split at ha
      · rename_i hp
        obtain ⟨h1, h2⟩ := ha
        cases hb : guardB (S.get d) want with
        | true =>
          simp only [hb, condV, cond_true] at h2
          simp only [if_true]
          exact run (fun x h' => x = (pop P w₀ g S o.op).val ∧ h' = g) ((eop_pure hp).2 ⟨h1 hb, rfl, rfl⟩) fun x h' ⟨e1, e2⟩ => by subst e1 e2; exact h2
        | false =>
          simp only [hb, condV, cond_false] at h2
          simp only [Bool.false_eq_true, if_false]
          exact skip h2
      · obtain ⟨h1, h2⟩ := ha
        cases hb : guardB (S.get d) want with
        | true =>
          simp only [if_true]
          exact run _ (h1 hb) fun _ _ hk => hk
        | false =>
          simp only [Bool.false_eq_true, if_false]
          exact skip (h2 hb)

/-- A reading operation gives the same wherever the told heap lies, and whenever it is run. -/
def FactR (P : Program) (w₀ : World) (n : FrameK) (l : List Oper) (g : AHeap) (S : Slots) (o : Oper) (V : AVal) : Prop :=
  ∀ (ψ : PMap) (w : World) (a : Act) (g' : AHeap) (next : Act → World → Prop) (Q : Exit → Act → World → Prop), Sub g g' → HRel w₀ ψ g' w → LookOk ψ n l o S a → (∀ v, VR ψ V v → next (a.put o.dst v) w) →
    if Region.wanted o (yielded l.toArray a.tmps) = true then o.wp P a w next Q else next (a.put o.dst undef) w
theorem FactR.sub {l : List Oper} {g g' : AHeap} {S : Slots} {o : Oper} {V : AVal} (h : FactR P w₀ n l g S o V) (hs : Sub g g') : FactR P w₀ n l g' S o V :=
  fun ψ w a g₂ next Q h1 h2 h3 h4 => h ψ w a g₂ next Q (Sub.trans hs h1) h2 h3 h4
theorem FactR.slots {l : List Oper} {g : AHeap} {S S' : Slots} {o : Oper} {V : AVal} (h : FactR P w₀ n l g S o V) (hs : ∀ t ∈ looksL l o, S'.get t = S.get t) : FactR P w₀ n l g S' o V :=
  fun ψ w a g₂ next Q h1 h2 h3 h4 => h ψ w a g₂ next Q h1 h2 ⟨h3.1, h3.2.1, fun t ht => by rw [← hs t ht]; exact h3.2.2 t ht⟩ h4
theorem fact_of {l : List Oper} (hall : dstsOk n l = true) {o : Oper} (hk2 : kindF P o.op = 2) {S : Slots} {g : AHeap} {K : Slots → AHeap → Prop} (ha : aOps P w₀ l [o] S g K) : ∃ V, K (putD S o.dst V) g ∧ FactR P w₀ n l g S o V := by
  have hp := kindF_pure hk2
  have same : pop P w₀ g (S.keep (looksL l o)) o.op = pop P w₀ g S o.op := pop_congr o.op (ev_mem fun t ht => by unfold looksL; exact List.mem_append_left _ ht)
  have run : (pop P w₀ g S o.op).pre → ∀ (ψ : PMap) (w : World) (a : Act) (g' : AHeap) (next : Act → World → Prop) (Q : Exit → Act → World → Prop), Sub g g' → HRel w₀ ψ g' w → LookOk ψ n l o S a → (∀ v, VR ψ (pop P w₀ g S o.op).val v → next (a.put o.dst v) w) → o.wp P a w next Q := by
    intro hpre ψ w a g' next Q h1 h2 h3 h4
    rw [← same] at hpre h4
    have up := pop_up (g := g') hk2 (fun k b hb _ => h1 k b hb) h3.rel hpre
    rw [← up] at hpre h4
    obtain ⟨r, e1, e2⟩ := pop_ok o hpre h2 h3.rel
    exact wp_value (e1 w (Same.refl w)) (h4 r e2)
  simp only [aOps] at ha
  cases hg : o.guard with
  | none =>
    simp only [hg] at ha
    rw [eop_pure hp] at ha
    refine ⟨_, ha.2, fun ψ w a g' next Q h1 h2 h3 h4 => ?_⟩
    have hw : Region.wanted o (yielded l.toArray a.tmps) = true := by simp [Region.wanted, hg]
    rw [if_pos hw]
    exact run ha.1 ψ w a g' next Q h1 h2 h3 h4
  | some gw =>
    obtain ⟨j, want⟩ := gw
    simp only [hg] at ha
    cases hj : nthDst l j with
    | none =>
      simp only [hj] at ha
      refine ⟨_, ha, fun ψ w a g' next Q h1 h2 h3 h4 => ?_⟩
      rw [if_neg (by rw [guard_never hg hj]; decide)]
      exact h4 _ (VR_undef ψ)
    | some d =>
      simp only [hj] at ha
      obtain ⟨hk, ha⟩ := ha
      rw [if_pos hp] at ha
      obtain ⟨h1, h2⟩ := ha
      refine ⟨_, h2, fun ψ w a g' next Q q1 q2 q3 q4 => ?_⟩
      rw [guard_look hall q3 hg hj hk]
      cases hb : guardB (S.get d) want with
      | true =>
        simp only [hb, condV, cond_true] at q4
        simp only [if_true]
        exact run (h1 hb) ψ w a g' next Q q1 q2 q3 q4
      | false =>
        simp only [hb, condV, cond_false] at q4
        simp only [Bool.false_eq_true, if_false]
        exact q4 _ (VR_undef ψ)

/-! ### The static conditions -/
def permL (l : List Oper) (π : List Nat) : List Oper := π.filterMap fun i => l[i]?
def isF (P : Program) (l : List Oper) (i : Nat) : Bool := match l[i]? with
  | some o => kindF P o.op == 2
  | none => true
theorem permL_at {l : List Oper} : ∀ {π : List Nat}, (∀ q, q < π.length → π.getD q 0 < l.length) → ∀ q, q < π.length → (permL l π)[q]? = l[π.getD q 0]?
  | i :: π, h, q, hq => by
    have h0 : i < l.length := h 0 (by simp)
    have e : permL l (i :: π) = l[i] :: permL l π := by
      unfold permL
      rw [List.filterMap_cons, List.getElem?_eq_getElem h0]
    rw [e]
    cases q with
    | zero => simp [List.getElem?_eq_getElem h0]
    | succ q =>
      rw [List.getElem?_cons_succ, permL_at (π := π) (fun q hq => h (q + 1) (by simpa using hq)) q (by simpa using hq)]
      rfl
theorem permL_length {l : List Oper} : ∀ {π : List Nat}, (∀ q, q < π.length → π.getD q 0 < l.length) → (permL l π).length = π.length
  | [], _ => rfl
  | i :: π, h => by
    have h0 : i < l.length := h 0 (by simp)
    unfold permL
    rw [List.filterMap_cons, List.getElem?_eq_getElem h0]
    simp only [List.length_cons]
    exact congrArg (· + 1) (permL_length (π := π) fun q hq => h (q + 1) (by simpa using hq))
theorem permL_drop {l : List Oper} {π : List Nat} (h : ∀ q, q < π.length → π.getD q 0 < l.length) {p : Nat} (hp : p < π.length) {o : Oper} (ho : l[π.getD p 0]? = some o) : (permL l π).drop p = o :: (permL l π).drop (p + 1) := by
  have e := permL_at h p hp
  rw [ho] at e
  have hl := (List.getElem?_eq_some_iff.1 e).1
  rw [List.drop_eq_getElem_cons hl]
  congr 1
  exact (List.getElem?_eq_some_iff.1 e).2

theorem waits_listed {l : List Oper} {listed : Array Bool} {i j : Nat} {o : Oper} (ho : l[i]? = some o) (hedges : ∀ e ∈ o.after, Region.binds .any e = true → listed.getD e.on false = true) (hw : Region.waitsFor .any l.toArray i j = true) : listed.getD j false = true := by
  obtain ⟨oi, g1, e, g2, g3, g4⟩ := Region.waitsFor_spec hw
  have g1' : l[i]? = some oi := by simpa using g1
  rw [ho] at g1'
  obtain rfl := Option.some.inj g1'
  rw [← g4]
  exact hedges e g2 g3

end
end Go.AM

/-
  An assertion layer over the model's wp, part Z: as rule H, with new blocks that may be laid at any time ahead of their use (rule I).
  Conditions: none. Nothing here is about a particular program.
-/
namespace Go.AM
open Go.RowKit (Below)
section
variable {P : Program} {w₀ : World} {n : FrameK}

def isA (P : Program) (l : List Oper) (i : Nat) : Bool := match l[i]? with
  | some o => o.guard.isNone && (match o.op with | .alloc e => (zeOf P e).isSome | _ => false)
  | none => false
def allocOf (P : Program) (o : Oper) : Option (List AVal) := match o.guard, o.op with
  | none, .alloc e => (zeOf P e).map fun z => z.cells.toList.map absS
  | _, _ => none
theorem isA_alloc {l : List Oper} {i : Nat} {o : Oper} (ho : l[i]? = some o) (h : isA P l i = true) : ∃ cs, allocOf P o = some cs := by
  unfold isA at h
  rw [ho] at h
  simp only [Bool.and_eq_true, Option.isNone_iff_eq_none] at h
  obtain ⟨h1, h2⟩ := h
  unfold allocOf
  rw [h1]
  split at h2
  · rename_i e he
    rw [he]
    obtain ⟨z, hz⟩ := Option.isSome_iff_exists.1 h2
    exact ⟨_, by simp [hz]; rfl⟩
  · cases h2
theorem allocOf_spec {o : Oper} {cs : List AVal} (h : allocOf P o = some cs) : o.guard = none ∧ ∃ e z, o.op = .alloc e ∧ zeOf P e = some z ∧ cs = z.cells.toList.map absS := by
  unfold allocOf at h
  split at h
  · rename_i e hg ho
    cases hz : zeOf P e with
    | none => rw [hz] at h; cases h
    | some z =>
      rw [hz] at h
      exact ⟨hg, e, z, ho, hz, (Option.some.inj h).symm⟩
  · cases h
theorem not_isA {l : List Oper} {i : Nat} {o : Oper} (ho : l[i]? = some o) (h : isA P l i = false) : allocOf P o = none := by
  unfold isA at h
  rw [ho] at h
  unfold allocOf
  split
  · rename_i e hg hop
    simp only [hg, hop, Option.isNone_none, Bool.true_and] at h
    cases hz : zeOf P e with
    | none => rfl
    | some z => rw [hz] at h; cases h
  · rfl

/-- Operations in an order of our own; a new block may have been laid before; a call may meet such blocks; the first m leave what is told of the heap. -/
def iOps (P : Program) (w₀ : World) (l : List Oper) (h₀ : AHeap) : Nat → List Oper → Slots → AHeap → (Slots → AHeap → Prop) → Prop
  | _, [], s, g, K => K s g
  | 0, o :: r, s, g, K => aOps P w₀ l (o :: r) s g K
  | m + 1, o :: r, s, g, K => match allocOf P o with
    | some cs => ∀ k g', h₀ k = none → Sub g g' → g' k = some ⟨cs, 0⟩ → iOps P w₀ l h₀ m r (putD s o.dst (.ptr (.own k) 0)) g' K
    | none => if kindF P o.op = 2 then aOps P w₀ l [o] s g fun s' g' => Sub g g' ∧ iOps P w₀ l h₀ m r s' g' K
      else ∀ g', Sub g g' → aOps P w₀ l [o] s g' fun s' h' => Sub g' h' ∧ iOps P w₀ l h₀ m r s' h' K
theorem iOps_nil {l : List Oper} {h₀ : AHeap} {m : Nat} {s : Slots} {h : AHeap} {K : Slots → AHeap → Prop} : iOps P w₀ l h₀ m [] s h K = K s h := by cases m <;> rfl
theorem iOps_zero {l : List Oper} {h₀ : AHeap} {o : Oper} {r : List Oper} {s : Slots} {h : AHeap} {K : Slots → AHeap → Prop} : iOps P w₀ l h₀ 0 (o :: r) s h K = aOps P w₀ l (o :: r) s h K := rfl
theorem iOps_read {l : List Oper} {h₀ : AHeap} {m : Nat} {o : Oper} {r : List Oper} {s : Slots} {h : AHeap} {K : Slots → AHeap → Prop} (ha : allocOf P o = none) (hk : kindF P o.op = 2) (hc : aOps P w₀ l [o] s h fun s' g' => Sub h g' ∧ iOps P w₀ l h₀ m r s' g' K) : iOps P w₀ l h₀ (m + 1) (o :: r) s h K := by
  simp only [iOps, ha, hk, if_true]
  exact hc
theorem iOps_call {l : List Oper} {h₀ : AHeap} {m : Nat} {o : Oper} {r : List Oper} {s : Slots} {h : AHeap} {K : Slots → AHeap → Prop} (ha : allocOf P o = none) (hc : ∀ g', Sub h g' → aOps P w₀ l [o] s g' fun s' h' => Sub g' h' ∧ iOps P w₀ l h₀ m r s' h' K) : iOps P w₀ l h₀ (m + 1) (o :: r) s h K := by
  simp only [iOps, ha]
  split
  · exact hc h (Sub.refl h)
  · exact hc
theorem iOps_alloc {l : List Oper} {h₀ : AHeap} {m : Nat} {o : Oper} {r : List Oper} {s : Slots} {h : AHeap} {K : Slots → AHeap → Prop} {cs : List AVal} (ha : allocOf P o = some cs) (hc : ∀ k g', h₀ k = none → Sub h g' → g' k = some ⟨cs, 0⟩ → iOps P w₀ l h₀ m r (putD s o.dst (.ptr (.own k) 0)) g' K) : iOps P w₀ l h₀ (m + 1) (o :: r) s h K := by
  simp only [iOps, ha]
  exact hc
theorem iOps_mono {l : List Oper} {h₀ : AHeap} {K K' : Slots → AHeap → Prop} (hk : ∀ s h, K s h → K' s h) : ∀ {r : List Oper} {m : Nat} {s : Slots} {h : AHeap}, iOps P w₀ l h₀ m r s h K → iOps P w₀ l h₀ m r s h K'
  | [], m, s, h, ha => by rw [iOps_nil] at ha ⊢; exact hk _ _ ha
  | o :: r, 0, s, h, ha => awp_rseq.aOps_mono hk ha
  | o :: r, m + 1, s, h, ha => by
    simp only [iOps] at ha ⊢
    split
    · rename_i cs hcs
      rw [hcs] at ha
      exact fun k g' h1 h2 h3 => iOps_mono hk (ha k g' h1 h2 h3)
    · rename_i hcs
      rw [hcs] at ha
      simp only at ha
      split
      · rename_i h2
        rw [if_pos h2] at ha
        exact aOps1_mono (fun s' h' hx => ⟨hx.1, iOps_mono hk hx.2⟩) ha
      · rename_i h2
        rw [if_neg h2] at ha
        exact fun g' hg => aOps1_mono (fun s' h' hx => ⟨hx.1, iOps_mono hk hx.2⟩) (ha g' hg)

def floatI (P : Program) (l : List Oper) (π : List Nat) (ws : List (Option Nat)) (m : Nat) : Bool :=
  orderB l && (π.all fun i => decide (i < l.length)) && ((List.range l.length).all fun i => π.contains i) &&
  ((List.range π.length).all fun q => (List.range π.length).all fun r => decide (q = r) || !(π.getD q 0 == π.getD r 0)) &&
  ((List.range π.length).all fun q => isA P l (π.getD q 0) || match ws.getD q none with
    | none => (List.range q).all fun c => isF P l (π.getD c 0)
    | some r => decide (r < q) && Region.waitsFor .any l.toArray (π.getD q 0) (π.getD r 0) && !isA P l (π.getD r 0) && (List.range q).all fun c => decide (c ≤ r) || isF P l (π.getD c 0) || (isA P l (π.getD c 0) && Region.waitsFor .any l.toArray (π.getD q 0) (π.getD c 0))) &&
  ((List.range π.length).all fun q => match l[π.getD q 0]? with
    | none => true
    | some o => (List.range π.length).all fun r => match l[π.getD r 0]? with
      | none => true
      | some oj => (match oj.dst with
        | none => true
        | some t => !(looksL l o).contains t || (decide (r < q) && Region.waitsFor .any l.toArray (π.getD q 0) (π.getD r 0)))) &&
  decide (m ≤ π.length) && ((List.range π.length).all fun q => decide (q < m) || (!isF P l (π.getD q 0) && !isA P l (π.getD q 0))) &&
  (decide (m = π.length) || (List.range m).all fun q => (List.range (m + 1)).any fun r => decide (q < r) && Region.waitsFor .any l.toArray (π.getD r 0) (π.getD q 0))

structure FloatQ (P : Program) (l : List Oper) (π : List Nat) (m : Nat) : Prop where
  order : orderB l = true
  inr : ∀ q, q < π.length → π.getD q 0 < l.length
  onto : ∀ i, i < l.length → ∃ q, q < π.length ∧ π.getD q 0 = i
  inj : ∀ q r, q < π.length → r < π.length → π.getD q 0 = π.getD r 0 → q = r
  wait : ∀ q c, q < π.length → c < q → isA P l (π.getD q 0) = false → isF P l (π.getD c 0) = false → ∃ r, c ≤ r ∧ r < q ∧ (r = c ∨ isA P l (π.getD r 0) = false) ∧ Region.waitsFor .any l.toArray (π.getD q 0) (π.getD r 0) = true
  data : ∀ q r o oj t, q < π.length → r < π.length → l[π.getD q 0]? = some o → l[π.getD r 0]? = some oj → oj.dst = some t → t ∈ looksL l o → r < q ∧ Region.waitsFor .any l.toArray (π.getD q 0) (π.getD r 0) = true
  mle : m ≤ π.length
  tail : ∀ q, m ≤ q → q < π.length → isF P l (π.getD q 0) = false ∧ isA P l (π.getD q 0) = false
  sink : m < π.length → ∀ q, q < m → ∃ r, q < r ∧ r ≤ m ∧ Region.waitsFor .any l.toArray (π.getD r 0) (π.getD q 0) = true

theorem floatI_spec {l : List Oper} {π : List Nat} {ws : List (Option Nat)} {m : Nat} (h : floatI P l π ws m = true) : FloatQ P l π m := by
  unfold floatI at h
  simp only [Bool.and_eq_true] at h
  obtain ⟨⟨⟨⟨⟨⟨⟨⟨h1, h2⟩, h3⟩, h4⟩, h5⟩, h6⟩, h7⟩, h8⟩, h9⟩ := h
  simp only [List.all_eq_true, List.mem_range] at h2 h3 h4 h5 h6 h8
  refine ⟨h1, fun q hq => ?_, fun i hi => ?_, fun q r hq hr e => ?_, fun q c hq hc hqa hf => ?_, fun q r o oj t hq hr ho hoj hd ht => ?_, by simpa using h7, fun q hm hq => ?_, fun hm q hq => ?_⟩
  · have := h2 (π.getD q 0) (by rw [List.getD, List.getElem?_eq_getElem hq]; exact List.getElem_mem hq)
    simpa using this
  · have := h3 i hi
    rw [List.contains_iff_mem] at this
    obtain ⟨q, hq, e⟩ := List.getElem_of_mem this
    exact ⟨q, hq, by rw [List.getD, List.getElem?_eq_getElem hq]; exact e⟩
  · have := h4 q hq r hr
    rw [Bool.or_eq_true, decide_eq_true_eq] at this
    rcases this with e' | e'
    · exact e'
    · rw [e] at e'; simp at e'
  · have := h5 q hq
    rw [hqa, Bool.false_or] at this
    split at this
    · rw [List.all_eq_true] at this
      rw [this c (List.mem_range.2 hc)] at hf
      cases hf
    · rename_i r _
      simp only [Bool.and_eq_true, decide_eq_true_eq, List.all_eq_true, List.mem_range, Bool.or_eq_true, Bool.not_eq_true'] at this
      obtain ⟨⟨⟨t1, t2⟩, t4⟩, t3⟩ := this
      rcases t3 c hc with (e | e) | e
      · exact ⟨r, e, t1, .inr t4, t2⟩
      · rw [e] at hf; cases hf
      · exact ⟨c, Nat.le_refl _, hc, .inl rfl, e.2⟩
  · have := h6 q hq
    rw [ho] at this
    simp only [List.all_eq_true, List.mem_range] at this
    have := this r hr
    rw [hoj] at this
    simp only [hd, Bool.or_eq_true, Bool.and_eq_true, decide_eq_true_eq, Bool.not_eq_true'] at this
    rcases this with e | e
    · have hm : (looksL l o).contains t = true := by simpa using ht
      rw [hm] at e; cases e
    · exact e
  · have := h8 q hq
    simp only [Bool.or_eq_true, decide_eq_true_eq, Bool.not_eq_true', Bool.and_eq_true] at this
    rcases this with e | e
    · omega
    · exact e
  · rw [Bool.or_eq_true, decide_eq_true_eq] at h9
    rcases h9 with e | e
    · omega
    · rw [List.all_eq_true] at e
      have := e q (List.mem_range.2 hq)
      rw [List.any_eq_true] at this
      obtain ⟨r, hr, hw⟩ := this
      rw [List.mem_range] at hr
      simp only [Bool.and_eq_true, decide_eq_true_eq] at hw
      exact ⟨r, hw.1, by omega, hw.2⟩

/-- Where a run of the statement stands: g is what the walk tells of the heap, ga what is told besides of the blocks that were laid before their turn. -/
structure PreP (P : Program) (w₀ : World) (n : FrameK) (l : List Oper) (π : List Nat) (m : Nat) (h₀ : AHeap) (K : Slots → AHeap → Prop) (listed : Array Bool) (ψ : PMap) (a : Act) (w : World) (p : Nat) (S : Slots) (g ga : AHeap) : Prop where
  size : listed.size = l.length
  closed : ∀ j oj, l[j]? = some oj → listed.getD j false = true → ∀ e ∈ oj.after, Region.binds .any e = true → listed.getD e.on false = true
  tsize : a.tmps.size = n
  defers : a.defers = n.dfr
  ple : p ≤ π.length
  ahead : ∀ q, p ≤ q → q < π.length → isA P l (π.getD q 0) = false → listed.getD (π.getD q 0) false = false
  behind : ∀ q, q < p → isF P l (π.getD q 0) = false → listed.getD (π.getD q 0) false = true
  past : m < p → ∀ q, q < p → listed.getD (π.getD q 0) false = true
  rel : HRel w₀ ψ ga w
  sub : Sub g ga
  sub0 : p ≤ m → Sub h₀ ga
  ev : iOps P w₀ l h₀ (m - p) ((permL l π).drop p) S g K
  fact : ∀ q o, q < p → l[π.getD q 0]? = some o → listed.getD (π.getD q 0) false = false → ∃ V, (∀ t, o.dst = some t → S.get t = V) ∧ FactR P w₀ n l g S o V
  early : ∀ q o, p ≤ q → q < π.length → l[π.getD q 0]? = some o → isA P l (π.getD q 0) = true → listed.getD (π.getD q 0) false = true → ∃ cs k, allocOf P o = some cs ∧ h₀ k = none ∧ ga k = some ⟨cs, 0⟩ ∧ ∀ t, o.dst = some t → VR ψ (.ptr (.own k) 0) (a.tmps.getD t undef)
  slot : ∀ t, (∃ q o, q < π.length ∧ l[π.getD q 0]? = some o ∧ o.dst = some t ∧ ((q < p ∧ listed.getD (π.getD q 0) false = false) ∨ (p ≤ q ∧ listed.getD (π.getD q 0) false = true))) ∨ VR ψ (S.get t) (a.tmps.getD t undef)

theorem isF_isA {l : List Oper} {i : Nat} (h : isF P l i = true) (hi : i < l.length) : isA P l i = false := by
  unfold isF at h
  unfold isA
  rw [List.getElem?_eq_getElem hi] at h ⊢
  simp only [beq_iff_eq] at h ⊢
  cases hop : l[i].op <;> simp only [hop, kindF] at h ⊢ <;> simp
  cases h

theorem settle_run {l : List Oper} (hall : dstsOk n l = true) {π : List Nat} {m : Nat} (F : FloatQ P l π m) {h₀ : AHeap} {K : Slots → AHeap → Prop} {listed : Array Bool} {ψ : PMap} {a : Act} {w : World} : ∀ (d p : Nat) (S : Slots) (g ga : AHeap), π.length - p = d → PreP P w₀ n l π m h₀ K listed ψ a w p S g ga →
    ∃ p' S' g' ga', PreP P w₀ n l π m h₀ K listed ψ a w p' S' g' ga' ∧ (p' < π.length → isF P l (π.getD p' 0) = false ∧ listed.getD (π.getD p' 0) false = false) := by
  intro d
  induction d with
  | zero => intro p S g ga hd pre; exact ⟨p, S, g, ga, pre, fun h => by omega⟩
  | succ d ih =>
    intro p S g ga hd pre
    have hpl : p < π.length := by omega
    obtain ⟨o, ho⟩ : ∃ o, l[π.getD p 0]? = some o := ⟨_, List.getElem?_eq_getElem (F.inr p hpl)⟩
    have hev := pre.ev
    have notlook : ∀ q oq, q ≤ p → l[π.getD q 0]? = some oq → ∀ t, o.dst = some t → t ∉ looksL l oq := fun q oq h1 h2 t h3 ht => by
      have := (F.data q p oq o t (by omega) hpl h2 ho h3 ht).1
      omega
    have uniq : ∀ q oq t, q ≠ p → q < π.length → l[π.getD q 0]? = some oq → oq.dst = some t → o.dst ≠ some t := fun q oq t h1 h2 h3 h4 e => by
      have := ((orderB_spec F.order ho).2 _ oq t h3 h4).1 e
      exact h1 (F.inj p q hpl h2 this).symm
    cases hf : isF P l (π.getD p 0) with
    | true =>
      have hpm : p < m := by
        refine Nat.lt_of_not_le fun h => ?_
        rw [(F.tail p h hpl).1] at hf
        cases hf
      have hk2 : kindF P o.op = 2 := by
        unfold isF at hf
        rw [ho] at hf
        simpa using hf
      have hna := isF_isA hf (F.inr p hpl)
      rw [permL_drop F.inr hpl ho, show m - p = (m - (p + 1)) + 1 by omega] at hev
      simp only [iOps, not_isA ho hna, hk2, if_true] at hev
      obtain ⟨V, ⟨_, hv⟩, hfact⟩ := fact_of hall hk2 hev
      have hun := pre.ahead p (Nat.le_refl _) hpl hna
      refine ih (p + 1) (putD S o.dst V) g ga (by omega) ⟨pre.size, pre.closed, pre.tsize, pre.defers, by omega, fun q h1 h2 h3 => pre.ahead q (by omega) h2 h3, fun q h1 h2 => ?_, fun hm => by omega, pre.rel, pre.sub, fun _ => pre.sub0 (by omega), hv, fun q oq h1 h2 h3 => ?_, fun q oq h1 h2 h3 h4 h5 => pre.early q oq (by omega) h2 h3 h4 h5, fun t => ?_⟩
      · rcases Nat.eq_or_lt_of_le (Nat.le_of_lt_succ h1) with e | e
        · subst e; rw [hf] at h2; cases h2
        · exact pre.behind q e h2
      · rcases Nat.eq_or_lt_of_le (Nat.le_of_lt_succ h1) with e | e
        · subst e
          rw [ho] at h2
          obtain rfl := Option.some.inj h2
          exact ⟨V, fun t ht => by rw [put_get, if_pos ht], hfact.slots fun t ht => by rw [put_get, if_neg fun e => notlook q o (Nat.le_refl _) ho t e ht]⟩
        · obtain ⟨V', v1, v2⟩ := pre.fact q oq e h2 h3
          refine ⟨V', fun t ht => ?_, v2.slots fun t ht => ?_⟩
          · rw [put_get, if_neg (uniq q oq t (by omega) (by omega) h2 ht)]; exact v1 t ht
          · rw [put_get, if_neg fun e' => notlook q oq (by omega) h2 t e' ht]
      · by_cases hod : o.dst = some t
        · exact .inl ⟨p, o, hpl, ho, hod, .inl ⟨by omega, hun⟩⟩
        · rcases pre.slot t with ⟨q, oq, c1, c2, c3, c4⟩ | c
          · refine .inl ⟨q, oq, c1, c2, c3, ?_⟩
            rcases c4 with ⟨c4, c5⟩ | ⟨c4, c5⟩
            · exact .inl ⟨by omega, c5⟩
            · refine .inr ⟨?_, c5⟩
              rcases Nat.eq_or_lt_of_le c4 with e | e
              · subst e; rw [hun] at c5; cases c5
              · exact e
          · right
            rw [put_get, if_neg hod]
            exact c
    | false =>
      cases hl : listed.getD (π.getD p 0) false with
      | false => exact ⟨p, S, g, ga, pre, fun _ => ⟨hf, hl⟩⟩
      | true =>
        have hA : isA P l (π.getD p 0) = true := by
          cases hA : isA P l (π.getD p 0) with
          | true => rfl
          | false => rw [pre.ahead p (Nat.le_refl _) hpl hA] at hl; cases hl
        have hpm : p < m := by
          refine Nat.lt_of_not_le fun h => ?_
          rw [(F.tail p h hpl).2] at hA
          cases hA
        obtain ⟨cs, k, e1, e2, e3, e4⟩ := pre.early p o (Nat.le_refl _) hpl ho hA hl
        rw [permL_drop F.inr hpl ho, show m - p = (m - (p + 1)) + 1 by omega] at hev
        simp only [iOps, e1] at hev
        refine ih (p + 1) (putD S o.dst (.ptr (.own k) 0)) ga ga (by omega) ⟨pre.size, pre.closed, pre.tsize, pre.defers, by omega, fun q h1 h2 h3 => pre.ahead q (by omega) h2 h3, fun q h1 h2 => ?_, fun hm => by omega, pre.rel, Sub.refl _, fun _ => pre.sub0 (by omega), hev k ga e2 pre.sub e3, fun q oq h1 h2 h3 => ?_, fun q oq h1 h2 h3 h4 h5 => pre.early q oq (by omega) h2 h3 h4 h5, fun t => ?_⟩
        · rcases Nat.eq_or_lt_of_le (Nat.le_of_lt_succ h1) with e | e
          · subst e; exact hl
          · exact pre.behind q e h2
        · rcases Nat.eq_or_lt_of_le (Nat.le_of_lt_succ h1) with e | e
          · subst e; rw [hl] at h3; cases h3
          · obtain ⟨V', v1, v2⟩ := pre.fact q oq e h2 h3
            refine ⟨V', fun t ht => ?_, (v2.sub pre.sub).slots fun t ht => ?_⟩
            · rw [put_get, if_neg (uniq q oq t (by omega) (by omega) h2 ht)]; exact v1 t ht
            · rw [put_get, if_neg fun e' => notlook q oq (by omega) h2 t e' ht]
        · by_cases hod : o.dst = some t
          · right
            rw [put_get, if_pos hod]
            exact e4 t hod
          · rcases pre.slot t with ⟨q, oq, c1, c2, c3, c4⟩ | c
            · refine .inl ⟨q, oq, c1, c2, c3, ?_⟩
              rcases c4 with ⟨c4, c5⟩ | ⟨c4, c5⟩
              · exact .inl ⟨by omega, c5⟩
              · refine .inr ⟨?_, c5⟩
                rcases Nat.eq_or_lt_of_le c4 with e | e
                · subst e; rw [ho] at c2; obtain rfl := Option.some.inj c2; exact absurd c3 hod
                · exact e
            · right
              rw [put_get, if_neg hod]
              exact c

def PhaseI (P : Program) (w₀ : World) (n : FrameK) (l : List Oper) (π : List Nat) (m : Nat) (h₀ : AHeap) (K : Slots → AHeap → Prop) (listed : Array Bool) (ψ : PMap) (a : Act) (w : World) : Prop :=
  ∃ p S g ga, PreP P w₀ n l π m h₀ K listed ψ a w p S g ga ∧ (p < π.length → isF P l (π.getD p 0) = false ∧ listed.getD (π.getD p 0) false = false)

theorem any_okI {l : List Oper} (hall : dstsOk n l = true) {π : List Nat} {m : Nat} (F : FloatQ P l π m) {h₀ : AHeap} {K : Slots → AHeap → Prop} {φ : PMap} {Q : Exit → Act → World → Prop}
    (hq : ∀ ψ S g a w, φ.le ψ → HRel w₀ ψ g w → SRel ψ n S a → K S g → Q .normal a w) : ∀ (fuel : Nat) (listed : Array Bool) (a : Act) (w : World) (ψ : PMap), φ.le ψ → PhaseI P w₀ n l π m h₀ K listed ψ a w →
    (listed.toList.filter (!·)).length ≤ fuel → wpAny P .any l.toArray Q fuel listed a w := by
  have hB := F.order
  have fin : ∀ (listed : Array Bool) (a : Act) (w : World) (ψ : PMap), φ.le ψ → PhaseI P w₀ n l π m h₀ K listed ψ a w → Region.ready .any l.toArray listed = [] → Q .normal a w := by
    rintro listed a w ψ hle ⟨p, S, g, ga, pre, stop⟩ hrd
    have hal := all_listed hB pre.size hrd
    have hp : p = π.length := by
      rcases Nat.eq_or_lt_of_le pre.ple with e | e
      · exact e
      · have := (stop e).2
        rw [hal _ (F.inr p e)] at this
        cases this
    subst hp
    have hev := pre.ev
    rw [show (permL l π).drop π.length = [] by rw [← permL_length F.inr]; simp, iOps_nil] at hev
    refine hq ψ S g a w hle (pre.rel.forget pre.sub) ⟨pre.tsize, pre.defers, fun t => ?_⟩ hev
    rcases pre.slot t with ⟨q, o, c1, c2, c3, c4⟩ | c
    · rcases c4 with ⟨_, c5⟩ | ⟨c4, _⟩
      · rw [hal _ (F.inr q c1)] at c5; cases c5
      · omega
    · exact c
  intro fuel
  induction fuel with
  | zero =>
    intro listed a w ψ hle inv hc
    have hrd : Region.ready .any l.toArray listed = [] := by
      cases hrd : Region.ready .any l.toArray listed with
      | nil => rfl
      | cons i r =>
        exfalso
        have hm : i ∈ Region.ready .any l.toArray listed := by rw [hrd]; exact List.mem_cons_self
        obtain ⟨h1, o, ho, _⟩ := mem_ready.1 hm
        have hi : i < listed.size := by
          have : l[i]? = some o := by simpa using ho
          obtain ⟨_, _, _, _, pre, _⟩ := inv
          rw [pre.size]; exact (List.getElem?_eq_some_iff.1 this).1
        have h2 : listed.toList[i]? = some false := by
          simp [Array.getD, hi] at h1
          simp [hi, h1]
        have := List.mem_of_getElem? h2
        have hmem : false ∈ listed.toList.filter (!·) := by simp [List.mem_filter, this]
        have := List.length_pos_of_mem hmem
        omega
    exact ⟨hrd, fin listed a w ψ hle inv hrd⟩
  | succ fuel ih =>
    intro listed a w ψ hle inv hc
    refine ⟨fun hrd => fin listed a w ψ hle inv hrd, fun i hi => ?_⟩
    obtain ⟨p, S, g, ga, pre, stop⟩ := inv
    obtain ⟨h1, o, ho, hedges⟩ := mem_ready.1 hi
    have hol : l[i]? = some o := by simpa using ho
    have hilt : i < l.length := (List.getElem?_eq_some_iff.1 hol).1
    have hisz : i < listed.size := by rw [pre.size]; exact hilt
    have hif : listed.getD i false = false := by simp [Array.getD, hisz] at h1 ⊢; exact h1
    have hcount : ((listed.setIfInBounds i true).toList.filter (!·)).length ≤ fuel := by
      have h2 : listed.toList[i]? = some false := by
        simp [Array.getD, hisz] at h1
        simp [hisz, h1]
      have := count_set listed.toList i h2
      have e : (listed.setIfInBounds i true).toList = listed.toList.set i true := by simp
      rw [e]
      omega
    have hdn : ∀ d, o.dst = some d → d < n := fun d hd => nth_lt l i d hall (by rw [nthDst_eq, hol]; exact hd)
    obtain ⟨q, hql, hqi⟩ := F.onto i hilt
    have hoq : l[π.getD q 0]? = some o := by rw [hqi]; exact hol
    have looks : q ≤ p → LookOk ψ n l o S a := fun hqp => ⟨pre.tsize, pre.defers, fun t ht => by
      rcases pre.slot t with ⟨r, oj, c1, c2, c3, c4⟩ | c
      · exfalso
        have := F.data q r o oj t hql c1 hoq c2 c3 ht
        have hw := this.2
        rw [hqi] at hw
        rcases c4 with ⟨_, c5⟩ | ⟨c4, _⟩
        · rw [waits_listed hol hedges hw] at c5
          cases c5
        · omega
      · exact c⟩
    have closed' : ∀ j oj, l[j]? = some oj → (listed.setIfInBounds i true).getD j false = true → ∀ e ∈ oj.after, Region.binds .any e = true → (listed.setIfInBounds i true).getD e.on false = true := fun j oj hj hl e he hb => by
      by_cases e1 : e.on = i
      · rw [e1]; exact set_self hisz
      · rw [set_other e1]
        by_cases e2 : j = i
        · subst e2
          rw [hol] at hj
          obtain rfl := Option.some.inj hj
          exact hedges e he hb
        · rw [set_other e2] at hl
          exact pre.closed j oj hj hl e he hb
    have other : ∀ r, r < π.length → r ≠ q → (listed.setIfInBounds i true).getD (π.getD r 0) false = listed.getD (π.getD r 0) false := fun r hr hne => set_other fun e => hne (F.inj r q hr hql (by rw [e, hqi]))
    have self : (listed.setIfInBounds i true).getD (π.getD q 0) false = true := by rw [hqi]; exact set_self hisz
    have uniqd : ∀ r or t, r < π.length → r ≠ q → l[π.getD r 0]? = some or → or.dst = some t → o.dst ≠ some t := fun r or t h1 h2 h3 h4 e => by
      have := ((orderB_spec hB hoq).2 _ or t h3 h4).1 e
      exact h2 (F.inj q r hql h1 this).symm
    have nobehind : isA P l (π.getD q 0) = false → p < q → False := fun hna hpq => by
      obtain ⟨s1, s2⟩ := stop (by omega)
      obtain ⟨r, r1, r2, r4, r3⟩ := F.wait q p hql hpq hna s1
      rw [hqi] at r3
      have hr := waits_listed hol hedges r3
      rcases r4 with e | e
      · subst e; rw [s2] at hr; cases hr
      · rw [pre.ahead r r1 (by omega) e] at hr; cases hr
    have goal : (if Region.wanted o (yielded l.toArray a.tmps) = true then o.wp P a w (wpAny P .any l.toArray Q fuel (listed.setIfInBounds i true)) Q else wpAny P .any l.toArray Q fuel (listed.setIfInBounds i true) (a.put o.dst undef) w) := by
      cases hqa : isA P l (π.getD q 0) with
      | true =>
        -- a new block
        obtain ⟨cs, hcs⟩ := isA_alloc hoq hqa
        obtain ⟨hg, e, z, hop, hz, hcz⟩ := allocOf_spec hcs
        have hw : Region.wanted o (yielded l.toArray a.tmps) = true := by simp [Region.wanted, hg]
        rw [if_pos hw]
        have hnf : isF P l (π.getD q 0) = false := by
          cases hf : isF P l (π.getD q 0) with
          | false => rfl
          | true => rw [isF_isA hf (F.inr q hql)] at hqa; cases hqa
        have hpq : p ≤ q := by
          refine Nat.le_of_not_lt fun hlt => ?_
          have := pre.behind q hlt hnf
          rw [hqi, hif] at this
          cases this
        have hqm : q < m := by
          refine Nat.lt_of_not_le fun h => ?_
          rw [(F.tail q h hql).2] at hqa
          cases hqa
        have hs : SRel ψ n (S.keep []) a := ⟨pre.tsize, pre.defers, fun t => by rw [Slots.get_keep, if_neg (by simp)]; trivial⟩
        refine eop_ok o (s := S.keep []) (h := ga) (K := fun x h' => ∃ k, ga k = none ∧ x = .ptr (.own k) 0 ∧ h' = ga.set k ⟨cs, 0⟩) (by
          rw [hop]
          simp only [eop, hz]
          intro k hk
          exact ⟨k, hk, rfl, by rw [hcz]⟩) pre.rel hs fun ψ' x h' v w' e1 e2 e3 ⟨k, k1, k2, k3⟩ => ?_
        subst k2 k3
        have hsub : Sub ga (ga.set k ⟨cs, 0⟩) := Sub.set k1
        have pre' : PreP P w₀ n l π m h₀ K (listed.setIfInBounds i true) ψ' (a.put o.dst v) w' p S g (ga.set k ⟨cs, 0⟩) := by
          refine ⟨by simp [pre.size], closed', by rw [put_size]; exact pre.tsize, by rw [put_defers]; exact pre.defers, pre.ple, fun r r1 r2 r3 => ?_, fun r r1 r2 => ?_, fun hm => by omega, e2, Sub.trans pre.sub hsub, fun hm => Sub.trans (pre.sub0 hm) hsub, pre.ev, fun r oj r1 r2 r3 => ?_, fun r oj r1 r2 r3 r4 r5 => ?_, fun t => ?_⟩
          · have hne : r ≠ q := fun e => by subst e; rw [hqa] at r3; cases r3
            rw [other r r2 hne]; exact pre.ahead r r1 r2 r3
          · rw [other r (by have := pre.ple; omega) (by omega)]; exact pre.behind r r1 r2
          · rw [other r (by have := pre.ple; omega) (by omega)] at r3
            exact pre.fact r oj r1 r2 r3
          · by_cases er : r = q
            · subst er
              rw [hoq] at r3
              obtain rfl := Option.some.inj r3
              refine ⟨cs, k, hcs, (pre.sub0 (by omega)).none k1, AHeap.set_same _ _ _, fun t ht => ?_⟩
              rw [put_get_eq a ht (by rw [pre.tsize]; exact hdn t ht)]
              exact e3
            · rw [other r r2 er] at r5
              obtain ⟨cs', k', q1, q2, q3, q4⟩ := pre.early r oj r1 r2 r3 r4 r5
              refine ⟨cs', k', q1, q2, hsub _ _ q3, fun t ht => ?_⟩
              rw [put_get_ne a (uniqd r oj t r2 er r3 ht)]
              exact VR_mono e1 _ _ (q4 t ht)
          · by_cases hod : o.dst = some t
            · exact .inl ⟨q, o, hql, hoq, hod, .inr ⟨hpq, self⟩⟩
            · rcases pre.slot t with ⟨r, oj, c1, c2, c3, c4⟩ | c
              · have hne : r ≠ q := fun e => by subst e; rw [hoq] at c2; obtain rfl := Option.some.inj c2; exact hod c3
                exact .inl ⟨r, oj, c1, c2, c3, by rw [other r c1 hne]; exact c4⟩
              · right
                rw [put_get_ne a hod]
                exact VR_mono e1 _ _ c
        obtain ⟨p', S', g', ga', pre2, stop2⟩ := settle_run hall F _ _ _ _ _ rfl pre'
        exact ih _ _ _ ψ' (PMap.le_trans hle e1) ⟨p', S', g', ga', pre2, stop2⟩ hcount
      | false =>
        rcases Nat.lt_or_ge q p with hqp | hqp
        · -- a reading operation
          obtain ⟨V, v1, v2⟩ := pre.fact q o hqp hoq (by rw [hqi]; exact hif)
          refine v2 ψ w a ga _ Q pre.sub pre.rel (looks (by omega)) fun v hv => ?_
          refine ih _ _ _ ψ hle ⟨p, S, g, ga, ⟨by simp [pre.size], closed', by rw [put_size]; exact pre.tsize, by rw [put_defers]; exact pre.defers, pre.ple, fun r r1 r2 r3 => ?_, fun r r1 r2 => ?_, fun hm r r1 => ?_, pre.rel, pre.sub, pre.sub0, pre.ev, fun r oj r1 r2 r3 => ?_, fun r oj r1 r2 r3 r4 r5 => ?_, fun t => ?_⟩, fun hp => ?_⟩ hcount
          · rw [other r r2 (by omega)]; exact pre.ahead r r1 r2 r3
          · by_cases e : r = q
            · rw [e]; exact self
            · rw [other r (by have := pre.ple; omega) e]; exact pre.behind r r1 r2
          · by_cases e : r = q
            · rw [e]; exact self
            · rw [other r (by have := pre.ple; omega) e]; exact pre.past hm r r1
          · by_cases e : r = q
            · rw [e, self] at r3; cases r3
            · rw [other r (by have := pre.ple; omega) e] at r3
              exact pre.fact r oj r1 r2 r3
          · rw [other r r2 (by omega)] at r5
            obtain ⟨cs', k', q1, q2, q3, q4⟩ := pre.early r oj r1 r2 r3 r4 r5
            refine ⟨cs', k', q1, q2, q3, fun t ht => ?_⟩
            rw [put_get_ne a (uniqd r oj t r2 (by omega) r3 ht)]
            exact q4 t ht
          · by_cases hod : o.dst = some t
            · right
              rw [v1 t hod, put_get_eq a hod (by rw [pre.tsize]; exact hdn t hod)]
              exact hv
            · rcases pre.slot t with ⟨r, oj, c1, c2, c3, c4⟩ | c
              · have hne : r ≠ q := fun e => by subst e; rw [hoq] at c2; obtain rfl := Option.some.inj c2; exact hod c3
                exact .inl ⟨r, oj, c1, c2, c3, by rw [other r c1 hne]; exact c4⟩
              · right
                rw [put_get_ne a hod]
                exact c
          · rw [other p hp (by omega)]; exact stop hp
        · have hqe : q = p := by
            rcases Nat.eq_or_lt_of_le hqp with e | e
            · exact e.symm
            · exact (nobehind hqa e).elim
          subst hqe
          -- a call
          have all_m : m ≤ q → ∀ r, r < q → listed.getD (π.getD r 0) false = true := fun hm r hr => by
            rcases Nat.eq_or_lt_of_le hm with e | e
            · subst e
              have key : ∀ d r, r + d = m → r < m → listed.getD (π.getD r 0) false = true := by
                intro d
                induction d using Nat.strongRecOn with
                | ind d ihd =>
                  intro r hd hr
                  obtain ⟨r', s1, s2, s3⟩ := F.sink hql r hr
                  rcases Nat.eq_or_lt_of_le s2 with e | e
                  · subst e
                    rw [hqi] at s3
                    exact waits_listed hol hedges s3
                  · have hl := ihd (m - r') (by omega) r' (by omega) e
                    obtain ⟨oj, hoj⟩ : ∃ oj, l[π.getD r' 0]? = some oj := ⟨_, List.getElem?_eq_getElem (F.inr r' (by omega))⟩
                    exact waits_listed hoj (pre.closed _ oj hoj hl) s3
              exact key (m - r) r (by omega) hr
            · exact pre.past e r hr
          have hnf : isF P l (π.getD q 0) = false := (stop hql).1
          have hk2 : ¬ kindF P o.op = 2 := fun h2 => by
            unfold isF at hnf
            rw [hoq] at hnf
            simp [h2] at hnf
          obtain ⟨gx, K', ha, relx, hnext⟩ : ∃ (gx : AHeap) (K' : Slots → AHeap → Prop), aOps P w₀ l [o] S gx K' ∧ HRel w₀ ψ gx w ∧ ∀ s' h', K' s' h' → (q < m → Sub ga h') ∧ iOps P w₀ l h₀ (m - (q + 1)) ((permL l π).drop (q + 1)) s' h' K := by
            have hev := pre.ev
            rw [permL_drop F.inr hql hoq] at hev
            by_cases c : q < m
            · rw [show m - q = (m - (q + 1)) + 1 by omega] at hev
              simp only [iOps, not_isA hoq hqa, hk2, if_false] at hev
              exact ⟨ga, _, hev ga pre.sub, pre.rel, fun s' h' hx => ⟨fun _ => hx.1, hx.2⟩⟩
            · rw [show m - q = 0 by omega, iOps_zero] at hev
              refine ⟨g, _, aOps_one hev, pre.rel.forget pre.sub, fun s' h' hx => ⟨fun hc => absurd hc c, ?_⟩⟩
              rw [show m - (q + 1) = 0 by omega]
              cases hdr : (permL l π).drop (q + 1) with
              | nil => rw [hdr] at hx; rw [iOps_nil]; exact hx
              | cons o' r' => rw [hdr] at hx; exact hx
          refine one_ok hall ha relx (looks (Nat.le_refl _)) fun ψ' x h' v w' e1 e2 e3 hk => ?_
          obtain ⟨k1, k2⟩ := hnext _ _ hk
          have pre' : PreP P w₀ n l π m h₀ K (listed.setIfInBounds i true) ψ' (a.put o.dst v) w' (q + 1) (putD S o.dst x) h' h' := by
            refine ⟨by simp [pre.size], closed', by rw [put_size]; exact pre.tsize, by rw [put_defers]; exact pre.defers, by omega, fun r r1 r2 r3 => ?_, fun r r1 r2 => ?_, fun hm r r1 => ?_, e2, Sub.refl _, fun hm => Sub.trans (pre.sub0 (by omega)) (k1 (by omega)), k2, fun r oj r1 r2 r3 => ?_, fun r oj r1 r2 r3 r4 r5 => ?_, fun t => ?_⟩
            · rw [other r r2 (by omega)]; exact pre.ahead r (by omega) r2 r3
            · by_cases e : r = q
              · rw [e]; exact self
              · rw [other r (by omega) e]; exact pre.behind r (by omega) r2
            · by_cases e : r = q
              · rw [e]; exact self
              · rw [other r (by omega) e]; exact all_m (by omega) r (by omega)
            · by_cases e : r = q
              · rw [e, self] at r3; cases r3
              · rw [other r (by omega) e] at r3
                have hrq : r < q := by omega
                obtain ⟨V, v1, v2⟩ := pre.fact r oj hrq r2 r3
                have hqm : q < m := by
                  refine Nat.lt_of_not_le fun hm => ?_
                  rw [all_m hm r hrq] at r3
                  cases r3
                refine ⟨V, fun t ht => ?_, (v2.sub (Sub.trans pre.sub (k1 hqm))).slots fun t ht => ?_⟩
                · rw [put_get, if_neg (uniqd r oj t (by omega) e r2 ht)]; exact v1 t ht
                · rw [put_get, if_neg fun e' => by
                    have := (F.data r q oj o t (by omega) hql r2 hoq e' ht).1
                    omega]
            · have hrm : r < m := by
                refine Nat.lt_of_not_le fun h => ?_
                rw [(F.tail r h r2).2] at r4
                cases r4
              rw [other r r2 (by omega)] at r5
              obtain ⟨cs', k', q1, q2, q3, q4⟩ := pre.early r oj (by omega) r2 r3 r4 r5
              refine ⟨cs', k', q1, q2, k1 (by omega) _ _ q3, fun t ht => ?_⟩
              rw [put_get_ne a (uniqd r oj t r2 (by omega) r3 ht)]
              exact VR_mono e1 _ _ (q4 t ht)
            · by_cases hod : o.dst = some t
              · right
                rw [put_get, if_pos hod, put_get_eq a hod (by rw [pre.tsize]; exact hdn t hod)]
                exact e3
              · rcases pre.slot t with ⟨r, oj, c1, c2, c3, c4⟩ | c
                · have hne : r ≠ q := fun e => by subst e; rw [hoq] at c2; obtain rfl := Option.some.inj c2; exact hod c3
                  refine .inl ⟨r, oj, c1, c2, c3, ?_⟩
                  rw [other r c1 hne]
                  rcases c4 with ⟨c4, c5⟩ | ⟨c4, c5⟩
                  · exact .inl ⟨by omega, c5⟩
                  · exact .inr ⟨by omega, c5⟩
                · right
                  rw [put_get, if_neg hod, put_get_ne a hod]
                  exact VR_mono e1 _ _ c
          obtain ⟨p', S', g', ga', pre2, stop2⟩ := settle_run hall F _ _ _ _ _ rfl pre'
          exact ih _ _ _ ψ' (PMap.le_trans hle e1) ⟨p', S', g', ga', pre2, stop2⟩ hcount
    simp only [wpOp, ho]
    split
    · rename_i hw
      rw [if_pos hw] at goal
      exact .inl goal
    · rename_i hw
      rw [if_neg hw] at goal
      exact goal

/-- A statement of open order: reading operations in any order, new blocks laid at any time ahead of their use, the others chained; of these the first leave what is told of the heap. -/
theorem awp_draw_I {Q : Exit → Slots → AHeap → Prop} {s : Slots} {h : AHeap} {id : Nat} {l : List Oper} (π : List Nat) (ws : List (Option Nat)) (m : Nat) (hm : P.follows .mixedOrders = true) (hB : floatI P l π ws m = true) (hd : dstsOk n l = true)
    (hc : iOps P w₀ l h m (permL l π) s h fun s' h' => Q .normal s' h') : Awp P w₀ n (.region id l.toArray true) Q s h := by
  refine Awp.of0 ?_
  intro φ a w hr hs
  have F := floatI_spec hB
  refine wp_region_any hm ?_
  have hf : ∀ j, (Array.replicate l.toArray.size false).getD j false = false := fun j => by simp [Array.getD]
  have pre : PreP P w₀ n l π m h (fun s' h' => Q .normal s' h') (Array.replicate l.toArray.size false) φ a w.drew 0 s h h :=
    ⟨by simp, fun j oj _ hl => (by rw [hf] at hl; cases hl), hs.size, hs.defers, Nat.zero_le _, fun q _ _ _ => hf _, fun q h1 => by omega, fun h1 => by omega, hr.drew, Sub.refl _, fun _ => Sub.refl _, by rw [Nat.sub_zero, List.drop_zero]; exact hc, fun q o h1 => by omega, fun q o _ _ _ _ h5 => (by rw [hf] at h5; cases h5), fun t => .inr (hs.val t)⟩
  obtain ⟨p', S', g', ga', pre2, stop2⟩ := settle_run hd F _ _ _ _ _ rfl pre
  refine any_okI (φ := φ) hd F (K := fun s' h' => Q .normal s' h') (fun ψ S g a' w' hle h1 h2 h3 => ⟨ψ, S, g, hle, h1, h2, h3⟩) _ _ _ _ φ φ.le_refl ⟨p', S', g', ga', pre2, stop2⟩ ?_
  have := List.length_filter_le (!·) (Array.replicate l.toArray.size false).toList
  simpa using this

theorem awp_dseq_I {Q : Exit → Slots → AHeap → Prop} {s : Slots} {h : AHeap} {id : Nat} {l : List Oper} {y : Code} (π : List Nat) (ws : List (Option Nat)) (m : Nat) (L : List Nat) (hm : P.follows .mixedOrders = true) (hB : floatI P l π ws m = true) (hd : dstsOk n l = true)
    (hc : ∀ K : Slots → AHeap → Prop, (∀ s h, Awp P w₀ n y Q s h → K s h) → iOps P w₀ l h m (permL l π) s h fun s' h' => K (s'.keep L) h') : Awp P w₀ n (.seq (.region id l.toArray true) y) Q s h :=
  awp_seq (awp_draw_I π ws m hm hB hd (iOps_mono (fun _ _ hk => Awp.keep L hk) (hc (fun s h => Awp P w₀ n y Q s h) (fun _ _ hk => hk))))
end
end Go.AM

/-
  An assertion layer over the model's wp, part BA: slices of elements of several cells.
  Conditions: none. Nothing here is about a particular program.
-/
namespace Go.AM

/-! ### The rest of a body -/
def bodyOf (fn : Func) : Code := match fn.body with
  | some c => c
  | none => .skip
def dropSeq : Nat → Code → Code
  | 0, c => c
  | k + 1, .seq _ c => dropSeq k c
  | _ + 1, c => c

/-! ### A value that holds a row of elements, es cells each -/
inductive IsL (w₀ : World) (h : AHeap) (es : Nat) : AVal → List (List AVal) → Prop
  | nil : IsL w₀ h es .nilSlice []
  | mk (l : Loc) (o n : Nat) (c : Cap) (xs : List (List AVal)) (hn : n = xs.length) (hw : ∀ x ∈ xs, x.length = es) (hc : cellsAt w₀ h l o (n * es) = xs.flatten) (hl : allLive xs.flatten = true) (hcap : match c with | .exact c => n ≤ c | .grow g => g = es) : IsL w₀ h es (.slice l o n c) xs

theorem flatten_len {α : Type} {es : Nat} : ∀ {xs : List (List α)}, (∀ x ∈ xs, x.length = es) → xs.flatten.length = xs.length * es
  | [], _ => by simp
  | x :: xs, h => by
    rw [List.flatten_cons, List.length_append, flatten_len (fun y hy => h y (List.mem_cons_of_mem _ hy)), h x (List.mem_cons_self), List.length_cons, Nat.succ_mul, Nat.add_comm]
theorem flatten_get {α : Type} {es : Nat} : ∀ {xs : List (List α)}, (∀ x ∈ xs, x.length = es) → ∀ {i j : Nat}, i < xs.length → j < es → xs.flatten[i * es + j]? = (xs.getD i [])[j]?
  | [], _, _, _, hi, _ => by simp at hi
  | x :: xs, h, 0, j, _, hj => by
    rw [List.flatten_cons, Nat.zero_mul, Nat.zero_add, List.getElem?_append_left (by rw [h x List.mem_cons_self]; exact hj)]
    rfl
  | x :: xs, h, i + 1, j, hi, hj => by
    have hx := h x List.mem_cons_self
    rw [List.flatten_cons, List.getElem?_append_right (by rw [hx, Nat.succ_mul]; omega), hx, show (i + 1) * es + j - es = i * es + j by rw [Nat.succ_mul]; omega, flatten_get (fun y hy => h y (List.mem_cons_of_mem _ hy)) (by simpa using hi) hj]
    rfl
theorem flatten_drop {α : Type} {es : Nat} : ∀ {xs : List (List α)}, (∀ x ∈ xs, x.length = es) → ∀ i, xs.flatten.drop (i * es) = (xs.drop i).flatten
  | xs, _, 0 => by simp
  | [], _, i + 1 => by simp
  | x :: xs, h, i + 1 => by
    have hx := h x List.mem_cons_self
    rw [List.flatten_cons, List.drop_succ_cons, ← flatten_drop (fun y hy => h y (List.mem_cons_of_mem _ hy)) i, Nat.succ_mul, List.drop_append, List.drop_of_length_le (by omega), List.nil_append, show i * es + es - x.length = i * es by omega]
theorem flatten_take {α : Type} {es : Nat} : ∀ {xs : List (List α)}, (∀ x ∈ xs, x.length = es) → ∀ i, xs.flatten.take (i * es) = (xs.take i).flatten
  | xs, _, 0 => by simp
  | [], _, i + 1 => by simp
  | x :: xs, h, i + 1 => by
    have hx := h x List.mem_cons_self
    rw [List.flatten_cons, List.take_succ_cons, List.flatten_cons, ← flatten_take (fun y hy => h y (List.mem_cons_of_mem _ hy)) i, Nat.succ_mul, Nat.add_comm, List.take_append, List.take_of_length_le (by omega), show es + i * es - x.length = i * es by omega]
theorem allLive_append : ∀ (a c : List AVal), allLive (a ++ c) = (allLive a && allLive c)
  | [], _ => rfl
  | x :: a, c => by simp [allLive, allLive_append a c, Bool.and_assoc]
theorem allLive_flatten : ∀ {xs : List (List AVal)}, allLive xs.flatten = true ↔ ∀ x ∈ xs, allLive x = true
  | [] => by simp [allLive]
  | x :: xs => by
    rw [List.flatten_cons, allLive_append, Bool.and_eq_true, allLive_flatten]
    simp
theorem allScal_append : ∀ (a c : List AVal), allScal (a ++ c) = (allScal a && allScal c)
  | [], _ => rfl
  | x :: a, c => by simp [allScal, allScal_append a c, Bool.and_assoc]
theorem allScal_flatten : ∀ {xs : List (List AVal)}, allScal xs.flatten = true ↔ ∀ x ∈ xs, allScal x = true
  | [] => by simp [allScal]
  | x :: xs => by
    rw [List.flatten_cons, allScal_append, Bool.and_eq_true, allScal_flatten]
    simp
theorem scal_live {x : AVal} (h : x.scal = true) : x.live = true := by cases x <;> first | rfl | cases h
/-- A part of a slice. -/
def subL (es : Nat) : AVal → Nat → Nat → AVal
  | .slice l o _ (.exact c), i, j => .slice l (o + i * es) (j - i) (.exact (c - i))
  | .slice l o _ (.grow g), i, j => .slice l (o + i * es) (j - i) (.grow g)
  | v, _, _ => v
section
variable {P : Program} {w₀ : World} {h : AHeap} {es : Nat} {v : AVal} {xs : List (List AVal)}

theorem IsL.live (hb : IsL w₀ h es v xs) : v.live = true := by cases hb <;> rfl
theorem IsL.scal (hb : IsL w₀ h es v xs) : v.scal = true := by cases hb <;> rfl
theorem IsL.cells (hb : IsL w₀ h es v xs) : v.cells = [v] := by cases hb <;> rfl
theorem IsL.wide (hb : IsL w₀ h es v xs) : ∀ x ∈ xs, x.length = es := by
  cases hb with
  | nil => simp
  | mk l o n c xs hn hw hc hl hcap => exact hw
theorem IsL.allLive (hb : IsL w₀ h es v xs) : allLive xs.flatten = true := by
  cases hb with
  | nil => rfl
  | mk l o n c xs hn hw hc hl hcap => exact hl
theorem IsL.len (hb : IsL w₀ h es v xs) {t e : TypeId} (ht : P.underlying t = some (.slice e)) : ∀ H : AHeap, pLenH P H t v = ⟨True, .int .i64 xs.length⟩ := by
  intro H
  cases hb with
  | nil => simp [pLenH, isMapTy, pLen, ht]
  | mk l o n c xs hn hw hc hl hcap => simp [pLenH, isMapTy, pLen, ht, hn]
theorem IsL.open (hb : IsL w₀ h es v xs) (hx : xs ≠ []) : ∃ l o c, v = .slice l o xs.length c := by
  cases hb with
  | nil => exact absurd rfl hx
  | mk l o n c xs hn hw hc hl hcap => subst hn; exact ⟨l, o, c, rfl⟩
theorem IsL.part {l : Loc} {o n : Nat} {c : Cap} (hb : IsL w₀ h es (.slice l o n c) xs) {i j : Nat} (hij : i ≤ j) (hj : j ≤ xs.length) : cellsAt w₀ h l (o + i * es) ((j - i) * es) = ((xs.drop i).take (j - i)).flatten := by
  cases hb with
  | mk l o n c xs hn hw hc hl hcap =>
    subst hn
    have h1 : i * es ≤ j * es := Nat.mul_le_mul_right _ hij
    have h2 : j * es ≤ xs.length * es := Nat.mul_le_mul_right _ hj
    rw [Nat.sub_mul, cellsAt_part w₀ h l o (xs.length * es) (i * es) (j * es) h1 h2, hc, flatten_drop hw, ← Nat.sub_mul, flatten_take (fun y hy => hw y (List.mem_of_mem_drop hy))]
theorem IsL.elem {l : Loc} {o n : Nat} {c : Cap} (hb : IsL w₀ h es (.slice l o n c) xs) {i : Nat} (hi : i < xs.length) : cellsAt w₀ h l (o + i * es) es = xs.getD i [] := by
  have := hb.part (i := i) (j := i + 1) (by omega) hi
  rw [show i + 1 - i = 1 by omega, Nat.one_mul] at this
  rw [this, List.take_one, List.head?_drop, List.getElem?_eq_getElem hi]
  simp [List.getD, hi]
theorem IsL.at {l : Loc} {o n : Nat} {c : Cap} (hb : IsL w₀ h es (.slice l o n c) xs) {i j : Nat} (hi : i < xs.length) (hj : j < es) : rd w₀ h l (o + i * es + j) = (xs.getD i []).getD j .dead := by
  have := cellsAt_get w₀ h l es (o + i * es) j hj
  rw [hb.elem hi] at this
  rw [List.getD, this]
  rfl
theorem IsL.at0 {l : Loc} {o n : Nat} {c : Cap} (hb : IsL w₀ h es (.slice l o n c) xs) {i : Nat} (hi : i < xs.length) (hj : 0 < es) : rd w₀ h l (o + i * es) = (xs.getD i []).getD 0 .dead := hb.at (j := 0) hi hj
theorem IsL.elemLive {l : Loc} {o n : Nat} {c : Cap} (hb : IsL w₀ h es (.slice l o n c) xs) {i : Nat} (hi : i < xs.length) : AM.allLive (xs.getD i []) = true := by
  refine allLive_flatten.1 hb.allLive _ ?_
  rw [List.getD, List.getElem?_eq_getElem hi]
  exact List.getElem_mem hi
theorem IsL.sub (hb : IsL w₀ h es v xs) {i j : Nat} (hij : i ≤ j) (hj : j ≤ xs.length) : IsL w₀ h es (subL es v i j) ((xs.drop i).take (j - i)) := by
  have hb' := hb
  cases hb with
  | nil =>
    simp only [subL, List.drop_nil, List.take_nil]
    exact .nil
  | mk l o n c xs hn hw hc hl hcap =>
    subst hn
    have e1 := hb'.part hij hj
    have e2 : AM.allLive ((xs.drop i).take (j - i)).flatten = true := allLive_flatten.2 fun x hx => allLive_flatten.1 hl x (List.mem_of_mem_drop (List.mem_of_mem_take hx))
    cases c with
    | exact c => exact .mk l _ _ _ _ (by simp; omega) (fun x hx => hw x (List.mem_of_mem_drop (List.mem_of_mem_take hx))) e1 e2 (by simp only at hcap ⊢; omega)
    | grow g => exact .mk l _ _ _ _ (by simp; omega) (fun x hx => hw x (List.mem_of_mem_drop (List.mem_of_mem_take hx))) e1 e2 hcap
theorem IsL.slice (hb : IsL w₀ h es v xs) {t e : TypeId} (ht : P.underlying t = some (.slice e)) (hs : szOf P e = some es) (lo hi : Option AVal) {l r : Int} (hl : bndA lo 0 = some l) (hr : bndA hi xs.length = some r)
    (h0 : 0 ≤ l) (h1 : l ≤ r) (h2 : r ≤ xs.length) : pSlice P t v lo hi none = ⟨True, subL es v l.toNat r.toNat⟩ := by
  cases hb with
  | nil =>
    simp only [List.length_nil] at h2 hr
    have e1 : l = 0 := by omega
    have e2 : r = 0 := by omega
    subst e1 e2
    simp only [pSlice, ht, hs, hl, hr, subL, and_self]
  | mk lc o n c xs hn hw hc hl' hcap =>
    subst hn
    have e : (r - l).toNat = r.toNat - l.toNat := by omega
    cases c with
    | exact c =>
      simp only at hcap
      have e3 : ((c : Int) - l).toNat = c - l.toNat := by omega
      have e4 : r ≤ c := by omega
      simp only [pSlice, ht, hs, hl, hr, subL, e, e3, h0, h1, e4, and_self]
    | grow g =>
      simp only at hcap
      subst hcap
      simp only [pSlice, ht, hs, hl, hr, subL, e, h0, h1, h2, and_self]
/-- A slice that has no room behind its elements. -/
def capL : AVal → AVal
  | .slice l o n _ => .slice l o n (.exact n)
  | v => v
theorem IsL.clip (hb : IsL w₀ h es v xs) : IsL w₀ h es (capL v) xs := by
  cases hb with
  | nil => exact .nil
  | mk l o n c xs hn hw hc hl hcap => exact .mk l o n _ xs hn hw hc hl (Nat.le_refl _)
/-- x[:n:n] of a slice of n elements. -/
theorem IsL.slice3 (hb : IsL w₀ h es v xs) {t e : TypeId} (ht : P.underlying t = some (.slice e)) (hs : szOf P e = some es) (k k' : IntKind) (lo : Option AVal) (hl : bndA lo 0 = some 0) : pSlice P t v lo (some (.int k xs.length)) (some (.int k' xs.length)) = ⟨True, capL v⟩ := by
  cases hb with
  | nil => simp only [pSlice, ht, hs, hl, bndA_int, capL, List.length_nil, Option.isSome_some, Int.natCast_zero, and_self]
  | mk lc o n c xs hn hw hc hl' hcap =>
    subst hn
    have z0 : (0 : Int).toNat = 0 := rfl
    have e1 : ((xs.length : Int) - 0).toNat = xs.length := by omega
    cases c with
    | exact c =>
      simp only at hcap
      have e4 : (xs.length : Int) ≤ c := by omega
      simp only [pSlice, ht, hs, hl, bndA_int, capL, z0, e1, Nat.zero_mul, Nat.add_zero, Option.isSome_some, e4, Int.natCast_nonneg, Int.le_refl, and_self]
    | grow g => simp only [pSlice, ht, hs, hl, bndA_int, capL, z0, e1, Nat.zero_mul, Nat.add_zero, Option.isSome_some, Int.natCast_nonneg, Int.le_refl, and_self]
theorem IsL.cap (hb : IsL w₀ h es v xs) {t e : TypeId} (ht : P.underlying t = some (.slice e)) : pCap P t (capL v) = ⟨True, .int .i64 xs.length⟩ := by
  cases hb with
  | nil => simp [pCap, ht, capL]
  | mk l o n c xs hn hw hc hl hcap => simp [pCap, ht, hn, capL]
theorem cellsAt_mono {l : Loc} {h h' : AHeap} (hs : Sub h h') : ∀ (m o : Nat), allLive (cellsAt w₀ h l o m) = true → cellsAt w₀ h' l o m = cellsAt w₀ h l o m := by
  intro m
  induction m with
  | zero => intro o _; rfl
  | succ m ih =>
    intro o hl
    simp only [cellsAt, AM.allLive, Bool.and_eq_true] at hl ⊢
    rw [ih _ hl.2]
    congr 1
    cases l with
    | base b => rfl
    | own k =>
      have hl1 := hl.1
      unfold AM.rd at hl1 ⊢
      cases hk : h k with
      | none => simp [hk, AVal.live] at hl1
      | some b => simp only [hk, hs k b hk]
theorem IsL.mono (hb : IsL w₀ h es v xs) {h' : AHeap} (hs : Sub h h') : IsL w₀ h' es v xs := by
  cases hb with
  | nil => exact .nil
  | mk l o n c xs hn hw hc hl hcap => exact .mk l o n c xs hn hw ((cellsAt_mono hs _ _ (by rw [hc]; exact hl)).trans hc) hl hcap
theorem IsL.own {k : Nat} {b : Blk} (hk : h k = some b) (hw : ∀ x ∈ xs, x.length = es) (hc : b.cells = xs.flatten) (hl : AM.allLive xs.flatten = true) (c : Cap) (hcap : match c with | .exact c => xs.length ≤ c | .grow g => g = es) : IsL w₀ h es (.slice (.own k) 0 xs.length c) xs := by
  refine .mk _ _ _ _ _ rfl hw ?_ hl hcap
  have e := flatten_len hw
  rw [cellsAt_own hk 0 _ (by rw [hc, e]; omega), List.drop_zero, hc, List.take_of_length_le (by omega)]
theorem IsL.src (hb : IsL w₀ h es v xs) : srcLen v = some xs.length ∧ srcPre w₀ h es xs.length v ∧ srcCells w₀ h es xs.length v = xs.flatten := by
  cases hb with
  | nil => exact ⟨rfl, trivial, rfl⟩
  | mk l o n c xs hn hw hc hl hcap =>
    subst hn
    refine ⟨rfl, ?_, hc⟩
    show AM.allLive (cellsAt w₀ h l o (xs.length * es)) = true
    rw [hc]
    exact hl
/-- What a growing slice holds. -/
theorem IsL.buf {h₀ : AHeap} {b : Option Buf} (hb : bufOk h₀ es b) (hes : 0 < es) (hc : bufC b = xs.flatten) (hw : ∀ x ∈ xs, x.length = es) (hs : Sub (bufH h₀ b) h) : IsL w₀ h es (bufV es b) xs := by
  cases b with
  | none =>
    have e := flatten_len hw
    rw [← hc] at e
    have e0 : xs.length * es = 0 := by rw [← e]; rfl
    have : xs = [] := by
      rcases Nat.mul_eq_zero.1 e0 with e1 | e1
      · exact List.eq_nil_of_length_eq_zero e1
      · omega
    subst this
    exact .nil
  | some b =>
    have hc' : b.cells = xs.flatten := hc
    have e : b.cells.length / es = xs.length := by rw [hc', flatten_len hw, Nat.mul_div_cancel _ hes]
    show IsL w₀ h es (.slice (.own b.blk) 0 (b.cells.length / es) (.grow es)) xs
    rw [e]
    exact IsL.own (hs _ _ (AHeap.set_same _ _ _)) hw hc' (by rw [← hc']; exact hb.2.2) (.grow es) rfl
end
/-! ### Blocks beside a growing slice -/
theorem bufNe {H : AHeap} {es : Nat} {b : Buf} (hb : bufOk H es (some b)) {j : Nat} {c : Blk} (hj : H j = some c) : j ≠ b.blk := fun e => by
  subst e
  have := hb.1
  rw [hj] at this
  cases this
theorem bufAt {H : AHeap} {es : Nat} {b : Option Buf} (hb : bufOk H es b) {j : Nat} {c : Blk} (hj : H j = some c) : bufH H b j = some c := by
  cases b with
  | none => exact hj
  | some b => exact (AHeap.set_ne _ _ (bufNe hb hj)).trans hj
/-- A block beside is written: the slice's block stays. -/
theorem bufSet {H : AHeap} {es : Nat} {b : Option Buf} (hb : bufOk H es b) {j : Nat} {c : Blk} (hj : H j = some c) (c' : Blk) : (bufH H b).set j c' = bufH (H.set j c') b := by
  cases b with
  | none => rfl
  | some b => exact (AHeap.set_comm _ _ _ (Ne.symm (bufNe hb hj))).symm
/-! ### Encoded elements -/
section
variable {α : Type} {w₀ : World} {h : AHeap} {es : Nat} {v : AVal} {enc : α → List AVal} {ys : List α}
theorem getD_map (d : α) {i : Nat} (hi : i < ys.length) : (ys.map enc).getD i [] = enc (ys.getD i d) := by
  simp [List.getD, hi]
end
section
variable {P : Program} {w₀ : World} {ops rest : List Oper} {s : Slots} {h : AHeap} {K : Slots → AHeap → Prop} {dst : Option Tmp} {ty : TypeId} {pos : String} {af : Array Edge}
theorem agL_deadT {r : PR} : agL P w₀ ops rest s h K dst (.bool true) false r = aOps P w₀ ops rest (putD s dst (.tuple [])) h K := by
  unfold agL agP
  simp [gKnown, guardB, condV]
theorem agL_deadF {r : PR} : agL P w₀ ops rest s h K dst (.bool false) true r = aOps P w₀ ops rest (putD s dst (.tuple [])) h K := by
  unfold agL agP
  simp [gKnown, guardB, condV]
theorem agL_deadU {r : PR} (want : Bool) : agL P w₀ ops rest s h K dst (.tuple []) want r = aOps P w₀ ops rest (putD s dst (.tuple [])) h K := by
  unfold agL agP
  simp [gKnown, guardB, condV]
/-- Elements behind a growing slice. -/
theorem aOps_appendL {ts : Array TypeId} {t u e : TypeId} {d : TypeDesc} {x y : Operand} {v : AVal} {es by' : Nat} {z : Value} {zs xs : List (List AVal)} {h₀ : AHeap} {b : Option Buf}
    (h0 : ts[0]? = some t) (h1 : ts[1]? = some u) (ht : P.underlying t = some (.slice e)) (hu : P.underlying u = some d) (hd : ∀ k, d ≠ .int k)
    (hs : szOf P e = some es) (hb : byOf P e = some by') (hz : zeOf P e = some z) (hzs : z.cells.size = es) (hes : es ≠ 0)
    (hx : ev s x = bufV es b) (hok : bufOk h₀ es b) (hbz : bufC b = zs.flatten) (hzw : ∀ x ∈ zs, x.length = es) (hh : Sub (bufH h₀ b) h) (hy : ev s y = v) (hv : IsL w₀ h es v xs) (hsc : allScal xs.flatten = true)
    (hl : (zs.length + xs.length) * by' ≤ 140737488355328) (hl' : zs.length + xs.length < 4611686018427387904)
    (hk : ∀ b' h', bufOk h₀ es b' → bufC b' = (zs ++ xs).flatten → Sub (bufH h₀ b') h' → aOps P w₀ ops rest (putD s dst (bufV es b')) h' K) :
    aOps P w₀ ops (⟨dst, .call ⟨.builtin .append, [x, y].toArray, ts⟩, ty, pos, af, none⟩ :: rest) s h K := by
  obtain ⟨s1, s2, s3⟩ := hv.src
  have e : (bufC b).length / es = zs.length := by rw [hbz, flatten_len hzw, Nat.mul_div_cancel _ (Nat.pos_of_ne_zero hes)]
  refine aOps_appendBuf (es := es) (src := xs.flatten) (m := xs.length) h0 h1 ht hu hd hs hb hz hzs hes hx hok hh hy s1 s2 s3 (flatten_len hv.wide) hsc hv.allLive (by rw [e]; exact hl) (by rw [e]; exact hl') fun b' h' o1 o2 o3 => ?_
  exact hk b' h' o1 (by rw [o2, hbz, List.flatten_append]) o3
end
end Go.AM

/-
  An assertion layer over the model's wp: maps in a walk.
  Conditions: none. Nothing here is about a particular program.
-/
namespace Go.AM
open Go.RowKit (Below)

theorem thenA_exit {K : Slots → AHeap → Prop} {Q : Exit → Slots → AHeap → Prop} {s : Slots} {h : AHeap} (i : Nat) : thenA K Q (.exit i) s h = Q (.exit i) s h := rfl
theorem inBlockA_exit {Q : Exit → Slots → AHeap → Prop} {s : Slots} {h : AHeap} (i : Nat) : inBlockA i Q (.exit i) s h = Q .normal s h := by simp [inBlockA]
theorem sc_bool (b : Bool) : (AVal.bool b).scal = true := rfl
theorem sc_int (k : IntKind) (n : Int) : (AVal.int k n).scal = true := rfl
theorem sc_str (s : List UInt8) : (AVal.str s).scal = true := rfl
theorem sc_slice (l : Loc) (o n : Nat) (c : Cap) : (AVal.slice l o n c).scal = true := rfl
section
variable {P : Program}
theorem pu_lookup (t : TypeId) (x i : Operand) (ok : Bool) : pureOp P (.lookup t x i ok) = true := rfl
end
section
variable {P : Program} {w₀ : World} {ops rest : List Oper} {s : Slots} {h : AHeap} {K : Slots → AHeap → Prop} {dst : Option Tmp} {ty : TypeId} {pos : String} {af : Array Edge}
theorem ap_lookup (t : TypeId) (x i : Operand) (ok : Bool) :
    aOps P w₀ ops (⟨dst, .lookup t x i ok, ty, pos, af, none⟩ :: rest) s h K = ((pop P w₀ h s (.lookup t x i ok)).pre ∧ aOps P w₀ ops rest (putD s dst (pop P w₀ h s (.lookup t x i ok)).val) h K) := aOps_p (pu_lookup t x i ok)
/-- A new map. -/
theorem aOps_makeMap {t : TypeId} (hk : ∀ k, h k = none → aOps P w₀ ops rest (putD s dst (.map k)) (h.set k (mapBlk 0 [])) K) : aOps P w₀ ops (⟨dst, .makeMap t none, ty, pos, af, none⟩ :: rest) s h K := by
  rw [aOps_e]
  exact hk
/-- A key that is not there. -/
theorem aOps_putNew {t kt et : TypeId} {m i v : Operand} {k c : Nat} {es : List AVal} (ht : P.underlying t = some (.map kt et)) (hm : ev s m = .map k) (hb : h k = some (mapBlk c es)) (hok : keyOk P kt (ev s i) = true) (hf : mFind (ev s i) es 0 = some none)
    (hk : aOps P w₀ ops rest (putD s dst (.tuple [])) (h.set k (mapBlk (c + 1) (es ++ [.mapE c (ev s i) (ev s v)]))) K) : aOps P w₀ ops (⟨dst, .mapUpdate t m i v, ty, pos, af, none⟩ :: rest) s h K := by
  rw [aOps_e]
  simp only [eop, eUpdate, ht, hm, mapCells_of hb, hf]
  exact ⟨hok, hk⟩
/-- A key that is there. -/
theorem aOps_putOld {t kt et : TypeId} {m i v : Operand} {k c j : Nat} {es : List AVal} {x : AVal} (ht : P.underlying t = some (.map kt et)) (hm : ev s m = .map k) (hb : h k = some (mapBlk c es)) (hok : keyOk P kt (ev s i) = true) (hf : mFind (ev s i) es 0 = some (some (j, x)))
    (hk : aOps P w₀ ops rest (putD s dst (.tuple [])) (h.set k (mapBlk c (es.modify j (mSet (ev s i) (ev s v))))) K) : aOps P w₀ ops (⟨dst, .mapUpdate t m i v, ty, pos, af, none⟩ :: rest) s h K := by
  rw [aOps_e]
  simp only [eop, eUpdate, ht, hm, mapCells_of hb, hf]
  exact ⟨hok, hk⟩
theorem aOps_insertNew {t kt et : TypeId} {m i v : Operand} {k c : Nat} {es : List AVal} (ht : P.underlying t = some (.map kt et)) (hm : ev s m = .map k) (hb : h k = some (mapBlk c es)) (hok : keyOk P kt (ev s i) = true) (hf : mFind (ev s i) es 0 = some none)
    (hk : aOps P w₀ ops rest (putD s dst (.tuple [])) (h.set k (mapBlk (c + 1) (es ++ [.mapE c (ev s i) (ev s v)]))) K) : aOps P w₀ ops (⟨dst, .insert t m i v, ty, pos, af, none⟩ :: rest) s h K := by
  rw [aOps_e]
  simp only [eop, eUpdate, ht, hm, mapCells_of hb, hf]
  exact ⟨hok, hk⟩
theorem aOps_delete {ts : Array TypeId} {t kt et : TypeId} {m i : Operand} {k c j : Nat} {es : List AVal} {x : AVal} (h0 : ts[0]? = some t) (ht : P.underlying t = some (.map kt et)) (hm : ev s m = .map k) (hb : h k = some (mapBlk c es)) (hok : keyOk P kt (ev s i) = true) (hf : mFind (ev s i) es 0 = some (some (j, x)))
    (hk : aOps P w₀ ops rest (putD s dst (.tuple [])) (h.set k (mapBlk c (es.eraseIdx j))) K) : aOps P w₀ ops (⟨dst, .call ⟨.builtin .delete, [m, i].toArray, ts⟩, ty, pos, af, none⟩ :: rest) s h K := by
  rw [aOps_e]
  simp only [eop, evs, List.map_cons, List.map_nil, eDelete, h0, ht, hm, mapCells_of hb, hf]
  exact ⟨hok, hk⟩
theorem aOps_range {t kt et : TypeId} {x : Operand} {k c : Nat} {es : List AVal} (ht : P.underlying t = some (.map kt et)) (hm : ev s x = .map k) (hb : h k = some (mapBlk c es))
    (hk : ∀ k', h k' = none → aOps P w₀ ops rest (putD s dst (.ptr (.own k') 0)) (h.set k' ⟨[.iterO k c [] c], 2⟩) K) : aOps P w₀ ops (⟨dst, .range t x, ty, pos, af, none⟩ :: rest) s h K := by
  rw [aOps_e]
  simp only [eop, eRange, ht, hm, mapCells_of hb]
  exact hk
theorem aOps_next {x : Operand} {k m c since last : Nat} {seen : List Nat} {es : List AVal} (hx : ev s x = .ptr (.own k) 0) (hb : h k = some ⟨[.iterO m since seen last], 2⟩) (hm : h m = some (mapBlk c es)) (hold : ∀ e ∈ es, bornA e < since ∧ bornA e < last)
    (hmore : ∀ b y v, .mapE b y v ∈ es → b ∉ seen → aOps P w₀ ops rest (putD s dst (.tuple [.bool true, y, v])) (h.set k ⟨[.iterO m since (seen ++ [b]) c], 2⟩) K)
    (hover : (∀ e ∈ es, bornA e ∈ seen) → aOps P w₀ ops rest (putD s dst (.tuple [.bool false])) h K) : aOps P w₀ ops (⟨dst, .next x false, ty, pos, af, none⟩ :: rest) s h K := by
  rw [aOps_e]
  simp only [eop, eNext, hx, hb, mapCells_of hm]
  exact ⟨trivial, hold, hmore, hover⟩
/-- What the iterator has stepped to. -/
theorem aOps_entry {x : Operand} {k m c since b b' : Nat} {seen : List Nat} {es : List AVal} {y v : AVal} (hx : ev s x = .ptr (.own k) 0) (hb : h k = some ⟨[.iterO m since (seen ++ [b]) c], 2⟩) (hm : h m = some (mapBlk c es)) (hf : es.find? (fun e => bornA e == b) = some (.mapE b' y v))
    (hk : aOps P w₀ ops rest (putD s dst (.tuple [y, v])) h K) : aOps P w₀ ops (⟨dst, .entry x, ty, pos, af, none⟩ :: rest) s h K := by
  rw [aOps_e]
  simp only [eop, eEntry, hx, hb, mapCells_of hm, List.getLast?_concat, hf]
  exact ⟨trivial, hk⟩
end
/-! ### What a map holds -/
section
variable {P : Program} {h : AHeap}
theorem pLookup_in {t kt et : TypeId} {z : Value} {k c j : Nat} {es : List AVal} {i v : AVal} {ok : Bool} (ht : P.underlying t = some (.map kt et)) (hz : zeOf P et = some z) (hb : h k = some (mapBlk c es)) (hok : keyOk P kt i = true) (hf : mFind i es 0 = some (some (j, v))) :
    pLookup P h t (.map k) i ok = ⟨True, lookR ok v true⟩ := by
  simp only [pLookup, ht, hz, mapCells_of hb, hf, hok]
theorem pLookup_out {t kt et : TypeId} {z : Value} {k c : Nat} {es : List AVal} {i : AVal} {ok : Bool} (ht : P.underlying t = some (.map kt et)) (hz : zeOf P et = some z) (hb : h k = some (mapBlk c es)) (hok : keyOk P kt i = true) (hf : mFind i es 0 = some none) :
    pLookup P h t (.map k) i ok = ⟨True, lookR ok (absV z) false⟩ := by
  simp only [pLookup, ht, hz, mapCells_of hb, hf, hok]
end
end Go.AM

/-
  An assertion layer over the model's wp: a function that puts off one builtin call (defer delete(m, k)).
  Conditions: none. Nothing here is about a particular program.
-/
namespace Go.AM
open Go.RowKit (Below)

end Go.AM

/-
  Facts on the types of this seat's translation, by program (gen_ty.py): cells, bytes, zero values.
  Conditions: none.
-/
namespace Go.Proofs.YtgnebodlkfblcaaDoor
open Go.AM

theorem sz3 : szOf Tryd.prog 3 = some 1 := by kernel_rfl
theorem by3 : byOf Tryd.prog 3 = some 8 := by kernel_rfl
theorem ze3 : zeOf Tryd.prog 3 = some (.int .i64 0) := by kernel_rfl
theorem ag3 : aggOf Tryd.prog 3 = some false := by kernel_rfl
theorem ag4 : aggOf Tryd.prog 4 = some false := by kernel_rfl
theorem sz5 : szOf Tryd.prog 5 = some 1 := by kernel_rfl
theorem by5 : byOf Tryd.prog 5 = some 1 := by kernel_rfl
theorem ze5 : zeOf Tryd.prog 5 = some (.int .u8 0) := by kernel_rfl
theorem ag5 : aggOf Tryd.prog 5 = some false := by kernel_rfl
theorem sz9 : szOf Tryd.prog 9 = some 1 := by kernel_rfl
theorem by9 : byOf Tryd.prog 9 = some 16 := by kernel_rfl
theorem ze9 : zeOf Tryd.prog 9 = some (.string .empty) := by kernel_rfl
theorem ag9 : aggOf Tryd.prog 9 = some false := by kernel_rfl
theorem ag25 : aggOf Tryd.prog 25 = some false := by kernel_rfl
theorem sz27 : szOf Tryd.prog 27 = some 2 := by kernel_rfl
theorem ze27 : zeOf Tryd.prog 27 = some (.agg #[.slice none 0 0, .int .i64 0]) := by kernel_rfl
theorem ag27 : aggOf Tryd.prog 27 = some true := by kernel_rfl
theorem sz35 : szOf Tryd.prog 35 = some 3 := by kernel_rfl
theorem ze35 : zeOf Tryd.prog 35 = some (.agg #[.slice none 0 0, .int .i64 0, .int .i64 0]) := by kernel_rfl
theorem ag35 : aggOf Tryd.prog 35 = some true := by kernel_rfl
theorem sz37 : szOf Tryd.prog 37 = some 2 := by kernel_rfl
theorem by37 : byOf Tryd.prog 37 = some 16 := by kernel_rfl
theorem ze37 : zeOf Tryd.prog 37 = some (.agg #[.int .i64 0, .int .i64 0]) := by kernel_rfl
theorem ag37 : aggOf Tryd.prog 37 = some true := by kernel_rfl
theorem ag38 : aggOf Tryd.prog 38 = some false := by kernel_rfl
theorem sz41 : szOf Tryd.prog 41 = some 11 := by kernel_rfl
theorem sz44 : szOf Tryd.prog 44 = some 22 := by kernel_rfl
theorem by44 : byOf Tryd.prog 44 = some 168 := by kernel_rfl
theorem ze44 : zeOf Tryd.prog 44 = some (.agg #[.string .empty, .int .i64 0, .int .i64 0, .int .u8 0, .int .u8 0, .string .empty, .int .i64 0, .int .i64 0, .bool false, .bool false, .bool false, .bool false, .bool false, .int .i64 0, .int .i64 0, .int .i64 0, .int .i64 0, .int .i64 0, .int .i64 0, .int .i64 0, .int .i64 0, .slice none 0 0]) := by kernel_rfl
theorem ag44 : aggOf Tryd.prog 44 = some true := by kernel_rfl
theorem sz47 : szOf Tryd.prog 47 = some 1 := by kernel_rfl
theorem ag47 : aggOf Tryd.prog 47 = some false := by kernel_rfl
theorem ze48 : zeOf Tryd.prog 48 = some (.slice none 0 0) := by kernel_rfl
theorem sz58 : szOf Tryd.prog 58 = some 4 := by kernel_rfl
theorem sz64 : szOf Tryd.prog 64 = some 1 := by kernel_rfl
theorem ze64 : zeOf Tryd.prog 64 = some (.map none) := by kernel_rfl
theorem ag64 : aggOf Tryd.prog 64 = some false := by kernel_rfl
theorem ze69 : zeOf Tryd.prog 69 = some (.slice none 0 0) := by kernel_rfl
theorem ze80 : zeOf Tryd.prog 80 = some (.agg #[.pointer none, .slice none 0 0]) := by kernel_rfl
theorem fa27_0 (l : AM.Loc) (o : Nat) : pFieldAddr Tryd.prog 27 (.ptr l o) 0 = ⟨1 ≠ 0, .ptr l (o + 0)⟩ := by kernel_rfl
theorem fa35_0 (l : AM.Loc) (o : Nat) : pFieldAddr Tryd.prog 35 (.ptr l o) 0 = ⟨2 ≠ 0, .ptr l (o + 0)⟩ := by kernel_rfl
theorem fa35_1 (l : AM.Loc) (o : Nat) : pFieldAddr Tryd.prog 35 (.ptr l o) 1 = ⟨1 ≠ 0, .ptr l (o + 2)⟩ := by kernel_rfl
theorem fa41_0 (l : AM.Loc) (o : Nat) : pFieldAddr Tryd.prog 41 (.ptr l o) 0 = ⟨1 ≠ 0, .ptr l (o + 0)⟩ := by kernel_rfl
theorem fa44_0 (l : AM.Loc) (o : Nat) : pFieldAddr Tryd.prog 44 (.ptr l o) 0 = ⟨1 ≠ 0, .ptr l (o + 0)⟩ := by kernel_rfl
theorem fa44_1 (l : AM.Loc) (o : Nat) : pFieldAddr Tryd.prog 44 (.ptr l o) 1 = ⟨1 ≠ 0, .ptr l (o + 1)⟩ := by kernel_rfl
theorem fa44_2 (l : AM.Loc) (o : Nat) : pFieldAddr Tryd.prog 44 (.ptr l o) 2 = ⟨1 ≠ 0, .ptr l (o + 2)⟩ := by kernel_rfl
theorem fa44_3 (l : AM.Loc) (o : Nat) : pFieldAddr Tryd.prog 44 (.ptr l o) 3 = ⟨11 ≠ 0, .ptr l (o + 3)⟩ := by kernel_rfl
theorem fa44_5 (l : AM.Loc) (o : Nat) : pFieldAddr Tryd.prog 44 (.ptr l o) 5 = ⟨1 ≠ 0, .ptr l (o + 15)⟩ := by kernel_rfl
theorem fa44_7 (l : AM.Loc) (o : Nat) : pFieldAddr Tryd.prog 44 (.ptr l o) 7 = ⟨1 ≠ 0, .ptr l (o + 17)⟩ := by kernel_rfl
theorem fa44_8 (l : AM.Loc) (o : Nat) : pFieldAddr Tryd.prog 44 (.ptr l o) 8 = ⟨1 ≠ 0, .ptr l (o + 18)⟩ := by kernel_rfl
theorem fa58_0 (l : AM.Loc) (o : Nat) : pFieldAddr Tryd.prog 58 (.ptr l o) 0 = ⟨1 ≠ 0, .ptr l (o + 0)⟩ := by kernel_rfl
theorem fa58_1 (l : AM.Loc) (o : Nat) : pFieldAddr Tryd.prog 58 (.ptr l o) 1 = ⟨1 ≠ 0, .ptr l (o + 1)⟩ := by kernel_rfl
theorem fa58_2 (l : AM.Loc) (o : Nat) : pFieldAddr Tryd.prog 58 (.ptr l o) 2 = ⟨1 ≠ 0, .ptr l (o + 2)⟩ := by kernel_rfl
theorem fa58_3 (l : AM.Loc) (o : Nat) : pFieldAddr Tryd.prog 58 (.ptr l o) 3 = ⟨1 ≠ 0, .ptr l (o + 3)⟩ := by kernel_rfl
theorem fa80_1 (l : AM.Loc) (o : Nat) : pFieldAddr Tryd.prog 80 (.ptr l o) 1 = ⟨1 ≠ 0, .ptr l (o + 1)⟩ := by kernel_rfl
theorem bld35_0_1 (x0 : AVal) (x1 : Int) (x2 : Int) : pBuild Tryd.prog 35 [(0, .agg [x0, .int .i64 x1]), (1, .int .i64 x2)] = ⟨True, .agg [x0, .int .i64 x1, .int .i64 x2]⟩ := by kernel_rfl
theorem bld35_0 (x0 : AVal) (x1 : Int) : pBuild Tryd.prog 35 [(0, .agg [x0, .int .i64 x1])] = ⟨True, .agg [x0, .int .i64 x1, .int .i64 0]⟩ := by kernel_rfl
theorem bld27_0 (x0 : AVal) (hx0 : Sc x0) : pBuild Tryd.prog 27 [(0, x0)] = ⟨True, .agg [x0, .int .i64 0]⟩ := by (cases x0 <;> first | exact hx0.elim | skip) <;> kernel_rfl
theorem bld35_ : pBuild Tryd.prog 35 [] = ⟨True, .agg [.nilSlice, .int .i64 0, .int .i64 0]⟩ := by kernel_rfl
theorem bld44_0_1_2_5_7_8_9_10 (x0 : List UInt8) (x1 : Int) (x2 : Int) (x15 : Int) (x17 : Int) (x18 : Int) (x19 : Int) (x20 : Int) : pBuild Tryd.prog 44 [(0, .str x0), (1, .int .i64 x1), (2, .int .i64 x2), (5, .int .i64 x15), (7, .int .i64 x17), (8, .int .i64 x18), (9, .int .i64 x19), (10, .int .i64 x20)] = ⟨True, .agg [.str x0, .int .i64 x1, .int .i64 x2, .int .u8 0, .int .u8 0, .str [], .int .i64 0, .int .i64 0, .bool false, .bool false, .bool false, .bool false, .bool false, .int .i64 0, .int .i64 0, .int .i64 x15, .int .i64 0, .int .i64 x17, .int .i64 x18, .int .i64 x19, .int .i64 x20, .nilSlice]⟩ := by kernel_rfl
theorem bld41_0_2_3_10 (x0 : Int) (x2 : List UInt8) (x3 : Int) (x10 : Int) : pBuild Tryd.prog 41 [(0, .int .u8 x0), (2, .str x2), (3, .int .i64 x3), (10, .int .i64 x10)] = ⟨True, .agg [.int .u8 x0, .int .u8 0, .str x2, .int .i64 x3, .int .i64 0, .bool false, .bool false, .bool false, .bool false, .bool false, .int .i64 x10]⟩ := by kernel_rfl
theorem bld41_0_2_10 (x0 : Int) (x2 : List UInt8) (x10 : Int) : pBuild Tryd.prog 41 [(0, .int .u8 x0), (2, .str x2), (10, .int .i64 x10)] = ⟨True, .agg [.int .u8 x0, .int .u8 0, .str x2, .int .i64 0, .int .i64 0, .bool false, .bool false, .bool false, .bool false, .bool false, .int .i64 x10]⟩ := by kernel_rfl
theorem bld41_0 (x0 : Int) : pBuild Tryd.prog 41 [(0, .int .u8 x0)] = ⟨True, .agg [.int .u8 x0, .int .u8 0, .str [], .int .i64 0, .int .i64 0, .bool false, .bool false, .bool false, .bool false, .bool false, .int .i64 0]⟩ := by kernel_rfl
theorem bld44_0_1_2_5_7_8_9_10_3 (x0 : List UInt8) (x1 : Int) (x2 : Int) (x15 : Int) (x17 : Int) (x18 : Int) (x19 : Int) (x20 : Int) (x3 : Int) (x4 : Int) (x5 : List UInt8) (x6 : Int) (x7 : Int) (x8 : Bool) (x9 : Bool) (x10 : Bool) (x11 : Bool) (x12 : Bool) (x13 : Int) : pBuild Tryd.prog 44 [(0, .str x0), (1, .int .i64 x1), (2, .int .i64 x2), (5, .int .i64 x15), (7, .int .i64 x17), (8, .int .i64 x18), (9, .int .i64 x19), (10, .int .i64 x20), (3, .agg [.int .u8 x3, .int .u8 x4, .str x5, .int .i64 x6, .int .i64 x7, .bool x8, .bool x9, .bool x10, .bool x11, .bool x12, .int .i64 x13])] = ⟨True, .agg [.str x0, .int .i64 x1, .int .i64 x2, .int .u8 x3, .int .u8 x4, .str x5, .int .i64 x6, .int .i64 x7, .bool x8, .bool x9, .bool x10, .bool x11, .bool x12, .int .i64 x13, .int .i64 0, .int .i64 x15, .int .i64 0, .int .i64 x17, .int .i64 x18, .int .i64 x19, .int .i64 x20, .nilSlice]⟩ := by kernel_rfl
theorem mixed : Tryd.prog.follows .mixedOrders = true := by kernel_rfl
end Go.Proofs.YtgnebodlkfblcaaDoor

/-
  Plain functions for fixed columns: what Read, At and Write compute, with no program in sight.
  Conditions: none.
-/
namespace Go.Col
set_option maxRecDepth 100000

abbrev Str := List UInt8
structure MarkC where
  frm : Int
  line : Int
  col : Int
  deriving DecidableEq
structure CardC where
  left : Bool
  text : Str
  marks : List MarkC
  deriving DecidableEq

def okB (b : UInt8) : Bool := decide (32 ≤ b.toNat) && decide (b.toNat ≤ 126)
def badAt (s : Str) : Option Nat := s.findIdx? (fun b => !okB b)
def sp (n : Nat) : Str := List.replicate n 32

/-- What has been read: the cards, where the last part began, whether the last text has an odd number of quotes. -/
structure Rd where
  cards : List CardC
  line : Int
  col : Int
  odd : Bool
def Rd.start : Rd := ⟨[], 0, 0, false⟩
/-- The position of a byte, or the error. -/
def validC.go (c : CardC) : Int → List MarkC → Bool
  | _, [] => true
  | b, m :: ms => decide (b < m.frm ∧ m.frm < c.text.length ∧ 1 ≤ m.line ∧ 8 ≤ m.col ∧ m.col ≤ 72) && validC.go c m.frm ms
def validC (c : CardC) : Bool :=
  match c.marks with
  | [] => false
  | m :: _ => decide (m.frm = 0) && validC.go c (-1) c.marks
/-- The decimal digits of a number. -/
def digs (n : Nat) : Str := Lib.decDigits n
end Go.Col

/-
  The package pairs as plain functions: the check of a group, the paths below it, and the pairs; what the law's climb finds.
  Conditions: none.
-/
namespace Go.Prs
open Go.Col (Str digs)

structure ItemP where
  name : Str
  level : Int
  parent : Int
  cat : Int
  occurs : Int
  depends : Int
  redefines : Int
  deriving Inhabited

def filler : Str := [70, 73, 76, 76, 69, 82]
def eligE (x : ItemP) : Bool := decide (2 ≤ x.level) && decide (x.level ≤ 49) && !(x.name == filler) && decide (x.redefines < 0) && decide (x.depends < 0) && decide (x.occurs ≤ 1)
def badAt (l : List ItemP) (i : Nat) (x : ItemP) : Bool := decide (x.parent < -1) || decide ((i : Int) ≤ x.parent) || (decide (0 ≤ x.parent) && decide (x.level ≤ (l.getD x.parent.toNat default).level))
def ordE (l : List ItemP) : Bool := (List.range l.length).all fun i => !badAt l i (l.getD i default)
def checkE (l : List ItemP) (g : Int) : Int :=
  if 2048 < l.length ∨ g < 0 ∨ (l.length : Int) ≤ g then 1 else if ordE l = false then 1
  else if (l.getD g.toNat default).cat ≠ 0 ∨ 49 < (l.getD g.toNat default).level then 12 else 0

/-! ### Paths -/
def lookA {α : Type} (k : Int) : List (Int × α) → Option α
  | [] => none
  | (j, p) :: r => if j = k then some p else lookA k r
def pStep (g : Int) (only : Bool) (acc : List (Int × List Str)) (i : Nat) (x : ItemP) : List (Int × List Str) :=
  match lookA x.parent acc with
  | some p => if (!only || eligE x) && decide ((i : Int) ≠ g) then acc ++ [((i : Int), p ++ [x.name])] else acc
  | none => acc
def pGo (g : Int) (only : Bool) : Nat → List ItemP → List (Int × List Str) → List (Int × List Str)
  | _, [], acc => acc
  | i, x :: r, acc => pGo g only (i + 1) r (pStep g only acc i x)
/-- All paths, that of the group (no names) first. -/
def allE (l : List ItemP) (g : Int) (only : Bool) : List (Int × List Str) := pGo g only 0 l [(g, [])]
def pathsE (l : List ItemP) (g : Int) (only : Bool) : List (Int × List Str) := (allE l g only).tail

/-- What one step adds. -/
def newP (g : Int) (only : Bool) (acc : List (Int × List Str)) (i : Nat) (x : ItemP) : Option (List Str) :=
  match lookA x.parent acc with
  | some p => if (!only || eligE x) && decide ((i : Int) ≠ g) then some (p ++ [x.name]) else none
  | none => none
theorem pStep_eq (g : Int) (only : Bool) (acc : List (Int × List Str)) (i : Nat) (x : ItemP) : pStep g only acc i x = acc ++ (match newP g only acc i x with | some p => [((i : Int), p)] | none => []) := by
  unfold pStep newP
  cases lookA x.parent acc with
  | none => simp
  | some p => simp only []; split <;> simp

/-- Later steps add later keys alone. -/
theorem pGo_app (g : Int) (only : Bool) : ∀ (l : List ItemP) (i : Nat) (acc : List (Int × List Str)), ∃ r, pGo g only i l acc = acc ++ r ∧ (∀ y ∈ r, (i : Int) ≤ y.1 ∧ y.1 < i + l.length ∧ y.1 ≠ g) ∧ r.Pairwise (fun a b => a.1 < b.1)
  | [], i, acc => ⟨[], by simp [pGo], by simp, .nil⟩
  | x :: l, i, acc => by
    obtain ⟨r, e, h1, h2⟩ := pGo_app g only l (i + 1) (pStep g only acc i x)
    simp only [pGo]
    rw [e, pStep_eq]
    cases hn : newP g only acc i x with
    | none =>
      refine ⟨r, by simp, fun y hy => ?_, h2⟩
      have := h1 y hy
      simp only [List.length_cons]
      omega
    | some p =>
      have hg : (i : Int) ≠ g := by
        unfold newP at hn
        split at hn
        · split at hn
          · rename_i hc
            simp only [Bool.and_eq_true, decide_eq_true_eq] at hc
            exact hc.2
          · cases hn
        · cases hn
      refine ⟨((i : Int), p) :: r, by simp, fun y hy => ?_, List.pairwise_cons.2 ⟨fun y hy => ?_, h2⟩⟩
      · simp only [List.length_cons]
        rcases List.mem_cons.1 hy with rfl | hy
        · exact ⟨Int.le_refl _, by omega, hg⟩
        · have := h1 y hy
          omega
      · have := (h1 y hy).1
        simp only
        omega

end Go.Prs

/-
  The pairs of two groups: ascending, each once; what the law's double loop lists is the same.
  Conditions: none.
-/
namespace Go.Prs
open Go.Col (Str digs)

/-- Two ascending lists with the same members are the same list. -/
theorem eq_of_lt {α : Type} {r : α → α → Prop} (irr : ∀ x, ¬ r x x) (asym : ∀ x y, r x y → ¬ r y x) : ∀ (a b : List α), a.Pairwise r → b.Pairwise r → (∀ x, x ∈ a ↔ x ∈ b) → a = b
  | [], [], _, _, _ => rfl
  | [], y :: b, _, _, h => absurd ((h y).2 List.mem_cons_self) (by simp)
  | x :: a, [], _, _, h => absurd ((h x).1 List.mem_cons_self) (by simp)
  | x :: a, y :: b, ha, hb, h => by
    obtain ⟨ha1, ha2⟩ := List.pairwise_cons.1 ha
    obtain ⟨hb1, hb2⟩ := List.pairwise_cons.1 hb
    have e : x = y := by
      rcases List.mem_cons.1 ((h x).1 List.mem_cons_self) with e | hx
      · exact e
      · rcases List.mem_cons.1 ((h y).2 List.mem_cons_self) with e | hy
        · exact e.symm
        · exact absurd (ha1 y hy) (asym _ _ (hb1 x hx))
    subst e
    have := eq_of_lt irr asym a b ha2 hb2 fun z => ⟨fun hz => by
      rcases List.mem_cons.1 ((h z).1 (List.mem_cons_of_mem _ hz)) with rfl | h'
      · exact absurd (ha1 z hz) (irr z)
      · exact h', fun hz => by
      rcases List.mem_cons.1 ((h z).2 (List.mem_cons_of_mem _ hz)) with rfl | h'
      · exact absurd (hb1 z hz) (irr z)
      · exact h'⟩
    rw [this]

/-! ### Lists under ascending keys -/
def asc {α : Type} (a : List (Int × α)) : Prop := a.Pairwise fun x y => x.1 < y.1
theorem all_cons (l : List ItemP) (g : Int) (only : Bool) : ∃ r, allE l g only = (g, []) :: r ∧ pathsE l g only = r ∧ (∀ y ∈ r, 0 ≤ y.1 ∧ y.1 < l.length ∧ y.1 ≠ g) ∧ asc r := by
  obtain ⟨r, e, h1, h2⟩ := pGo_app g only l 0 [(g, [])]
  refine ⟨r, e, by rw [pathsE, allE, e]; rfl, fun y hy => ?_, h2⟩
  have := h1 y hy
  omega
theorem paths_asc (l : List ItemP) (g : Int) (only : Bool) : asc (pathsE l g only) := by
  obtain ⟨r, _, e, _, h⟩ := all_cons l g only
  rw [e]
  exact h
theorem paths_range {l : List ItemP} {g : Int} {only : Bool} {y : Int × List Str} (hy : y ∈ pathsE l g only) : 0 ≤ y.1 ∧ y.1 < l.length ∧ y.1 ≠ g := by
  obtain ⟨r, _, e, h, _⟩ := all_cons l g only
  rw [e] at hy
  exact h y hy
/-! ### Pairs -/
def pairsE (a b : List (Int × List Str)) (is : Int → Int → Bool) : List (Int × Int) :=
  a.flatMap fun x => (b.filter fun y => y.2 == x.2 && is x.1 y.1).map fun y => (x.1, y.1)
def ltP (x y : Int × Int) : Prop := x.1 < y.1 ∨ x.1 = y.1 ∧ x.2 < y.2
theorem ltP_irr (x : Int × Int) : ¬ ltP x x := by unfold ltP; omega
theorem ltP_asym (x y : Int × Int) (h : ltP x y) : ¬ ltP y x := by unfold ltP at *; omega

theorem pairs_asc {a b : List (Int × List Str)} (ha : asc a) (hb : asc b) (is : Int → Int → Bool) : (pairsE a b is).Pairwise ltP := by
  unfold pairsE
  rw [List.pairwise_flatMap]
  refine ⟨fun x _ => ?_, ha.imp fun {x y} hxy u hu v hv => ?_⟩
  · rw [List.pairwise_map]
    exact (hb.filter _).imp fun {u v} h => .inr ⟨rfl, h⟩
  · obtain ⟨_, _, rfl⟩ := List.mem_map.1 hu
    obtain ⟨_, _, rfl⟩ := List.mem_map.1 hv
    exact .inl hxy

/-- A list of the pairs in any order, laid in order. -/
theorem sorted_pairs {a b : List (Int × List Str)} (ha : asc a) (hb : asc b) (is : Int → Int → Bool) {s : List (Int × Int)} (hs : s.Pairwise fun x y => ltP x y ∨ x = y) (hp : s.Perm (pairsE a b is)) : s = pairsE a b is := by
  have hn : (pairsE a b is).Nodup := List.Pairwise.imp (fun {x y} (h : ltP x y) => fun (e : x = y) => ltP_irr x (by rw [← e] at h; exact h)) (pairs_asc ha hb is)
  have hn2 : s.Nodup := hp.nodup_iff.2 hn
  refine eq_of_lt ltP_irr ltP_asym _ _ ?_ (pairs_asc ha hb is) fun x => hp.mem_iff
  exact hs.imp₂ (fun x y h hne => by rcases h with h | h; exact h; exact absurd h hne) hn2

end Go.Prs

/-
  The key of a path: only equal paths have it in common.
  Conditions: none.
-/
namespace Go.Prs
open Go.Col (Str digs)

def partE (s : Str) : Str := digs s.length ++ 58 :: s
def keyE : List Str → Str
  | [] => []
  | s :: r => partE s ++ keyE r

def valD (s : Str) : Nat := s.foldl (fun a b => a * 10 + (b.toNat - 48)) 0
theorem digs_small {n : Nat} (h : n < 10) : digs n = [UInt8.ofNat (48 + n)] := Lib.decDigits_one h
theorem digs_big {n : Nat} (h : ¬ n < 10) : digs n = digs (n / 10) ++ [UInt8.ofNat (48 + n % 10)] := by
  unfold digs
  rw [Lib.decDigits, dif_neg h]
theorem ch_val {k : Nat} (h : k < 10) : (UInt8.ofNat (48 + k)).toNat = 48 + k := by
  rw [UInt8.toNat_ofNat']
  omega
theorem valD_digs : ∀ n : Nat, valD (digs n) = n := by
  intro n
  induction n using Nat.strongRecOn with
  | _ n ih =>
    by_cases h : n < 10
    · rw [digs_small h]
      simp only [valD, List.foldl_cons, List.foldl_nil, ch_val h]
      omega
    · rw [digs_big h]
      have := ih (n / 10) (by omega)
      unfold valD at this ⊢
      rw [List.foldl_append, this]
      simp only [List.foldl_cons, List.foldl_nil, ch_val (Nat.mod_lt n (by decide : 10 > 0))]
      omega
theorem digs_inj {m n : Nat} (h : digs m = digs n) : m = n := by
  rw [← valD_digs m, h, valD_digs]
theorem digs_no58 : ∀ n : Nat, (58 : UInt8) ∉ digs n := by
  intro n
  have hc : ∀ k, k < 10 → (58 : UInt8) ≠ UInt8.ofNat (48 + k) := by
    intro k hk e
    have := congrArg UInt8.toNat e
    rw [ch_val hk] at this
    have h58 : (58 : UInt8).toNat = 58 := rfl
    omega
  induction n using Nat.strongRecOn with
  | _ n ih =>
    by_cases h : n < 10
    · rw [digs_small h]
      simpa using hc n h
    · rw [digs_big h]
      simp only [List.mem_append, List.mem_singleton, not_or]
      exact ⟨ih (n / 10) (by omega), hc _ (Nat.mod_lt n (by decide))⟩

theorem split58 : ∀ {a b c d : Str}, (58 : UInt8) ∉ a → (58 : UInt8) ∉ b → a ++ 58 :: c = b ++ 58 :: d → a = b ∧ c = d
  | [], [], c, d, _, _, h => ⟨rfl, by simpa using h⟩
  | [], y :: b, c, d, _, hb, h => by
    simp only [List.nil_append, List.cons_append, List.cons.injEq] at h
    exact absurd (by rw [← h.1]; exact List.mem_cons_self) hb
  | x :: a, [], c, d, ha, _, h => by
    simp only [List.nil_append, List.cons_append, List.cons.injEq] at h
    exact absurd (by rw [h.1]; exact List.mem_cons_self) ha
  | x :: a, y :: b, c, d, ha, hb, h => by
    simp only [List.cons_append, List.cons.injEq] at h
    obtain ⟨e1, e2⟩ := split58 (fun hm => ha (List.mem_cons_of_mem _ hm)) (fun hm => hb (List.mem_cons_of_mem _ hm)) h.2
    exact ⟨by rw [h.1, e1], e2⟩

theorem part_cons (s : Str) (r : Str) : partE s ++ r = digs s.length ++ 58 :: (s ++ r) := by simp [partE]
theorem part_ne (s : Str) (r : Str) : partE s ++ r ≠ [] := by rw [part_cons]; simp
theorem key_inj : ∀ {p q : List Str}, keyE p = keyE q → p = q
  | [], [], _ => rfl
  | [], t :: q, h => absurd h.symm (part_ne t _)
  | s :: p, [], h => absurd h (part_ne s _)
  | s :: p, t :: q, h => by
    simp only [keyE] at h
    rw [part_cons, part_cons] at h
    obtain ⟨e1, e2⟩ := split58 (digs_no58 _) (digs_no58 _) h
    obtain ⟨e3, e4⟩ := List.append_inj e2 (digs_inj e1)
    rw [e3, key_inj e4]
theorem key_eq (p q : List Str) : (keyE p == keyE q) = (p == q) := by
  by_cases h : p = q
  · subst h; simp
  · rw [beq_eq_false_iff_ne.2 h, beq_eq_false_iff_ne.2 fun e => h (key_inj e)]

/-! ### The code's loops, in any order of the maps -/
/-- What a map from keys to rows holds behind the loop over the paths b. -/
def rowOf (b : List (Int × List Str)) (k : Str) : List Int := (b.filter fun y => keyE y.2 == k).map (·.1)
theorem rowOf_snoc (b : List (Int × List Str)) (y : Int × List Str) (k : Str) : rowOf (b ++ [y]) k = if keyE y.2 == k then rowOf b k ++ [y.1] else rowOf b k := by
  unfold rowOf
  rw [List.filter_append]
  by_cases h : (keyE y.2 == k) = true
  · rw [if_pos h]
    simp [List.filter, h]
  · rw [if_neg h]
    simp [List.filter, h]
def amongE (a b : List (Int × List Str)) (is : Int → Int → Bool) : List (Int × Int) :=
  a.flatMap fun x => ((rowOf b (keyE x.2)).filter fun k => is x.1 k).map fun k => (x.1, k)
theorem among_eq (a b : List (Int × List Str)) (is : Int → Int → Bool) : amongE a b is = pairsE a b is := by
  unfold amongE pairsE rowOf
  congr 1
  funext x
  rw [List.filter_map, List.map_map, List.filter_filter]
  have e : (fun y : Int × List Str => (keyE y.2 == keyE x.2) && (((fun k => is x.1 k) ∘ fun z : Int × List Str => z.1) y)) = fun y => y.2 == x.2 && is x.1 y.1 := by
    funext y
    simp only [Function.comp, key_eq]
  have e2 : (b.filter fun y => ((fun k => is x.1 k) ∘ fun z : Int × List Str => z.1) y && (keyE y.2 == keyE x.2)) = b.filter fun y => y.2 == x.2 && is x.1 y.1 := by
    congr 1
    funext y
    rw [Bool.and_comm]
    exact congrFun e y
  first
    | rw [e2]; rfl
    | (rw [show (b.filter fun y => keyE y.2 == keyE x.2 && ((fun k => is x.1 k) ∘ fun z : Int × List Str => z.1) y) = b.filter fun y => y.2 == x.2 && is x.1 y.1 from congrArg (List.filter · b) e]; rfl)
theorem pairs_perm {a a' b b' : List (Int × List Str)} (ha : a'.Perm a) (hb : b'.Perm b) (is : Int → Int → Bool) : (pairsE a' b' is).Perm (pairsE a b is) := by
  unfold pairsE
  refine (ha.flatMap_right _).trans ?_
  have h : ∀ (l : List (Int × List Str)) (f f' : Int × List Str → List (Int × Int)), (∀ x, (f x).Perm (f' x)) → (l.flatMap f).Perm (l.flatMap f') := by
    intro l f f' hf
    induction l with
    | nil => exact .refl _
    | cons x l ih =>
      rw [List.flatMap_cons, List.flatMap_cons]
      exact (hf x).append ih
  exact h _ _ _ fun x => (hb.filter _).map _
end Go.Prs

/-
  The records that the laws build out of entries: they are orderly, and the group that a law picks is one.
  Conditions: none.
-/
namespace Go.Prs
open Go.Col (Str digs)

structure EntryP where
  level : Nat
  name : Nat
  kind : Nat
  flag : Nat
  deriving Inhabited

def nmE (n : Nat) : Str := match n % 5 with | 0 => [88] | 1 => [89] | 2 => [90] | 3 => [71] | _ => filler
def rootP : ItemP := ⟨[82], 1, -1, 0, 1, -1, -1⟩
def lvl (l : List ItemP) (i : Int) : Int := (l.getD i.toNat default).level
def par (l : List ItemP) (i : Int) : Int := (l.getD i.toNat default).parent
/-- From an item up to one with a smaller level. -/
def searchE (l : List ItemP) (lv : Int) : Nat → Int → Int
  | 0, p => p
  | n + 1, p => if lv ≤ lvl l p then searchE l lv n (par l p) else p
def plainE (l : List ItemP) (e : EntryP) : ItemP :=
  { rootP with level := 2 + ((e.level % 4 : Nat) : Int), name := nmE e.name, parent := searchE l (2 + ((e.level % 4 : Nat) : Int)) l.length ((l.length : Int) - 1) }
def stepE (l : List ItemP) (e : EntryP) : ItemP :=
  match e.flag % 12 with
  | 0 => { plainE l e with occurs := 3 }
  | 1 => { plainE l e with redefines := 0 }
  | 2 => { plainE l e with depends := 0 }
  | 3 => { plainE l e with level := 88, parent := if lvl l ((l.length : Int) - 1) = 88 then par l ((l.length : Int) - 1) else (l.length : Int) - 1 }
  | _ => plainE l e
def growE : List EntryP → List ItemP → List ItemP
  | [], l => l
  | e :: r, l => growE r (l ++ [stepE l e])
def rawE (x : List EntryP) : List ItemP := growE (x.take 20) [rootP]
def groupAt (l : List ItemP) (i : Nat) : Bool := i == 0 || (List.range l.length).any fun k => decide (i < k) && (decide ((l.getD k default).parent = i) && decide ((l.getD k default).level < 50))
def catE (l : List ItemP) (x : List EntryP) (i : Nat) : Int := if groupAt l i then 0 else if 0 < i ∧ (x.getD (i - 1) default).kind % 3 = 0 then 2 else 4
def ofE (x : List EntryP) : List ItemP := (rawE x).mapIdx fun i y => { y with cat := catE (rawE x) x i }

/-- Orderly records: the root first, each item below an earlier one of a smaller level. -/
structure Good (l : List ItemP) : Prop where
  ne : l ≠ []
  root : (l.getD 0 default).level = 1 ∧ (l.getD 0 default).parent = -1
  item : ∀ i, 0 < i → i < l.length → 2 ≤ (l.getD i default).level ∧ 0 ≤ (l.getD i default).parent ∧ (l.getD i default).parent < i ∧ lvl l (l.getD i default).parent < (l.getD i default).level ∧ ((l.getD i default).level ≤ 5 ∨ (l.getD i default).level = 88)

theorem Good.search {l : List ItemP} (h : Good l) {lv : Int} (hv : 2 ≤ lv) : ∀ (n : Nat) (p : Int), 0 ≤ p → p < l.length → p < n → 0 ≤ searchE l lv n p ∧ searchE l lv n p ≤ p ∧ lvl l (searchE l lv n p) < lv
  | 0, p, h0, _, h2 => by omega
  | n + 1, p, h0, h1, h2 => by
    rw [searchE]
    split
    · rename_i hc
      by_cases hp : p = 0
      · subst hp
        have := h.root.1
        unfold lvl at hc
        rw [Int.toNat_zero] at hc
        omega
      · have hi := h.item p.toNat (by omega) (by omega)
        have := h.search hv n (par l p) hi.2.1 (by unfold par; omega) (by unfold par; omega)
        unfold par at this ⊢
        omega
    · rename_i hc
      omega

theorem lvl_app {l r : List ItemP} {i : Int} (h0 : 0 ≤ i) (h1 : i < l.length) : lvl (l ++ r) i = lvl l i := by
  unfold lvl
  rw [List.getD_eq_getElem?_getD, List.getD_eq_getElem?_getD, List.getElem?_append_left (by omega)]

theorem stepE_ok {l : List ItemP} (h : Good l) (e : EntryP) : 2 ≤ (stepE l e).level ∧ 0 ≤ (stepE l e).parent ∧ (stepE l e).parent < l.length ∧ lvl l (stepE l e).parent < (stepE l e).level ∧ ((stepE l e).level ≤ 5 ∨ (stepE l e).level = 88) := by
  have hl : 0 < l.length := List.length_pos_iff.2 h.ne
  have hp : 2 ≤ (plainE l e).level ∧ 0 ≤ (plainE l e).parent ∧ (plainE l e).parent < l.length ∧ lvl l (plainE l e).parent < (plainE l e).level ∧ ((plainE l e).level ≤ 5 ∨ (plainE l e).level = 88) := by
    have := h.search (lv := 2 + ((e.level % 4 : Nat) : Int)) (by omega) l.length ((l.length : Int) - 1) (by omega) (by omega) (by omega)
    simp only [plainE]
    omega
  unfold stepE
  split
  · exact hp
  · exact hp
  · exact hp
  · simp only
    have h5 : ∀ i : Int, 0 ≤ i → i < l.length → lvl l i ≠ 88 → lvl l i ≤ 5 := by
      intro i h0 h1 hne
      by_cases hi : i = 0
      · subst hi
        have := h.root.1
        unfold lvl
        rw [Int.toNat_zero]
        omega
      · have := h.item i.toNat (by omega) (by omega)
        unfold lvl at hne ⊢
        omega
    split
    · rename_i h88
      have hi : ((l.length : Int) - 1).toNat ≠ 0 := by
        intro e0
        unfold lvl at h88
        rw [e0, h.root.1] at h88
        omega
      have := h.item ((l.length : Int) - 1).toNat (by omega) (by omega)
      unfold lvl at h88
      refine ⟨by omega, by unfold par; omega, by unfold par; omega, ?_, .inr (by trivial)⟩
      unfold par
      have h2 := this.2.2.2.1
      rw [h88] at h2
      exact h2
    · rename_i h88
      exact ⟨by omega, by omega, by omega, by have := h5 _ (by omega) (by omega) h88; omega, .inr (by trivial)⟩
  · exact hp

theorem Good.snoc {l : List ItemP} (h : Good l) (e : EntryP) : Good (l ++ [stepE l e]) := by
  have hl : 0 < l.length := List.length_pos_iff.2 h.ne
  have hg : ∀ i, i < l.length → (l ++ [stepE l e]).getD i default = l.getD i default := fun i hi => by
    rw [List.getD_eq_getElem?_getD, List.getD_eq_getElem?_getD, List.getElem?_append_left hi]
  refine ⟨by simp, by rw [hg 0 hl]; exact h.root, fun i h0 h1 => ?_⟩
  rw [List.length_append, List.length_singleton] at h1
  by_cases hi : i < l.length
  · rw [hg i hi]
    have := h.item i h0 hi
    refine ⟨this.1, this.2.1, this.2.2.1, ?_, this.2.2.2.2⟩
    rw [lvl_app this.2.1 (by omega)]
    exact this.2.2.2.1
  · have e2 : i = l.length := by omega
    subst e2
    have e3 : (l ++ [stepE l e]).getD l.length default = stepE l e := by
      rw [List.getD_eq_getElem?_getD]
      simp
    rw [e3]
    have := stepE_ok h e
    refine ⟨this.1, this.2.1, this.2.2.1, ?_, this.2.2.2.2⟩
    rw [lvl_app this.2.1 this.2.2.1]
    exact this.2.2.2.1

theorem grow_good : ∀ (x : List EntryP) {l : List ItemP}, Good l → Good (growE x l)
  | [], _, h => h
  | e :: x, _, h => grow_good x (h.snoc e)
theorem grow_len : ∀ (x : List EntryP) (l : List ItemP), (growE x l).length = l.length + x.length
  | [], l => by simp [growE]
  | e :: x, l => by rw [growE, grow_len x]; simp; omega
theorem raw_good (x : List EntryP) : Good (rawE x) :=
  grow_good _ ⟨by simp, ⟨rfl, rfl⟩, fun i h0 h1 => by simp at h1; omega⟩
theorem raw_len (x : List EntryP) : (rawE x).length = min 20 x.length + 1 := by
  rw [rawE, grow_len, List.length_take]
  simp
  omega
theorem of_len (x : List EntryP) : (ofE x).length = min 20 x.length + 1 := by
  rw [ofE, List.length_mapIdx, raw_len]
theorem of_get {x : List EntryP} {i : Nat} (hi : i < (rawE x).length) : (ofE x).getD i default = { (rawE x).getD i default with cat := catE (rawE x) x i } := by
  rw [List.getD_eq_getElem?_getD, List.getD_eq_getElem?_getD, ofE, List.getElem?_mapIdx, List.getElem?_eq_getElem hi]
  rfl
theorem of_good (x : List EntryP) : Good (ofE x) := by
  have h := raw_good x
  have hl : (ofE x).length = (rawE x).length := by rw [of_len, raw_len]
  have h0 : 0 < (rawE x).length := List.length_pos_iff.2 h.ne
  refine ⟨fun e => by rw [e] at hl; simp at hl; omega, by rw [of_get h0]; exact h.root, fun i hi1 hi2 => ?_⟩
  rw [hl] at hi2
  rw [of_get hi2]
  have := h.item i hi1 hi2
  refine ⟨this.1, this.2.1, this.2.2.1, ?_, this.2.2.2.2⟩
  unfold lvl
  simp only
  rw [of_get (by omega)]
  exact this.2.2.2.1
theorem Good.ord {l : List ItemP} (h : Good l) : ordE l = true := by
  refine List.all_eq_true.2 fun i hi => ?_
  have hi := List.mem_range.1 hi
  by_cases h0 : i = 0
  · subst h0
    simp only [badAt, h.root.2]
    simp
  · have := h.item i (by omega) hi
    simp only [badAt, Bool.not_eq_true', Bool.or_eq_false_iff, Bool.and_eq_false_iff, decide_eq_false_iff_not]
    have h4 := this.2.2.2.1
    unfold lvl at h4
    exact ⟨⟨by omega, by omega⟩, .inr (by omega)⟩

/-! ### The group that a law picks -/
def downE (l : List ItemP) : Nat → Nat
  | 0 => 0
  | i + 1 => if (l.getD (i + 1) default).cat ≠ 0 ∨ 49 < (l.getD (i + 1) default).level then downE l i else i + 1
def groupE (l : List ItemP) (at_ : Nat) : Nat := downE l (at_ % l.length)
theorem down_le (l : List ItemP) : ∀ i, downE l i ≤ i
  | 0 => Nat.le_refl _
  | i + 1 => by
    rw [downE]
    split
    · have := down_le l i
      omega
    · exact Nat.le_refl _
theorem down_ok {l : List ItemP} (h0 : (l.getD 0 default).cat = 0 ∧ (l.getD 0 default).level ≤ 49) : ∀ i, (l.getD (downE l i) default).cat = 0 ∧ (l.getD (downE l i) default).level ≤ 49
  | 0 => h0
  | i + 1 => by
    rw [downE]
    split
    · exact down_ok h0 i
    · rename_i h
      exact ⟨Classical.byContradiction fun e => h (.inl e), by omega⟩
theorem of_check (x : List EntryP) (at_ : Nat) : checkE (ofE x) (groupE (ofE x) at_ : Nat) = 0 ∧ groupE (ofE x) at_ < (ofE x).length := by
  have hg := of_good x
  have hl : 0 < (ofE x).length := List.length_pos_iff.2 hg.ne
  have h0 : 0 < (rawE x).length := List.length_pos_iff.2 (raw_good x).ne
  have hlt : groupE (ofE x) at_ < (ofE x).length := Nat.lt_of_le_of_lt (down_le _ _) (Nat.mod_lt _ hl)
  have hc := down_ok (l := ofE x) ⟨by rw [of_get h0]; simp [catE, groupAt], by rw [hg.root.1]; decide⟩ (at_ % (ofE x).length)
  refine ⟨?_, hlt⟩
  have hlen := of_len x
  unfold checkE
  rw [if_neg (by omega), if_neg (by rw [hg.ord]; simp), if_neg]
  unfold groupE at *
  rw [Int.toNat_natCast]
  intro h
  rcases h with h | h
  · exact h hc.1
  · omega
end Go.Prs

/-
  The laws of pairs, with no program in sight.
  Conditions: none.
-/
namespace Go.Prs
open Go.Col (Str digs)

def catOf (l : List ItemP) (i : Int) : Int := (l.getD i.toNat default).cat
def isP (la lb : List ItemP) (x y : Int) : Bool := decide (catOf la x ≠ 0) || decide (catOf lb y ≠ 0)
def isN (la lb : List ItemP) (x y : Int) : Bool := decide (catOf la x = 4) && decide (catOf lb y = 4)
/-- What the functions Pairs and Numbers answer. -/
def amongR (la lb : List ItemP) (g h : Int) (is : Int → Int → Bool) : List (Int × Int) × Int :=
  if checkE la g ≠ 0 then ([], checkE la g) else if checkE lb h ≠ 0 then ([], checkE lb h) else (pairsE (pathsE la g true) (pathsE lb h true) is, 0)
def pathR (l : List ItemP) (g item : Int) : List Str × Int :=
  if checkE l g ≠ 0 then ([], checkE l g) else if item < 0 ∨ (l.length : Int) ≤ item then ([], 1) else match lookA item (pathsE l g false) with
    | none => ([], 7)
    | some p => (p, 0)

end Go.Prs

/-
  The laws of pairs: names made different; the errors that a law expects; the law's counters.
  Conditions: none.
-/
namespace Go.Prs
open Go.Col (Str digs)

/-! ### PairsErrors -/
/-- What the law expects. -/
def wantE (l : List ItemP) (item : Int) : Int :=
  if item < 0 ∨ (l.length : Int) ≤ item then 1 else if ordE l = false then 1
  else if (l.getD item.toNat default).cat ≠ 0 ∨ 49 < (l.getD item.toNat default).level then 12 else 0
theorem want_check {l : List ItemP} (hl : l.length ≤ 30) (item : Int) : wantE l item = checkE l item := by
  unfold wantE checkE
  by_cases h : item < 0 ∨ (l.length : Int) ≤ item
  · rw [if_pos h, if_pos (.inr h)]
  · rw [if_neg h, if_neg (c := 2048 < l.length ∨ item < 0 ∨ (l.length : Int) ≤ item) (by omega)]
theorem check_far {l : List ItemP} (h : 2048 < l.length) (g : Int) : checkE l g = 1 := by
  unfold checkE
  rw [if_pos (.inl h)]
theorem check_nil (g : Int) : checkE [] g = 1 := by
  unfold checkE
  rw [if_pos]
  simp only [List.length_nil]
  omega
theorem among_first {la lb : List ItemP} {g h : Int} {is : Int → Int → Bool} (hb : checkE lb h = 0) : (amongR la lb g h is).2 = checkE la g := by
  unfold amongR
  split
  · rfl
  · rename_i h1
    rw [if_neg (by omega)]
    simp only
    omega
theorem among_second {la lb : List ItemP} {g h : Int} {is : Int → Int → Bool} (ha : checkE la g = 0) : (amongR la lb g h is).2 = checkE lb h := by
  unfold amongR
  rw [if_neg (by omega)]
  split
  · rfl
  · rename_i h1
    simp only
    omega
theorem among_none {la lb : List ItemP} {g h : Int} {is : Int → Int → Bool} (he : (amongR la lb g h is).2 ≠ 0) : (amongR la lb g h is).1 = [] := by
  unfold amongR at he ⊢
  split
  · rfl
  · rename_i h1
    rw [if_neg h1] at he
    split
    · rfl
    · rename_i h2
      rw [if_neg h2] at he
      exact absurd rfl he
theorem among_bad {la lb : List ItemP} {g h : Int} {is : Int → Int → Bool} (ha : checkE la g = 1) : amongR la lb g h is = ([], 1) := by
  unfold amongR
  rw [if_pos (by omega), ha]

end Go.Prs

/-
  Items in the walks' words; whether an item may correspond to another one.
  Conditions: none.
-/
namespace Go.Proofs.YtgnebodlkfblcaaDoor
open Go.AM
open Go.Proofs
open Go.Col
open Go.Prs
open Go.RowKit (Below)
set_option maxRecDepth 100000


/-- What an item holds besides. -/
structure ItemO where
  us : Int
  pic : Str
  dig : Int
  scl : Int
  sgn : Bool
  lea : Bool
  sep : Bool
  jus : Bool
  bla : Bool
  siz : Int
  at_ : Int
  lst : Int
  fst_ : Int
  lst2 : Int
  val : AVal
  hval : val.scal = true
instance : Inhabited ItemO := ⟨⟨0, [], 0, 0, false, false, false, false, false, 0, 0, 0, 0, 0, .nilSlice, rfl⟩⟩
def itemC (x : ItemP) (o : ItemO) : List AVal := [.str x.name, .int .i64 x.level, .int .i64 x.parent, .int .u8 x.cat, .int .u8 o.us, .str o.pic, .int .i64 o.dig, .int .i64 o.scl, .bool o.sgn, .bool o.lea, .bool o.sep, .bool o.jus, .bool o.bla, .int .i64 o.siz, .int .i64 o.at_, .int .i64 x.occurs, .int .i64 o.lst, .int .i64 x.depends, .int .i64 x.redefines, .int .i64 o.fst_, .int .i64 o.lst2, o.val]

theorem c_eligible (w₀ : World) (h : AHeap) (x : ItemP) (o : ItemO) : ACall Tryd.prog w₀ 31 [.agg (itemC x o)] h (fun v h' => v = .bool (eligE x) ∧ h' = h) := by
  unfold itemC
  refine acall_intro (n := 31) (rs := [.tmp 2]) Tryd.func31 rfl rfl rfl rfl (Nat.le_of_ble_eq_true rfl) ?_
  simp only [initSlots]
  -- region 0  pairs.go:42
  refine awp_rseq [1] (by rfl) fun K hK => ?_
  refine aOps_box (by rfl) (by rfl) (by rfl) fun k0q0 hk0q0 => ?_
  try have hf_0q0 : h k0q0 = none := by first | assumption | (simp only [AHeap.set_none] at hk0q0; simp only [hk0q0])
  skip
  simp (decide := true) only [aOps_nil, ev, absV, absS, putD, Slots.put, Slots.get, Slots.keep, if_true, if_false, true_and, ↓ap_assign, pop_assign, AVal.cells]
  apply hK; clear hK K
  -- region 1  pairs.go:43
  refine awp_rseq [2] (by kernel_rfl) fun K hK => ?_
  simp (decide := true) only [aOps_nil, ev, absV, absS, putD, Slots.put, Slots.get, Slots.keep, if_true, if_false, true_and, ↓ap_fieldAddr, pop_fieldAddr, fa44_1, ↓ap_loadL, apL_mk, pLoad_one ag3, ↓ap_binOp, pop_binOp, isNilC_int, cond_false, pBinX_int, pI_geq, ↓ap_move, pop_move, ↓ag_fieldAddr, agP, agQ_some, nthDst, gKnown_bool, guardB_bool_true, implies_true, ↓ag_loadL, agQL_some, agL_mk, agL_ld1, ↓ag_binOp, cv_binl, cp_binl, pI_leq, ↓ap_pick, pop_pick, pPick_bool, pickV_cond_l, pickV_and, fa44_0, pLoad_one ag9, isNilC_str, pBinX_str, pS_neq, fa44_8, pI_lss, fa44_7, fa44_5, ↓ap_assign, pop_assign, rd_any, List.getD_cons_zero, List.getD_cons_succ, Nat.zero_add, lv_int, lv_str]
  apply hK; clear hK K
  refine awp_ret ?_
  refine retA_ret h (by repeat (first | exact Sub.refl _ | assumption | refine Sub.trans_set ?_ (by assumption))) (resPre_tmp (resPre_nil)) ?_
  simp (decide := true) only [Slots.get, if_true, and_true, resOf_one]
  unfold eligE
  rw [show (x.name == filler) = decide (x.name = [70, 73, 76, 76, 69, 82]) from by unfold filler; by_cases e : x.name = [70, 73, 76, 76, 69, 82] <;> simp [e]]
theorem c_isP (w₀ : World) (h : AHeap) (x y : ItemP) (o q : ItemO) : ACall Tryd.prog w₀ 18 [.agg (itemC x o), .agg (itemC y q)] h (fun v h' => v = .bool (decide (x.cat ≠ 0) || decide (y.cat ≠ 0)) ∧ h' = h) := by
  unfold itemC
  refine acall_intro (n := 15) (rs := [.tmp 4]) Tryd.func18 rfl rfl rfl rfl (Nat.le_of_ble_eq_true rfl) ?_
  simp only [initSlots]
  -- region 0  pairs.go:64
  refine awp_rseq [2, 3] (by rfl) fun K hK => ?_
  refine aOps_box (by rfl) (by rfl) (by rfl) fun k0q0 hk0q0 => ?_
  try have hf_0q0 : h k0q0 = none := by first | assumption | (simp only [AHeap.set_none] at hk0q0; simp only [hk0q0])
  skip
  refine aOps_box (by rfl) (by rfl) (by rfl) fun k0q1 hk0q1 => ?_
  have ne_0q1_0q0 : k0q1 ≠ k0q0 := by simp only [AHeap.set_none] at hk0q1; simp only [hk0q1, ne_eq, not_false_eq_true]
  try have hf_0q1 : h k0q1 = none := by first | assumption | (simp only [AHeap.set_none] at hk0q1; simp only [hk0q1])
  skip
  simp (decide := true) only [aOps_nil, ev, absV, absS, putD, Slots.put, Slots.get, Slots.keep, if_true, if_false, true_and, ↓ap_assign, pop_assign, AVal.cells, Nat.zero_add]
  apply hK; clear hK K
  -- region 1  pairs.go:65
  refine awp_rseq [4] (by rfl) fun K hK => ?_
  simp (decide := true) only [aOps_nil, ev, absV, absS, putD, Slots.put, Slots.get, Slots.keep, if_true, if_false, true_and, ↓ap_fieldAddr, pop_fieldAddr, fa44_3, fa41_0, ↓ap_loadL, apL_mk, pLoad_one ag38, ↓ap_binOp, pop_binOp, isNilC_int, cond_false, pBinX_int, pI_neq, ↓ap_move, pop_move, ↓ag_fieldAddr, agP, agQ_some, nthDst, gKnown_bool, guardB_bool_false, implies_true, Bool.not_not, cv_fieldAddr, cp_fieldAddr, ↓ag_loadL, agQL_some, agL_mk, agL_ld5, ↓ag_binOp, cv_binl, cp_binl, ↓ap_pick, pop_pick, pPick_bool, pickV_cond_rn, pickV_or, ↓ap_assign, pop_assign, rd_ne', ne_eq, not_false_eq_true, ne_0q1_0q0.symm, rd_any, List.getD_cons_zero, List.getD_cons_succ, Nat.zero_add, Nat.reduceAdd, lv_int]
  apply hK; clear hK K
  refine awp_ret ?_
  refine retA_ret h (by repeat (first | exact Sub.refl _ | assumption | refine Sub.trans_set ?_ (by assumption))) (resPre_tmp (resPre_nil)) ?_
  simp (decide := true) only [Slots.get, if_true, and_true, resOf_one, ne_eq]
  simp only [decide_not]
theorem c_isN (w₀ : World) (h : AHeap) (x y : ItemP) (o q : ItemO) : ACall Tryd.prog w₀ 19 [.agg (itemC x o), .agg (itemC y q)] h (fun v h' => v = .bool (decide (x.cat = 4) && decide (y.cat = 4)) ∧ h' = h) := by
  unfold itemC
  refine acall_intro (n := 15) (rs := [.tmp 4]) Tryd.func19 rfl rfl rfl rfl (Nat.le_of_ble_eq_true rfl) ?_
  simp only [initSlots]
  -- region 0  pairs.go:71
  refine awp_rseq [2, 3] (by rfl) fun K hK => ?_
  refine aOps_box (by rfl) (by rfl) (by rfl) fun k0q0 hk0q0 => ?_
  try have hf_0q0 : h k0q0 = none := by first | assumption | (simp only [AHeap.set_none] at hk0q0; simp only [hk0q0])
  skip
  refine aOps_box (by rfl) (by rfl) (by rfl) fun k0q1 hk0q1 => ?_
  have ne_0q1_0q0 : k0q1 ≠ k0q0 := by simp only [AHeap.set_none] at hk0q1; simp only [hk0q1, ne_eq, not_false_eq_true]
  try have hf_0q1 : h k0q1 = none := by first | assumption | (simp only [AHeap.set_none] at hk0q1; simp only [hk0q1])
  skip
  simp (decide := true) only [aOps_nil, ev, absV, absS, putD, Slots.put, Slots.get, Slots.keep, if_true, if_false, true_and, ↓ap_assign, pop_assign, AVal.cells, Nat.zero_add]
  apply hK; clear hK K
  -- region 1  pairs.go:72
  refine awp_rseq [4] (by rfl) fun K hK => ?_
  simp (decide := true) only [aOps_nil, ev, absV, absS, putD, Slots.put, Slots.get, Slots.keep, if_true, if_false, true_and, ↓ap_fieldAddr, pop_fieldAddr, fa44_3, fa41_0, ↓ap_loadL, apL_mk, pLoad_one ag38, ↓ap_binOp, pop_binOp, isNilC_int, cond_false, pBinX_int, pI_eql, ↓ap_move, pop_move, ↓ag_fieldAddr, agP, agQ_some, nthDst, gKnown_bool, guardB_bool_true, implies_true, cv_fieldAddr, cp_fieldAddr, ↓ag_loadL, agQL_some, agL_mk, agL_ld1, ↓ag_binOp, cv_binl, cp_binl, ↓ap_pick, pop_pick, pPick_bool, pickV_cond_l, pickV_and, ↓ap_assign, pop_assign, rd_ne', ne_eq, not_false_eq_true, ne_0q1_0q0.symm, rd_any, List.getD_cons_zero, List.getD_cons_succ, Nat.zero_add, Nat.reduceAdd, lv_int]
  apply hK; clear hK K
  refine awp_ret ?_
  refine retA_ret h (by repeat (first | exact Sub.refl _ | assumption | refine Sub.trans_set ?_ (by assumption))) (resPre_tmp (resPre_nil)) ?_
  simp (decide := true) only [Slots.get, if_true, and_true, resOf_one]
  skip
end Go.Proofs.YtgnebodlkfblcaaDoor

/-
  Contracts: the check of a group.
  Conditions: none.
-/
namespace Go.Proofs.YtgnebodlkfblcaaDoor
open Go.AM
open Go.Proofs
open Go.Col
open Go.Prs
open Go.RowKit (Below)
set_option maxRecDepth 100000

/-- A row of items. -/
def itC (q : ItemP × ItemO) : List AVal := itemC q.1 q.2
def items (l : List (ItemP × ItemO)) : List ItemP := l.map Prod.fst
theorem items_len (l : List (ItemP × ItemO)) : (items l).length = l.length := List.length_map _
theorem items_getD (l : List (ItemP × ItemO)) (i : Nat) : (items l).getD i default = (l.getD i default).1 := by
  unfold items
  rw [List.getD_eq_getElem?_getD, List.getD_eq_getElem?_getD, List.getElem?_map]
  cases l[i]? <;> rfl
section
variable {w₀ : World} {h : AHeap} {l : List (ItemP × ItemO)}
theorem it_len {v : AVal} (ht : IsL w₀ h 22 v (l.map itC)) : ∀ H : AHeap, pLenH Tryd.prog H 25 v = ⟨True, .int .i64 l.length⟩ := by
  have := ht.len Tryd.underlying25
  rw [List.length_map] at this
  exact this
theorem it_open {v : AVal} (ht : IsL w₀ h 22 v (l.map itC)) (hn : 0 < l.length) : ∃ lc o c, v = .slice lc o l.length c := by
  obtain ⟨lc, o, c, e⟩ := ht.open (fun e => by rw [List.map_eq_nil_iff] at e; subst e; simp at hn)
  rw [List.length_map] at e
  exact ⟨lc, o, c, e⟩
theorem it_at {lc : AM.Loc} {o : Nat} {c : Cap} (ht : IsL w₀ h 22 (.slice lc o l.length c) (l.map itC)) {i : Nat} (hi : i < l.length) {x : ItemP} {q : ItemO} (hx : l.getD i default = (x, q)) : cellsAt w₀ h lc (o + i * 22) 22 = itemC x q := by
  have he := ht.elem (i := i) (by rw [List.length_map]; exact hi)
  rw [getD_map (ys := l) default hi, hx] at he
  exact he
theorem it_rd {lc : AM.Loc} {o : Nat} {c : Cap} (ht : IsL w₀ h 22 (.slice lc o l.length c) (l.map itC)) {i : Nat} (hi : i < l.length) {j : Nat} (hj : j < 22) : rd w₀ h lc (o + i * 22 + j) = (itC (l.getD i default)).getD j .dead := by
  have he := ht.at (i := i) (by rw [List.length_map]; exact hi) hj
  rwa [getD_map (ys := l) default hi] at he
theorem it_live {v : AVal} (ht : IsL w₀ h 22 v (l.map itC)) {i : Nat} (hi : i < l.length) {x : ItemP} {q : ItemO} (hx : l.getD i default = (x, q)) : allLive (itemC x q) = true := by
  obtain ⟨lc, o, c, rfl⟩ := it_open ht (by omega)
  have he := ht.elemLive (i := i) (by rw [List.length_map]; exact hi)
  rw [getD_map (ys := l) default hi, hx] at he
  exact he
/-- The level of an item's group, where there is one. -/
theorem it_rdc {lc : AM.Loc} {o : Nat} {c : Cap} (ht : IsL w₀ h 22 (.slice lc o l.length c) (l.map itC)) (p : Int) (i : Nat) (hi : i < l.length) : (p.toNat < l.length ∧ rd w₀ h lc (o + p.toNat * 22 + 1) = .int .i64 (l.getD p.toNat default).1.level) ∨ (¬ p.toNat < l.length ∧ ((i : Int) ≤ p) = True) := by
  by_cases hp : p.toNat < l.length
  · exact .inl ⟨hp, it_rd ht hp (j := 1) (by decide)⟩
  · exact .inr ⟨hp, eq_true (by omega)⟩
end
/-- The walk's test of an item. -/
theorem badAt_eq (l : List ItemP) (i : Nat) (x : ItemP) : badAt l i x = (decide (x.parent < -1) || decide ((i : Int) ≤ x.parent) || (decide (0 ≤ x.parent) && decide (x.level ≤ (l.getD x.parent.toNat default).level))) := rfl
theorem ordE_false {l : List ItemP} {i : Nat} (hi : i < l.length) (hb : badAt l i (l.getD i default) = true) : ordE l = false := by
  unfold ordE
  rw [List.all_eq_false]
  exact ⟨i, List.mem_range.2 hi, by rw [hb]; decide⟩
theorem ordE_true {l : List ItemP} (hb : ∀ i, i < l.length → badAt l i (l.getD i default) = false) : ordE l = true := by
  unfold ordE
  rw [List.all_eq_true]
  intro i hi
  rw [hb i (List.mem_range.1 hi)]
  rfl

set_option maxHeartbeats 1000000 in
theorem c_check (w₀ : World) (h : AHeap) (v : AVal) (sz g : Int) (l : List (ItemP × ItemO)) (hv : IsL w₀ h 22 v (l.map itC)) (hl : l.length ≤ 1099511627776) :
    ACall Tryd.prog w₀ 21 [.agg [v, .int .i64 sz, .int .i64 g]] h (fun r h' => r = .int .i64 (checkE (items l) g) ∧ h' = h) := by
  have hlv := hv.live
  have nv := it_len hv
  have hin := items_len l
  refine acall_intro (n := 72) (rs := [.tmp 2]) Tryd.func21 rfl rfl rfl rfl (Nat.le_of_ble_eq_true rfl) ?_
  simp only [initSlots]
  -- region 0  pairs.go:25
  refine awp_rseq [1] (by rfl) fun K hK => ?_
  refine aOps_box (by rfl) (by rfl) (by rfl) fun k0q0 hk0q0 => ?_
  try have hf_0q0 : h k0q0 = none := by first | assumption | (simp only [AHeap.set_none] at hk0q0; simp only [hk0q0])
  skip
  simp (decide := true) only [aOps_nil, ev, absV, absS, putD, Slots.put, Slots.get, Slots.keep, if_true, if_false, true_and, ↓ap_assign, pop_assign, AVal.cells]
  apply hK; clear hK K
  -- region 1  pairs.go:26
  refine awp_rseq [1, 3] (by rfl) fun K hK => ?_
  simp (decide := true) only [aOps_nil, ev, putD, Slots.put, Slots.get, Slots.keep, if_true, if_false, true_and, ↓ap_fieldAddr, pop_fieldAddr, fa35_0, fa27_0, ↓ap_loadL, apL_mk, pLoad_one ag25, ↓ap_assign, pop_assign, rd_any, List.getD_cons_zero, Nat.zero_add, hlv]
  apply hK; clear hK K
  refine awp_seq ?_
  -- region 2  pairs.go:27
  refine awp_rseq [1, 3, 24] (by rfl) fun K hK => ?_
  simp (decide := true) only [aOps_nil, ev, absV, absS, putD, Slots.put, Slots.get, Slots.keep, if_true, if_false, true_and, ↓ap_move, pop_move, ↓ap_len, pop_len, ↓ap_binOp, pop_binOp, isNilC_int, cond_false, pBinX_int, pI_gtr, ↓ag_fieldAddr, pop_fieldAddr, agP, agQ_some, nthDst, gKnown_bool, guardB_bool_false, implies_true, fa35_1, ↓ag_loadL, agQL_some, agL_mk, agL_ld2, pLoad_one ag3, ↓ag_binOp, cv_binl, cv_binr, cp_binl, cp_binr, pI_lss, ↓ap_pick, pop_pick, pPick_bool, pickV_cond_r, pickV_or, ↓ag_move, ↓ag_len, cv_len, cp_len, isNilC_tmp, pI_geq, rd_any, List.getD_cons_zero, List.getD_cons_succ, Nat.zero_add, lv_int, nv]
  apply hK; clear hK K
  refine awp_cond (b := _) rfl (fun hb1 => ?_) (fun hb1 => ?_)
  · try simp only [decide_eq_true_eq, Bool.or_eq_true] at hb1
    have e1 : checkE (items l) g = 1 := by
      unfold checkE
      rw [if_pos]
      rw [hin]
      omega
    -- region 3  pairs.go:28
    refine awp_rseq [2] (by rfl) fun K hK => ?_
    simp (decide := true) only [aOps_nil, ev, absV, absS, putD, Slots.put, Slots.keep, if_true, if_false, true_and, ↓ap_assign, pop_assign]
    apply hK; clear hK K
    refine awp_ret ?_
    try simp only [thenA_ret]
    refine retA_ret h (by repeat (first | exact Sub.refl _ | assumption | refine Sub.trans_set ?_ (by assumption))) (resPre_tmp (resPre_nil)) ?_
    simp (decide := true) only [Slots.get, if_true, and_true, resOf_one]
    rw [e1]
  · try simp only [decide_eq_false_iff_not, Bool.or_eq_false_iff] at hb1
    have hc : ¬ (2048 < l.length ∨ g < 0 ∨ (l.length : Int) ≤ g) := by
      omega
    obtain ⟨lc, o, c, rfl⟩ := it_open hv (by omega)
    refine awp_skip ?_
    change Awp _ _ _ _ _ _ _
    refine awp_seq ?_
    -- region 4  pairs.go:30
    refine awp_rseq [1, 3, 25, 26, 27] (by rfl) fun K hK => ?_
    simp (decide := true) only [aOps_nil, ev, absV, absS, putD, Slots.put, Slots.get, Slots.keep, if_true, if_false, true_and, ↓ap_move, pop_move, ↓ap_len, pop_len, pLen_slice Tryd.underlying25]
    apply hK; clear hK K
    refine awp_block ?_
    refine awp_loopG [1, 3, 25, 26, 27] (fun i : Nat => [(1, .ptr (.own k0q0) 0), (3, .slice lc o l.length c), (25, .slice lc o l.length c), (26, .int .i64 l.length), (27, .int .i64 i)]) (fun i : Nat => h.set k0q0 ⟨[.slice lc o l.length c, .int .i64 sz, .int .i64 g], 0⟩) (fun i : Nat => i ≤ l.length ∧ ∀ j, j < i → badAt (items l) j ((items l).getD j default) = false) (fun i : Nat => l.length - i) 0 (by rfl) (Sub.refl _) ⟨Nat.zero_le _, fun j hj => absurd hj (Nat.not_lt_zero _)⟩ ?_
    rintro i ⟨hi, hq⟩
    -- region 5  pairs.go:30
    refine awp_rseq [1, 3, 25, 26, 27, 28] (by rfl) fun K hK => ?_
    simp (decide := true) only [aOps_nil, ev, putD, Slots.put, Slots.get, Slots.keep, if_true, if_false, true_and, ↓ap_binOp, pop_binOp, isNilC_tmp, cond_false, pBinX_int, pI_lss]
    apply hK; clear hK K
    refine awp_seq (awp_cond (b := _) rfl (fun hb2 => ?_) (fun hb2 => ?_))
    · try simp only [decide_eq_true_eq] at hb2
      have hi' : i < l.length := by omega
      obtain ⟨⟨x, q⟩, hx⟩ : ∃ a, l.getD i default = a := ⟨_, rfl⟩
      have hca := it_at (hv.mono (h' := h.set k0q0 ⟨[.slice lc o l.length c, .int .i64 sz, .int .i64 g], 0⟩) (by repeat (first | exact Sub.refl _ | assumption | refine Sub.set_both ?_ _ _ | refine Sub.trans_set ?_ (by repeat (first | assumption | refine (AHeap.set_ne _ _ (by first | assumption | exact Ne.symm (by assumption))).trans ?_))))) hi' hx
      have hall := it_live hv hi' hx
      unfold itemC at hca hall
      have hxi : (items l).getD i default = x := by rw [items_getD, hx]
      refine awp_skip ?_
      change Awp _ _ _ _ _ _ _
      refine awp_seq ?_
      refine awp_block ?_
      -- region 6  pairs.go:30
      refine awp_rseq [1, 3, 4, 5, 25, 26, 27] (by rfl) fun K hK => ?_
      simp (decide := true) only [ev, putD, Slots.put, Slots.get, if_true, if_false, true_and, ↓ap_move, pop_move, ↓ap_indexAddrL, apL_mk, pIndexAddr_slice Tryd.underlying25 sz44, ↓ap_loadL, pLoad_agg ag44 sz44, ↓hca, hall, Int.toNat_natCast]
      repeat (with_reducible refine And.intro ?_ ?_; · first | trivial | omega | (intro hg; simp only [Bool.and_eq_true, Bool.or_eq_true, Bool.not_eq_true', Bool.and_eq_false_iff, Bool.or_eq_false_iff, Bool.not_eq_false', decide_eq_true_eq, decide_eq_false_iff_not, eqNil] at hg; omega) )
      refine aOps_alloc ze44 (cs := [.str [], .int .i64 0, .int .i64 0, .int .u8 0, .int .u8 0, .str [], .int .i64 0, .int .i64 0, .bool false, .bool false, .bool false, .bool false, .bool false, .int .i64 0, .int .i64 0, .int .i64 0, .int .i64 0, .int .i64 0, .int .i64 0, .int .i64 0, .int .i64 0, .nilSlice]) (by rfl) fun k6q3 hk6q3 => ?_
      have ne_6q3_0q0 : k6q3 ≠ k0q0 := by simp only [AHeap.set_none] at hk6q3; simp only [hk6q3, ne_eq, not_false_eq_true]
      try have hf_6q3 : h k6q3 = none := by first | assumption | (simp only [AHeap.set_none] at hk6q3; simp only [hk6q3])
      simp (decide := true) only [ev, putD, Slots.put, Slots.get, if_true, if_false, true_and, ↓ap_assign, pop_assign]
      refine aOps_store (by rfl) (by rfl) (by repeat (first | exact AHeap.set_same _ _ _ | assumption | refine (AHeap.set_ne _ _ (by first | assumption | exact Ne.symm (by assumption))).trans ?_)) sz44 (by rfl) (by rfl) (by first | exact Nat.le_refl _ | decide | (simp; done) | (simp; omega)) (Nat.zero_le _) (by first | rfl | (simp (decide := true) only [ev, Slots.get, if_true, if_false, AVal.cells, allScal, Bool.and_true, sc_bool, sc_int, sc_str, q.hval])) ?_
      simp only [AHeap.set_set, AVal.cells]
      simp (decide := true) only [aOps_nil, ev, putD, Slots.get, Slots.keep, if_true, if_false, setAt, List.set_cons_zero, List.set_cons_succ, Nat.zero_add, Nat.reduceAdd]
      apply hK; clear hK K
      have hv7 := hv.mono (h' := (h.set k0q0 ⟨[.slice lc o l.length c, .int .i64 sz, .int .i64 g], 0⟩).set k6q3 ⟨itemC x q, 0⟩) (by repeat (first | exact Sub.refl _ | assumption | refine Sub.set_both ?_ _ _ | refine Sub.trans_set ?_ (by repeat (first | assumption | refine (AHeap.set_ne _ _ (by first | assumption | exact Ne.symm (by assumption))).trans ?_))))
      unfold itemC at hv7
      rcases it_rdc hv7 x.parent i hi' with ⟨hp, hrd⟩ | ⟨hp, hrd⟩
      all_goals clear hv7 hca hall
      all_goals
        -- region 7  pairs.go:31
        refine awp_dseq_all [1, 3, 25, 26, 27, 56] mixed (by kernel_rfl) (by kernel_rfl) (by kernel_rfl) fun K hK => ?_
        simp (decide := true) only [aOps_nil, ev, absV, absS, putD, Slots.put, Slots.get, Slots.keep, if_true, if_false, true_and, ↓ap_fieldAddr, pop_fieldAddr, fa44_2, ↓ap_loadL, apL_mk, pLoad_one ag3, ↓ap_binOp, pop_binOp, isNilC_int, cond_false, pBinX_int, pI_lss, ↓ap_move, pop_move, ↓ag_fieldAddr, agP, agQ_some, nthDst, gKnown_bool, gKnown_cond, guardB_cond, guardB_bool_true, guardB_bool_false, cv_cv, implies_true, decide_true, Bool.not_true, condV_false, false_implies, pickV_true, Bool.or_true, cv_fieldAddr, cp_fieldAddr, agL_deadT, agL_deadU, ↓ag_loadL, agQL_some, agL_mk, agL_ld2, agL_ld3, ↓ag_move, ↓ag_binOp, isNilC_tmp, cv_binl, cv_binr, cp_binl, cp_binr, pI_geq, ↓ap_pick, pop_pick, pPick_bool, pickV_cond_r, cp_nest1, pickV_and, pickV_or, ↓ag_indexAddrL, agL_il3, agL_ir3, pIndexAddr_slice Tryd.underlying25 sz44, fa44_1, ↓ag_pick, cv_pick, cp_pick, rd_any, List.getD_cons_zero, List.getD_cons_succ, Nat.zero_add, lv_int, hrd]
        repeat (with_reducible refine And.intro ?_ ?_; · first | trivial | omega | (intro hg; simp only [Bool.and_eq_true, Bool.not_eq_true', Bool.or_eq_false_iff, decide_eq_true_eq, decide_eq_false_iff_not] at hg; omega) )
        apply hK; clear hK K
        refine awp_cond (b := _) rfl (fun hb3 => ?_) (fun hb3 => ?_)
        · try simp only [decide_eq_true_eq, Bool.and_eq_true, Bool.or_eq_true] at hb3
          -- region 8  pairs.go:32
          refine awp_rseq [2] (by rfl) fun K hK => ?_
          simp (decide := true) only [aOps_nil, ev, absV, absS, putD, Slots.put, Slots.keep, if_true, if_false, true_and, ↓ap_assign, pop_assign]
          apply hK; clear hK K
          refine awp_ret ?_
          try simp only [thenA_ret, inBlockA_ret]
          refine retA_ret h (by repeat (first | exact Sub.refl _ | assumption | refine Sub.trans_set ?_ (by assumption))) (resPre_tmp (resPre_nil)) ?_
          simp (decide := true) only [Slots.get, if_true, and_true, resOf_one]
          have hbad : badAt (items l) i ((items l).getD i default) = true := by
            simp only [hxi, badAt_eq, items_getD, Bool.or_eq_true, Bool.and_eq_true, decide_eq_true_eq]
            first | exact hb3 | omega
          have e1 : checkE (items l) g = 1 := by
            unfold checkE
            rw [if_neg (by rw [hin]; omega), if_pos (ordE_false (by rw [hin]; exact hi') hbad)]
          rw [e1]
        · try (exact absurd hb3 (by decide))
          all_goals
            try simp only [decide_eq_false_iff_not, Bool.and_eq_false_iff, Bool.or_eq_false_iff] at hb3
            refine awp_skip ?_
            change Awp _ _ _ _ _ _ _
            -- region 9  pairs.go:30
            refine awp_r [1, 3, 25, 26, 27] (by rfl) ?_
            simp (decide := true) only [aOps_nil, ev, absV, absS, putD, Slots.put, Slots.get, Slots.keep, if_true, if_false, true_and, ↓ap_binOp, pop_binOp, isNilC_int, cond_false, pBinX_int, pI_add, ↓ap_move, pop_move]
            try simp (disch := omega) only [wrap_i64]
            try simp only [thenA_normal]
            refine ⟨i + 1, rfl, (by repeat (first | exact Sub.refl _ | assumption | refine Sub.set_both ?_ _ _ | refine Sub.trans_set ?_ (by repeat (first | assumption | refine (AHeap.set_ne _ _ (by first | assumption | exact Ne.symm (by assumption))).trans ?_)))), ⟨hi', fun j hj => ?_⟩, by omega⟩
            rcases Nat.lt_succ_iff_lt_or_eq.1 hj with hj | rfl
            · exact hq j hj
            · rw [hxi]
              simp only [badAt_eq, items_getD]
              simp only [Bool.or_eq_false_iff, Bool.and_eq_false_iff, decide_eq_false_iff_not]
              exact hb3
    · try simp only [decide_eq_false_iff_not] at hb2
      have hord : ordE (items l) = true := ordE_true fun j hj => hq j (by rw [hin] at hj; omega)
      have hg1 : g.toNat < l.length := by omega
      obtain ⟨⟨x, q⟩, hx⟩ : ∃ a, l.getD g.toNat default = a := ⟨_, rfl⟩
      have hca := it_at (hv.mono (h' := h.set k0q0 ⟨[.slice lc o l.length c, .int .i64 sz, .int .i64 g], 0⟩) (by repeat (first | exact Sub.refl _ | assumption | refine Sub.set_both ?_ _ _ | refine Sub.trans_set ?_ (by repeat (first | assumption | refine (AHeap.set_ne _ _ (by first | assumption | exact Ne.symm (by assumption))).trans ?_))))) hg1 hx
      have hall := it_live hv hg1 hx
      unfold itemC at hca hall
      have hchk : checkE (items l) g = if x.cat ≠ 0 ∨ 49 < x.level then 12 else 0 := by
        unfold checkE
        rw [if_neg (by rw [hin]; omega), if_neg (by rw [hord]; decide), items_getD, hx]
      refine awp_exit ?_
      change Awp _ _ _ _ _ _ _
      refine awp_seq ?_
      -- region 10  pairs.go:35
      refine awp_rseq [6] (by rfl) fun K hK => ?_
      simp (decide := true) only [ev, putD, Slots.put, Slots.get, if_true, if_false, true_and, ↓ap_move, pop_move, ↓ap_fieldAddr, pop_fieldAddr, fa35_1, ↓ap_loadL, apL_mk, pLoad_one ag3, ↓ap_indexAddrL, pIndexAddr_slice Tryd.underlying25 sz44, pLoad_agg ag44 sz44, rd_any, List.getD_cons_zero, List.getD_cons_succ, Nat.zero_add, lv_int, ↓hca, hall]
      repeat (with_reducible refine And.intro ?_ ?_; · first | trivial | omega | (intro hg; simp only [Bool.and_eq_true, Bool.or_eq_true, Bool.not_eq_true', Bool.and_eq_false_iff, Bool.or_eq_false_iff, Bool.not_eq_false', decide_eq_true_eq, decide_eq_false_iff_not, eqNil] at hg; omega) )
      refine aOps_alloc ze44 (cs := [.str [], .int .i64 0, .int .i64 0, .int .u8 0, .int .u8 0, .str [], .int .i64 0, .int .i64 0, .bool false, .bool false, .bool false, .bool false, .bool false, .int .i64 0, .int .i64 0, .int .i64 0, .int .i64 0, .int .i64 0, .int .i64 0, .int .i64 0, .int .i64 0, .nilSlice]) (by rfl) fun k10q5 hk10q5 => ?_
      have ne_10q5_0q0 : k10q5 ≠ k0q0 := by simp only [AHeap.set_none] at hk10q5; simp only [hk10q5, ne_eq, not_false_eq_true]
      try have hf_10q5 : h k10q5 = none := by first | assumption | (simp only [AHeap.set_none] at hk10q5; simp only [hk10q5])
      refine aOps_store (by rfl) (by rfl) (by repeat (first | exact AHeap.set_same _ _ _ | assumption | refine (AHeap.set_ne _ _ (by first | assumption | exact Ne.symm (by assumption))).trans ?_)) sz44 (by rfl) (by rfl) (by first | exact Nat.le_refl _ | decide | (simp; done) | (simp; omega)) (Nat.zero_le _) (by first | rfl | (simp (decide := true) only [ev, putD, Slots.put, Slots.get, if_true, if_false, AVal.cells, allScal, Bool.and_true, sc_bool, sc_int, sc_str, q.hval])) ?_
      simp only [AHeap.set_set, AVal.cells]
      simp (decide := true) only [aOps_nil, ev, putD, Slots.put, Slots.get, Slots.keep, if_true, if_false, setAt, List.set_cons_zero, List.set_cons_succ, Nat.zero_add, Nat.reduceAdd]
      apply hK; clear hK K
      -- region 11  pairs.go:35
      refine awp_rseq [71] (by rfl) fun K hK => ?_
      simp (decide := true) only [aOps_nil, ev, absV, absS, putD, Slots.put, Slots.get, Slots.keep, if_true, if_false, true_and, ↓ap_fieldAddr, pop_fieldAddr, fa44_3, fa41_0, ↓ap_loadL, apL_mk, pLoad_one ag38, ↓ap_binOp, pop_binOp, isNilC_int, cond_false, pBinX_int, pI_neq, ↓ap_move, pop_move, ↓ag_fieldAddr, agP, agQ_some, nthDst, gKnown_bool, guardB_bool_false, implies_true, Bool.not_not, fa44_1, ↓ag_loadL, agQL_some, agL_mk, agL_ld5, pLoad_one ag3, ↓ag_binOp, cv_binl, cp_binl, pI_gtr, ↓ap_pick, pop_pick, pPick_bool, pickV_cond_rn, pickV_or, rd_any, List.getD_cons_zero, List.getD_cons_succ, Nat.zero_add, Nat.reduceAdd, lv_int]
      apply hK; clear hK K
      refine awp_cond (b := _) rfl (fun hb4 => ?_) (fun hb4 => ?_)
      · try simp only [decide_eq_true_eq, decide_eq_false_iff_not, Bool.not_eq_true', Bool.or_eq_true] at hb4
        -- region 12  pairs.go:36
        refine awp_rseq [2] (by rfl) fun K hK => ?_
        simp (decide := true) only [aOps_nil, ev, absV, absS, putD, Slots.put, Slots.keep, if_true, if_false, true_and, ↓ap_assign, pop_assign]
        apply hK; clear hK K
        refine awp_ret ?_
        try simp only [thenA_ret]
        refine retA_ret h (by repeat (first | exact Sub.refl _ | assumption | refine Sub.trans_set ?_ (by assumption))) (resPre_tmp (resPre_nil)) ?_
        simp (decide := true) only [Slots.get, if_true, and_true, resOf_one]
        rw [hchk, if_pos (by omega)]
      · try simp only [decide_eq_true_eq, decide_eq_false_iff_not, Bool.not_eq_false', Bool.or_eq_false_iff] at hb4
        refine awp_skip ?_
        change Awp _ _ _ _ _ _ _
        -- region 13  pairs.go:38
        refine awp_rseq [2] (by rfl) fun K hK => ?_
        simp (decide := true) only [aOps_nil, ev, absV, absS, putD, Slots.put, Slots.keep, if_true, if_false, true_and, ↓ap_assign, pop_assign]
        apply hK; clear hK K
        refine awp_ret ?_
        refine retA_ret h (by repeat (first | exact Sub.refl _ | assumption | refine Sub.trans_set ?_ (by assumption))) (resPre_tmp (resPre_nil)) ?_
        simp (decide := true) only [Slots.get, if_true, and_true, resOf_one]
        rw [hchk, if_neg (by omega)]
end Go.Proofs.YtgnebodlkfblcaaDoor

