/-
  An assertion layer over the model's wp, part L: values that are bytes, and the operations that write, as a walk applies them.
  Conditions: none. Nothing here is about a particular program.
-/
import Derived.Test.YthiiakghjoeikaaGreatDoorAmK
set_option linter.unusedSimpArgs false
set_option linter.unnecessarySimpa false
set_option linter.unusedVariables false
namespace Go.AM

/-! ### A value that holds bytes -/
inductive IsB (w₀ : World) (h : AHeap) : AVal → List UInt8 → Prop
  | nil : IsB w₀ h .nilSlice []
  | mk (l : Loc) (o n : Nat) (c : Cap) (bs : List UInt8) (hn : n = bs.length) (hc : cellsAt w₀ h l o n = byteCells bs) (hcap : match c with | .exact c => n ≤ c | .grow g => g = 1) : IsB w₀ h (.slice l o n c) bs

theorem cellsAt_get (w₀ : World) (h : AHeap) (l : Loc) : ∀ (n o i : Nat), i < n → (cellsAt w₀ h l o n)[i]? = some (rd w₀ h l (o + i))
  | n + 1, o, 0, _ => by simp [cellsAt]
  | n + 1, o, i + 1, hi => by
    simp only [cellsAt, List.getElem?_cons_succ]
    rw [cellsAt_get w₀ h l n (o + 1) i (by omega)]
    congr 2
    omega

theorem cellsAt_own {w₀ : World} {h : AHeap} {k : Nat} {b : Blk} (hk : h k = some b) (o n : Nat) (hn : o + n ≤ b.cells.length) : cellsAt w₀ h (.own k) o n = (b.cells.drop o).take n := by
  apply List.ext_getElem?
  intro i
  by_cases hi : i < n
  · rw [cellsAt_get w₀ h (.own k) n o i hi]
    have : o + i < b.cells.length := by omega
    simp [rd, hk, hi, List.getD, List.getElem?_drop, this]
  · rw [List.getElem?_eq_none (by rw [cellsAt_length]; omega), List.getElem?_eq_none (by simp; omega)]

theorem rd_byte {w₀ : World} {h : AHeap} {l : Loc} {o : Nat} {bs : List UInt8} (hc : cellsAt w₀ h l o bs.length = byteCells bs) (i : Nat) (hi : i < bs.length) : rd w₀ h l (o + i) = .int .u8 (bs.getD i 0).toNat := by
  have := cellsAt_get w₀ h l bs.length o i hi
  rw [hc] at this
  simp only [byteCells, List.getElem?_map, List.getElem?_eq_getElem hi, Option.map_some, Option.some.injEq] at this
  rw [← this]
  simp [List.getD, hi]

/-- The pointer to an element. -/
def elemP : AVal → Nat → AVal
  | .slice l o _ _, i => .ptr l (o + i * 1)
  | _, _ => .dead

/-- A part of a slice of bytes. -/
def subV : AVal → Nat → Nat → AVal
  | .slice l o _ (.exact c), i, j => .slice l (o + i * 1) (j - i) (.exact (c - i))
  | .slice l o _ (.grow g), i, j => .slice l (o + i * 1) (j - i) (.grow g)
  | v, _, _ => v

section
variable {P : Program} {w₀ : World} {h : AHeap} {v : AVal} {bs : List UInt8}

theorem IsB.len (hb : IsB w₀ h v bs) {t e : TypeId} (ht : P.underlying t = some (.slice e)) : pLen P t v = ⟨True, .int .i64 bs.length⟩ := by
  cases hb with
  | nil => simp [pLen, ht]
  | mk l o n c bs hn hc hcap => simp [pLen, ht, hn]

theorem IsB.idx (hb : IsB w₀ h v bs) {t e : TypeId} (ht : P.underlying t = some (.slice e)) (hs : szOf P e = some 1) (k : IntKind) (n : Int) :
    pIndexAddr P t v (.int k n) = ⟨0 ≤ n ∧ n < bs.length, elemP v n.toNat⟩ := by
  cases hb with
  | nil =>
    simp only [pIndexAddr, elemP, PR.no, PR.mk.injEq, and_true]
    apply propext
    simp
  | mk l o n c bs hn hc hcap => simp [pIndexAddr, ht, hs, elemP, hn]

theorem IsB.load (hb : IsB w₀ h v bs) {t : TypeId} (ha : aggOf P t = some false) {i : Nat} (hi : i < bs.length) : pLoad P w₀ h t (elemP v i) = ⟨True, .int .u8 (bs.getD i 0).toNat⟩ := by
  cases hb with
  | nil => simp at hi
  | mk l o n c bs hn hc hcap =>
    subst hn
    simp only [elemP, pLoad, ha, Nat.mul_one, rd_byte hc i hi, AVal.live]

theorem IsB.conv (hb : IsB w₀ h v bs) {t u e : TypeId} (ht : P.underlying t = some (.slice e)) (hu : P.underlying u = some .string) (he : P.underlying e = some (.int .u8)) : pConv P w₀ h t u v = ⟨True, .str bs⟩ := by
  cases hb with
  | nil => simp [pConv, ht, hu, he]
  | mk l o n c bs hn hc hcap =>
    subst hn
    simp only [pConv, ht, hu, he, hc, byteCells_isU8, byteCells_byte]

theorem cellsAt_part (w₀ : World) (h : AHeap) (l : Loc) (o n i j : Nat) (hij : i ≤ j) (hj : j ≤ n) : cellsAt w₀ h l (o + i) (j - i) = ((cellsAt w₀ h l o n).drop i).take (j - i) := by
  apply List.ext_getElem?
  intro q
  by_cases hq : q < j - i
  · rw [cellsAt_get _ _ _ _ _ _ hq, List.getElem?_take, if_pos hq, List.getElem?_drop, cellsAt_get _ _ _ _ _ _ (by omega)]
    congr 2
    omega
  · rw [List.getElem?_eq_none (by rw [cellsAt_length]; omega), List.getElem?_eq_none (by simp; omega)]

theorem IsB.sub (hb : IsB w₀ h v bs) {i j : Nat} (hij : i ≤ j) (hj : j ≤ bs.length) : IsB w₀ h (subV v i j) ((bs.drop i).take (j - i)) := by
  cases hb with
  | nil =>
    simp only [List.length_nil] at hj
    simp only [subV, List.drop_nil, List.take_nil]
    exact .nil
  | mk l o n c bs hn hc hcap =>
    subst hn
    have e1 : cellsAt w₀ h l (o + i * 1) (j - i) = byteCells ((bs.drop i).take (j - i)) := by
      rw [Nat.mul_one, cellsAt_part w₀ h l o bs.length i j hij hj, hc]
      simp [byteCells, List.map_take, List.map_drop]
    cases c with
    | exact c => exact .mk l _ _ _ _ (by simp; omega) e1 (by simp only at hcap ⊢; omega)
    | grow g => exact .mk l _ _ _ _ (by simp; omega) e1 hcap

theorem IsB.slice (hb : IsB w₀ h v bs) {t e : TypeId} (ht : P.underlying t = some (.slice e)) (hs : szOf P e = some 1) (lo hi : Option AVal) {l r : Int} (hl : bndA lo 0 = some l) (hr : bndA hi bs.length = some r)
    (h0 : 0 ≤ l) (h1 : l ≤ r) (h2 : r ≤ bs.length) : pSlice P t v lo hi none = ⟨True, subV v l.toNat r.toNat⟩ := by
  cases hb with
  | nil =>
    simp only [List.length_nil] at h2 hr
    have e1 : l = 0 := by omega
    have e2 : r = 0 := by omega
    subst e1 e2
    simp only [pSlice, ht, hs, hl, hr, subV, and_self]
  | mk lc o n c bs hn hc hcap =>
    subst hn
    have e : (r - l).toNat = r.toNat - l.toNat := by omega
    cases c with
    | exact c =>
      simp only at hcap
      have e3 : ((c : Int) - l).toNat = c - l.toNat := by omega
      have e4 : r ≤ c := by omega
      simp only [pSlice, ht, hs, hl, hr, subV, e, e3, h0, h1, e4, and_self]
    | grow g =>
      simp only at hcap
      subst hcap
      simp only [pSlice, ht, hs, hl, hr, subV, e, h0, h1, h2, and_self]

theorem IsB.mono (hb : IsB w₀ h v bs) {h' : AHeap} (hs : Sub h h') : IsB w₀ h' v bs := by
  cases hb with
  | nil => exact .nil
  | mk l o n c bs hn hc hcap =>
    refine .mk l o n c bs hn ?_ hcap
    subst hn
    cases l with
    | base b =>
      rw [← hc]
      have : ∀ (m o : Nat), cellsAt w₀ h' (.base b) o m = cellsAt w₀ h (.base b) o m := by
        intro m
        induction m with
        | zero => intro o; rfl
        | succ m ih => intro o; simp only [cellsAt, ih]; rfl
      exact this _ _
    | own k =>
      cases hk : h k with
      | some b =>
        rw [← hc]
        have : ∀ (m o : Nat), cellsAt w₀ h' (.own k) o m = cellsAt w₀ h (.own k) o m := by
          intro m
          induction m with
          | zero => intro o; rfl
          | succ m ih => intro o; simp only [cellsAt, ih, rd, hk, hs k b hk]
        exact this _ _
      | none =>
        cases bs with
        | nil => rfl
        | cons b bs =>
          simp only [List.length_cons, cellsAt, rd, hk, byteCells, List.map_cons, List.cons.injEq] at hc
          exact absurd hc.1 (by simp)

/-- A block of bytes of the call's own. -/
theorem IsB.own {k : Nat} {f : Nat} (hk : h k = some ⟨byteCells bs, f⟩) {n : Nat} (hn : n = bs.length) {c : Cap} (hcap : match c with | .exact c => n ≤ c | .grow g => g = 1) : IsB w₀ h (.slice (.own k) 0 n c) bs := by
  refine .mk _ _ _ _ _ hn ?_ hcap
  subst hn
  rw [cellsAt_own hk 0 _ (by simp [byteCells])]
  simp only [List.drop_zero]
  exact List.take_of_length_le (by simp [byteCells])
end

theorem rd_set (w₀ : World) (h : AHeap) (k o : Nat) (b : Blk) : rd w₀ (h.set k b) (.own k) o = b.cells.getD o .dead := by simp [rd, AHeap.set_same]
theorem byteCells_getD {bs : List UInt8} {i : Nat} (hi : i < bs.length) : (byteCells bs).getD i .dead = .int .u8 (bs.getD i 0).toNat := by
  simp [byteCells, List.getD, List.getElem?_eq_getElem hi]

theorem setAt_byteCells : ∀ (bs : List UInt8) (i : Nat) (n : Int), 0 ≤ n → n ≤ 255 → setAt (byteCells bs) i [.int .u8 n] = byteCells (bs.set i (UInt8.ofNat n.toNat)) := by
  intro bs i n h0 h1
  simp only [setAt, byteCells, List.map_set]
  congr 1
  have : (UInt8.ofNat n.toNat).toNat = n.toNat := by simp; omega
  rw [this]
  congr 1
  omega

theorem byteCells_append (a b : List UInt8) : byteCells (a ++ b) = byteCells a ++ byteCells b := by simp [byteCells]

/-! ### Operations that write, as a walk applies them -/
section
variable {P : Program} {w₀ : World} {ops rest : List Oper} {s : Slots} {h : AHeap} {K : Slots → AHeap → Prop} {dst : Option Tmp} {ty : TypeId} {pos : String} {af : Array Edge}

/-- A guard of a known value: it runs. -/
theorem aOps_yes {op : Op} {j : Nat} {want : Bool} (hg : gv s ops j = .bool want) (hk : aOps P w₀ ops (⟨dst, op, ty, pos, af, none⟩ :: rest) s h K) :
    aOps P w₀ ops (⟨dst, op, ty, pos, af, some (j, want)⟩ :: rest) s h K := by
  unfold gv at hg
  cases hj : nthDst ops j with
  | none => rw [hj] at hg; cases hg
  | some d =>
    rw [hj] at hg
    simp only at hg
    by_cases hp : pureOp P op = true
    · rw [aOps_g hj hp, hg]
      rw [aOps_p hp] at hk
      have e : guardB (.bool want) want = true := by simp [guardB]
      rw [e]
      exact ⟨rfl, fun _ => hk.1, hk.2⟩
    · refine aOps_ge hj (by simpa using hp) (by rw [hg]; rfl) (fun _ => hk) (fun e => ?_)
      rw [hg] at e
      simp [guardB] at e

/-- A guard of a known value: it does not run. -/
theorem aOps_no {op : Op} {j : Nat} {want b : Bool} (hg : gv s ops j = .bool b) (hb : b = !want) (hk : aOps P w₀ ops rest (putD s dst (.tuple [])) h K) :
    aOps P w₀ ops (⟨dst, op, ty, pos, af, some (j, want)⟩ :: rest) s h K := by
  unfold gv at hg
  subst hb
  cases hj : nthDst ops j with
  | none => rw [hj] at hg; cases hg
  | some d =>
    rw [hj] at hg
    simp only at hg
    have e : guardB (.bool (!want)) want = false := by cases want <;> rfl
    by_cases hp : pureOp P op = true
    · rw [aOps_g hj hp, hg, e]
      exact ⟨rfl, fun e' => (by cases e'), hk⟩
    · refine aOps_ge hj (by simpa using hp) (by rw [hg]; rfl) (fun e' => ?_) (fun _ => hk)
      rw [hg, e] at e'
      cases e'

theorem aOps_strBytes {t u e : TypeId} {x : Operand} {b : List UInt8} (ht : P.underlying t = some .string) (hu : P.underlying u = some (.slice e)) (he : P.underlying e = some (.int .u8)) (hx : ev s x = .str b)
    (hl : b.length < 9223372036854775808) (hk : ∀ k, h k = none → aOps P w₀ ops rest (putD s dst (.slice (.own k) 0 b.length (.grow 1))) (h.set k ⟨byteCells b, 0⟩) K) :
    aOps P w₀ ops (⟨dst, .convert t u x, ty, pos, af, none⟩ :: rest) s h K := by
  rw [aOps_e]
  simp only [eop, hx]
  rw [if_pos (by simp [eStrBytes, ht, hu, he])]
  exact ⟨hl, hk⟩

/-- A constant text in a conversion to bytes. -/
theorem aOps_same {t e : TypeId} {x : Operand} {k o n : Nat} {c : Cap} {b : Blk} (ht : P.underlying t = some (.slice e)) (he : P.underlying e = some (.int .u8)) (hx : ev s x = .slice (.own k) o n c) (hn : n ≠ 0) (hb : h k = some b) (hf : b.frz = 0)
    (hk : aOps P w₀ ops rest (putD s dst (.slice (.own k) o n c)) h K) :
    aOps P w₀ ops (⟨dst, .convert t t x, ty, pos, af, none⟩ :: rest) s h K := by
  rw [aOps_e]
  simp only [eop, hx]
  rw [if_pos (by simp [eSame, ht, he])]
  exact ⟨⟨hn, by rw [hb]; exact hf⟩, hk⟩

theorem aOps_store {t : TypeId} {x y : Operand} {k o n : Nat} {b : Blk} {v : AVal} (hx : ev s x = .ptr (.own k) o) (hv : ev s y = v) (hb : h k = some b) (hn : szOf P t = some n) (hl : v.live = true) (hc : v.cells.length = n)
    (ho : o + n ≤ b.cells.length) (hf : b.frz ≤ o) (hs : allScal v.cells = true) (hk : aOps P w₀ ops rest (putD s dst (.tuple [])) (h.set k ⟨setAt b.cells o v.cells, b.frz⟩) K) :
    aOps P w₀ ops (⟨dst, .store t x y, ty, pos, af, none⟩ :: rest) s h K := by
  rw [aOps_e]
  simp only [eop, eStore, hx, hv, hb, hn]
  exact ⟨⟨hl, hc, by omega, hf, hs⟩, hk⟩

/-- A byte is written into a row of bytes. -/
theorem aOps_storeByte {t : TypeId} {x y : Operand} {k o i f : Nat} {n : Int} {bs : List UInt8} {h₀ : AHeap} (hx : ev s x = .ptr (.own k) o) (hv : ev s y = .int .u8 n) (ht : szOf P t = some 1) (hh : h = h₀.set k ⟨byteCells bs, f⟩) (ho : o = i)
    (hi : i < bs.length) (hf : f ≤ i) (h0 : 0 ≤ n) (h1 : n ≤ 255) (hk : aOps P w₀ ops rest (putD s dst (.tuple [])) (h₀.set k ⟨byteCells (bs.set i (UInt8.ofNat n.toNat)), f⟩) K) :
    aOps P w₀ ops (⟨dst, .store t x y, ty, pos, af, none⟩ :: rest) s h K := by
  subst hh ho
  refine aOps_store hx hv (AHeap.set_same _ _ _) ht rfl rfl (by rw [byteCells_length]; omega) hf rfl ?_
  rw [AHeap.set_set]
  simp only [AVal.cells]
  rw [setAt_byteCells bs o n h0 h1]
  exact hk

theorem aOps_storeU8 {t : TypeId} {x y : Operand} {k o i f : Nat} {c : UInt8} {bs : List UInt8} {h₀ : AHeap} (hx : ev s x = .ptr (.own k) o) (hv : ev s y = .int .u8 c.toNat) (ht : szOf P t = some 1) (hh : h = h₀.set k ⟨byteCells bs, f⟩) (ho : o = i)
    (hi : i < bs.length) (hf : f ≤ i) (hk : aOps P w₀ ops rest (putD s dst (.tuple [])) (h₀.set k ⟨byteCells (bs.set i c), f⟩) K) :
    aOps P w₀ ops (⟨dst, .store t x y, ty, pos, af, none⟩ :: rest) s h K := by
  have hc : (c.toNat : Int) ≤ 255 := by have := c.toNat_lt; omega
  refine aOps_storeByte hx hv ht hh ho hi hf (by omega) hc ?_
  have e : UInt8.ofNat ((c.toNat : Int)).toNat = c := by simp
  rw [e]
  exact hk

theorem aOps_makeBytes {t e : TypeId} {x y : Operand} {n : Int} {k₁ k₂ : IntKind} (ht : P.underlying t = some (.slice e)) (hs : szOf P e = some 1) (hb : byOf P e = some 1) (hz : zeOf P e = some (.int .u8 0)) (hx : ev s x = .int k₁ n) (hy : ev s y = .int k₂ n) (h0 : 0 ≤ n) (h1 : n ≤ 281474976710656)
    (hk : ∀ k, h k = none → aOps P w₀ ops rest (putD s dst (.slice (.own k) 0 n.toNat (.exact n.toNat))) (h.set k ⟨byteCells (List.replicate n.toNat 0), 0⟩) K) :
    aOps P w₀ ops (⟨dst, .makeSlice t x y, ty, pos, af, none⟩ :: rest) s h K := by
  rw [aOps_e]
  simp only [eop, eMake, hx, hy, ht, hs, hb, hz, intA]
  refine ⟨⟨h0, by omega, by omega, by omega, rfl, by omega⟩, fun k hk' => ?_⟩
  have e : repCells ((Value.int .u8 0).cells.toList.map absS) (n.toNat * 1) = byteCells (List.replicate n.toNat 0) := by
    have : ((Value.int .u8 0).cells.toList.map absS) = [.int .u8 0] := rfl
    rw [this, repCells_one, Nat.mul_one]
    simp [byteCells]
  rw [e]
  exact hk k hk'
end


/-! ### Contracts of the library, told over the plain model -/
/-- A contract that answers one value and leaves all that was there. -/
theorem acall_of_calls {P : Program} {w₀ : World} {f : FuncId} {fn : Func} {h : AHeap} {args : List AVal} {V : AVal} {vals : List Value} {val : Value} (hf : P.funcs[f]? = some fn) (hname : (fn.name == "runtime.NumGoroutine") = false) (hb : fn.body.isSome = true)
    (hv : ∀ φ vs, VRs φ args vs → vs = vals) (hV : ∀ φ, VR φ V val) (hc : ∀ w, Calls P f vals.toArray w fun e w' => e = .returned val ∧ Go.RowKit.Below w.heap.size w w') :
    ACall P w₀ f args h (fun v h' => v = V ∧ h' = h) := by
  intro φ vs w hr hvs
  obtain rfl := hv φ vs hvs
  refine .inl ⟨fn, hf, hname, hb, (hc w).mono fun e w' ⟨e1, e2⟩ => ⟨val, e1, φ, V, h, φ.le_refl, hr.later e2, hV φ, rfl, rfl⟩⟩

theorem VRs_si {φ : PMap} {s : List UInt8} {n : Int} {k : IntKind} {vs : List Value} (h : VRs φ [.str s, .int k n] vs) : vs = [.string ⟨⟨s⟩⟩, .int k n] := by
  simp only [VRs, VR] at h
  obtain ⟨_, _, rfl, rfl, _, _, rfl, rfl, rfl⟩ := h
  rfl


/-! ### copy and append of bytes -/
/-- What a source of bytes holds. -/
def SrcB (w₀ : World) (h : AHeap) (x : AVal) (src : List UInt8) : Prop :=
  srcLen x = some src.length ∧ ∀ n, n ≤ src.length → srcPre w₀ h 1 n x ∧ srcCells w₀ h 1 n x = byteCells (src.take n)

theorem SrcB.str (w₀ : World) (h : AHeap) (s : List UInt8) : SrcB w₀ h (.str s) s := ⟨rfl, fun _ _ => ⟨rfl, rfl⟩⟩

theorem SrcB.of {w₀ : World} {h : AHeap} {x : AVal} {bs : List UInt8} (hb : IsB w₀ h x bs) : SrcB w₀ h x bs := by
  cases hb with
  | nil => exact ⟨rfl, fun n hn => ⟨trivial, by simp [srcCells, byteCells]⟩⟩
  | mk l o n c bs hn hc hcap =>
    subst hn
    refine ⟨rfl, fun m hm => ?_⟩
    have e : cellsAt w₀ h l o (m * 1) = byteCells (bs.take m) := by
      have := cellsAt_part w₀ h l o bs.length 0 m (Nat.zero_le _) hm
      simp only [Nat.add_zero, Nat.sub_zero, List.drop_zero] at this
      rw [Nat.mul_one, this, hc]
      simp [byteCells, List.map_take]
    simp only [srcPre, srcCells, e]
    exact ⟨allLive_of_u8 (byteCells_isU8 _), trivial⟩

theorem allScal_byteCells : ∀ bs : List UInt8, allScal (byteCells bs) = true
  | [] => rfl
  | b :: bs => by
    have := allScal_byteCells bs
    simp only [byteCells, List.map_cons, allScal, AVal.scal, Bool.true_and] at this ⊢
    exact this

theorem setAt_byteCells' : ∀ (xs bs : List UInt8) (o : Nat), setAt (byteCells bs) o (byteCells xs) = byteCells (setAt bs o xs)
  | [], _, _ => rfl
  | x :: xs, bs, o => by
    have := setAt_byteCells' xs (bs.set o x) (o + 1)
    simp only [byteCells, List.map_cons, setAt, List.map_set] at this ⊢
    exact this

section
variable {P : Program} {w₀ : World} {ops rest : List Oper} {s : Slots} {h : AHeap} {K : Slots → AHeap → Prop} {dst : Option Tmp} {ty : TypeId} {pos : String} {af : Array Edge}

theorem aOps_copyB {ts : Array TypeId} {t e : TypeId} {x y : Operand} {k o len f : Nat} {c : Cap} {v : AVal} {bs src : List UInt8} {h₀ : AHeap} (ht0 : ts[0]? = some t) (ht : P.underlying t = some (.slice e)) (hs : szOf P e = some 1)
    (hx : ev s x = .slice (.own k) o len c) (hy : ev s y = v) (hv : SrcB w₀ h v src) (hh : h = h₀.set k ⟨byteCells bs, f⟩) (hlen : o + len ≤ bs.length) (hf : f ≤ o)
    (hk : aOps P w₀ ops rest (putD s dst (.int .i64 (min src.length len : Nat))) (h₀.set k ⟨byteCells (setAt bs o (src.take len)), f⟩) K) :
    aOps P w₀ ops (⟨dst, .call ⟨.builtin .copy, [x, y].toArray, ts⟩, ty, pos, af, none⟩ :: rest) s h K := by
  obtain ⟨h1, h2⟩ := hv
  obtain ⟨p1, p2⟩ := h2 (min src.length len) (Nat.min_le_left _ _)
  rw [aOps_e]
  simp only [eop, evs, List.map_cons, List.map_nil, hx, hy, eCopy, ht0, ht, hs, h1]
  refine ⟨by omega, p1, fun h0 => ?_, fun h0 => ?_⟩
  · have e : src.take len = [] := by
      rcases Nat.eq_zero_or_pos len with e | e
      · subst e; rfl
      · have : src.length = 0 := by omega
        rw [List.eq_nil_of_length_eq_zero this, List.take_nil]
    rw [e, h0] at hk
    simp only [setAt] at hk
    rw [hh]
    exact hk
  · have hb : h k = some ⟨byteCells bs, f⟩ := by rw [hh]; exact AHeap.set_same _ _ _
    rw [hb]
    simp only [p2]
    have e : src.take (min src.length len) = src.take len := by
      rcases Nat.le_total src.length len with c | c
      · rw [Nat.min_eq_left c, List.take_of_length_le (Nat.le_refl _), List.take_of_length_le c]
      · rw [Nat.min_eq_right c]
    refine ⟨⟨by rw [byteCells_length]; omega, hf, allScal_byteCells _⟩, ?_⟩
    rw [e, setAt_byteCells', hh, AHeap.set_set]
    exact hk
end

end Go.AM
