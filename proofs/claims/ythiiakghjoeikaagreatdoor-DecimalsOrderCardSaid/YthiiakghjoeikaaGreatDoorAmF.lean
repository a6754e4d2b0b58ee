/-
  An assertion layer over the model's wp, part F: one operation, whatever it is; calls.
  Conditions: none. Nothing here is about a particular program.
-/
import Derived.Test.YthiiakghjoeikaaGreatDoorAmE
set_option linter.unusedSimpArgs false
set_option linter.unnecessarySimpa false
set_option linter.unusedVariables false
namespace Go.AM
open Go.RowKit (Below)

/-! ### Calls -/
/-- A call of function f comes back, with a value and a world for which R holds. -/
def Lands (P : Program) (f : FuncId) (vals : Array Value) (w : World) (R : Value → World → Prop) : Prop :=
  (∃ fn, P.funcs[f]? = some fn ∧ (fn.name == "runtime.NumGoroutine") = false ∧ fn.body.isSome = true ∧ Calls P f vals w (fun e w' => ∃ v, e = .returned v ∧ R v w')) ∨
  (∃ v w', (callFunc f vals).run P w = .ok (.value v) w' ∧ R v w')

theorem Lands.mono {P : Program} {f : FuncId} {vals : Array Value} {w : World} {R R' : Value → World → Prop} (h : Lands P f vals w R) (hr : ∀ v w', R v w' → R' v w') : Lands P f vals w R' := by
  rcases h with ⟨fn, h1, h2, h3, h4⟩ | ⟨v, w', h1, h2⟩
  · exact .inl ⟨fn, h1, h2, h3, h4.mono fun e w' ⟨v, hv, hR⟩ => ⟨v, hv, hr v w' hR⟩⟩
  · exact .inr ⟨v, w', h1, hr _ _ h2⟩

/-- The contract of a function over symbolic values and heaps. -/
def ACall (P : Program) (w₀ : World) (f : FuncId) (args : List AVal) (h : AHeap) (R : AVal → AHeap → Prop) : Prop :=
  ∀ (φ : PMap) (vals : List Value) (w : World), HRel w₀ φ h w → VRs φ args vals →
    Lands P f vals.toArray w fun v w' => ∃ ψ x h', φ.le ψ ∧ HRel w₀ ψ h' w' ∧ VR ψ x v ∧ R x h'

theorem ACall.mono {P : Program} {w₀ : World} {f : FuncId} {args : List AVal} {h : AHeap} {R R' : AVal → AHeap → Prop} (hc : ACall P w₀ f args h R) (hr : ∀ x h', R x h' → R' x h') : ACall P w₀ f args h R' :=
  fun φ vals w h1 h2 => (hc φ vals w h1 h2).mono fun _ _ ⟨ψ, x, h', e1, e2, e3, e4⟩ => ⟨ψ, x, h', e1, e2, e3, hr _ _ e4⟩

/-! ### One operation -/
def repCells (z : List AVal) (m : Nat) : List AVal := (List.range m).map fun i => z.getD (i % z.length) .dead

theorem repCells_one (x : AVal) (m : Nat) : repCells [x] m = List.replicate m x := by
  apply List.ext_getElem?
  intro i
  simp only [repCells, List.getElem?_map, List.getElem?_replicate]
  by_cases h : i < m
  · simp [h, Nat.mod_one]
  · simp [h]

def intA : AVal → Option Int
  | .int _ n => some n
  | _ => none

def eMake (P : Program) (h : AHeap) (t : TypeId) (len cap : AVal) (K : AVal → AHeap → Prop) : Prop :=
  match P.underlying t, intA len, intA cap with
  | some (.slice e), some n, some c => match szOf P e, byOf P e, zeOf P e with
    | some es, some by', some z => (0 ≤ n ∧ n ≤ c ∧ (by' : Int) * c ≤ 281474976710656 ∧ c ≤ 9223372036854775807 ∧ z.cells.size = es ∧ es ≠ 0) ∧
        ∀ k, h k = none → K (.slice (.own k) 0 n.toNat (.exact c.toNat)) (h.set k ⟨repCells (z.cells.toList.map absS) (c.toNat * es), 0⟩)
    | _, _, _ => False
  | _, _, _ => False

def eAppend (P : Program) (w₀ : World) (h : AHeap) (ts : Array TypeId) (s x : AVal) (K : AVal → AHeap → Prop) : Prop :=
  match ts[0]?, ts[1]? with
  | some t, some u => match P.underlying t, P.underlying u with
    | some (.slice e), some d => (∀ k, d ≠ .int k) ∧ match szOf P e, byOf P e, zeOf P e, srcLen x with
      | some es, some by', some z, some n => (es ≠ 0 ∧ z.cells.size = es) ∧ srcPre w₀ h es n x ∧ match s with
        | .nilSlice => (n = 0 → K .nilSlice h) ∧ (n ≠ 0 → (n * by' ≤ 140737488355328 ∧ n < 4611686018427387904) ∧ ∀ k, h k = none → (e < 4096 → tyOf k = some e) → K (.slice (.own k) 0 n (.grow es)) (h.set k ⟨srcCells w₀ h es n x, 0⟩))
        | .slice l o len (.grow g) => g = es ∧ match l with
          | .own k => match h k with
            | some b => (o + len * es = b.cells.length ∧ (len + n) * by' ≤ 140737488355328 ∧ len + n < 4611686018427387904 ∧ allScal (srcCells w₀ h es n x) = true ∧ allLive (b.cells.drop o) = true ∧ (b.frz = 0 ∨ o < b.frz)) ∧
                ∀ k', h k' = none → (o = 0 → tyOf k = some e → tyOf k' = some e) → K (.slice (.own k') 0 (len + n) (.grow es)) ((h.del k).set k' ⟨b.cells.drop o ++ srcCells w₀ h es n x, b.frz - o⟩)
            | none => False
          | _ => False
        | .slice l o len (.exact c) => (len + n ≤ c → (n = 0 ∧ K (.slice l o len (.exact c)) h) ∨ (n ≠ 0 ∧ match l with
            | .own k => match h k with
              | some b => (o + len * es + n * es ≤ b.cells.length ∧ b.frz ≤ o + len * es ∧ allScal (srcCells w₀ h es n x) = true) ∧
                  K (.slice (.own k) o (len + n) (.exact c)) (h.set k ⟨setAt b.cells (o + len * es) (srcCells w₀ h es n x), b.frz⟩)
              | none => False
            | _ => False)) ∧
          (c < len + n → (allLive (cellsAt w₀ h l o (len * es)) = true ∧ (len + n) * by' ≤ 140737488355328 ∧ len + n < 4611686018427387904) ∧
            ∀ k, h k = none → (e < 4096 → tyOf k = some e) → K (.slice (.own k) 0 (len + n) (.grow es)) (h.set k ⟨cellsAt w₀ h l o (len * es) ++ srcCells w₀ h es n x, 0⟩))
        | _ => False
      | _, _, _, _ => False
    | _, _ => False
  | _, _ => False

def eCopy (P : Program) (w₀ : World) (h : AHeap) (ts : Array TypeId) (dst x : AVal) (K : AVal → AHeap → Prop) : Prop :=
  match ts[0]? with
  | some t => match P.underlying t with
    | some (.slice e) => match szOf P e, srcLen x with
      | some es, some m => es ≠ 0 ∧ match dst with
        | .nilSlice => srcPre w₀ h es 0 x ∧ K (.int .i64 0) h
        | .slice l o len _ => srcPre w₀ h es (min m len) x ∧ ((min m len = 0 → K (.int .i64 0) h) ∧ (min m len ≠ 0 → match l with
          | .own k => match h k with
            | some b => (o + min m len * es ≤ b.cells.length ∧ b.frz ≤ o ∧ allScal (srcCells w₀ h es (min m len) x) = true) ∧
                K (.int .i64 (min m len : Nat)) (h.set k ⟨setAt b.cells o (srcCells w₀ h es (min m len) x), b.frz⟩)
            | none => False
          | _ => False))
        | _ => False
      | _, _ => False
    | _ => False
  | none => False

def eStore (P : Program) (h : AHeap) (t : TypeId) (x v : AVal) (K : AVal → AHeap → Prop) : Prop :=
  match x with
  | .ptr (.own k) o => match h k, szOf P t with
    | some b, some n => (v.live = true ∧ v.cells.length = n ∧ o + v.cells.length ≤ b.cells.length ∧ b.frz ≤ o ∧ allScal v.cells = true) ∧ K (.tuple []) (h.set k ⟨setAt b.cells o v.cells, b.frz⟩)
    | _, _ => False
  | _ => False

def buildSliceA (P : Program) (t : TypeId) (n : Nat) (parts : List (Nat × AVal)) : Option (List AVal) :=
  match P.underlying t with
  | some (.slice e) => match szOf P e, zeOf P e with
    | some es, some z => if n * es ≤ 16777216 ∧ es ≠ 0 ∧ z.cells.size = es then fillA (fun i => some (i * es, es)) (repCells (z.cells.toList.map absS) (n * es)) parts else none
    | _, _ => none
  | _ => none

def eStrBytes (P : Program) (src dst : TypeId) : Bool :=
  match P.underlying src, P.underlying dst with
  | some .string, some (.slice e) => match P.underlying e with
    | some (.int .u8) => true
    | _ => false
  | _, _ => false

/-- A slice of bytes that is converted to its own type: what stands behind a constant text in a conversion. -/
def eSame (P : Program) (src dst : TypeId) : Bool :=
  src == dst && match P.underlying src with
  | some (.slice e) => match P.underlying e with
    | some (.int .u8) => true
    | _ => false
  | _ => false

/-- What holds of the value and of the heap behind one operation. -/
def eop (P : Program) (w₀ : World) (h : AHeap) (s : Slots) (op : Op) (K : AVal → AHeap → Prop) : Prop :=
  match op with
  | .alloc e => match zeOf P e with
    | some z => ∀ k, h k = none → K (.ptr (.own k) 0) (h.set k ⟨z.cells.toList.map absS, 0⟩)
    | none => False
  | .box _ x => (ev s x).live = true ∧ ∀ k, h k = none → K (.ptr (.own k) 0) (h.set k ⟨(ev s x).cells, 0⟩)
  | .buildSlice t n parts => match buildSliceA P t n (evP s parts.toList) with
    | some cs => ∀ k, h k = none → K (.slice (.own k) 0 n (.exact n)) (h.set k ⟨cs, 0⟩)
    | none => False
  | .store t x v => eStore P h t (ev s x) (ev s v) K
  | .makeSlice t n c => eMake P h t (ev s n) (ev s c) K
  | .convert src dst x => match ev s x with
    | .str b => if eStrBytes P src dst = true then (b.length < 9223372036854775808 ∧ ∀ k, h k = none → K (.slice (.own k) 0 b.length (.grow 1)) (h.set k ⟨byteCells b, 0⟩))
        else (pop P w₀ h s op).pre ∧ K (pop P w₀ h s op).val h
    | .slice (.own k) o n c => if eSame P src dst = true then ((n ≠ 0 ∧ match h k with | some b => b.frz = 0 | none => False) ∧ K (.slice (.own k) o n c) h)
        else (pop P w₀ h s op).pre ∧ K (pop P w₀ h s op).val h
    | _ => (pop P w₀ h s op).pre ∧ K (pop P w₀ h s op).val h
  | .call c => match c.callee with
    | .builtin .append => match evs s c.args.toList with
      | [a, x] => eAppend P w₀ h c.argTypes a x K
      | _ => False
    | .builtin .copy => match evs s c.args.toList with
      | [a, x] => eCopy P w₀ h c.argTypes a x K
      | _ => False
    | .value f => match ev s f with
      | .func f cap => ACall P w₀ f (evs s c.args.toList ++ cap) h K
      | _ => False
    | _ => (pop P w₀ h s op).pre ∧ K (pop P w₀ h s op).val h
  | _ => (pop P w₀ h s op).pre ∧ K (pop P w₀ h s op).val h

theorem eop_mono {P : Program} {w₀ : World} {h : AHeap} {s : Slots} {op : Op} {K K' : AVal → AHeap → Prop} (he : eop P w₀ h s op K) (hk : ∀ x h', K x h' → K' x h') : eop P w₀ h s op K' := by
  cases op <;> simp only [eop] at he ⊢ <;> first
    | exact ⟨he.1, hk _ _ he.2⟩
    | skip
  case alloc e => split at he <;> first | exact fun k hk' => hk _ _ (he k hk') | exact he.elim
  case box e x => exact ⟨he.1, fun k hk' => hk _ _ (he.2 k hk')⟩
  case buildSlice t n parts => split at he <;> first | exact fun k hk' => hk _ _ (he k hk') | exact he.elim
  case store t x v =>
    unfold eStore at he ⊢
    split at he
    · split at he
      · exact ⟨he.1, hk _ _ he.2⟩
      · exact he.elim
    · exact he.elim
  case makeSlice t n c =>
    unfold eMake at he ⊢
    split at he
    · split at he
      · exact ⟨he.1, fun k hk' => hk _ _ (he.2 k hk')⟩
      · exact he.elim
    · exact he.elim
  case convert src dst x =>
    split at he
    · split at he
      · rename_i hc
        simp only [hc, if_true]
        exact ⟨he.1, fun k hk' => hk _ _ (he.2 k hk')⟩
      · rename_i hc
        rw [if_neg hc]
        exact ⟨he.1, hk _ _ he.2⟩
    · split at he
      · rename_i hc
        simp only [hc, if_true]
        exact ⟨he.1, hk _ _ he.2⟩
      · rename_i hc
        rw [if_neg hc]
        exact ⟨he.1, hk _ _ he.2⟩
    · exact ⟨he.1, hk _ _ he.2⟩
  case call c =>
    split at he
    · split at he
      · unfold eAppend at he ⊢
        split at he <;> first | exact he.elim | skip
        split at he <;> first | exact he.elim | skip
        refine ⟨he.1, ?_⟩
        obtain ⟨_, he⟩ := he
        split at he <;> first | exact he.elim | skip
        obtain ⟨e1, e2, he⟩ := he
        refine ⟨e1, e2, ?_⟩
        split at he <;> first | exact he.elim | skip
        · exact ⟨fun hn => hk _ _ (he.1 hn), fun hn => ⟨(he.2 hn).1, fun k hk' ht => hk _ _ ((he.2 hn).2 k hk' ht)⟩⟩
        · obtain ⟨e3, he⟩ := he
          refine ⟨e3, ?_⟩
          split at he <;> first | exact he.elim | skip
          split at he <;> first | exact he.elim | skip
          exact ⟨he.1, fun k hk' ht => hk _ _ (he.2 k hk' ht)⟩
        · refine ⟨fun hle => ?_, fun hlt => ⟨(he.2 hlt).1, fun k hk' ht => hk _ _ ((he.2 hlt).2 k hk' ht)⟩⟩
          rcases he.1 hle with ⟨a1, a2⟩ | ⟨a1, a2⟩
          · exact .inl ⟨a1, hk _ _ a2⟩
          · refine .inr ⟨a1, ?_⟩
            split at a2 <;> first | exact a2.elim | skip
            split at a2 <;> first | exact a2.elim | skip
            exact ⟨a2.1, hk _ _ a2.2⟩
      · exact he.elim
    · split at he
      · unfold eCopy at he ⊢
        split at he <;> first | exact he.elim | skip
        split at he <;> first | exact he.elim | skip
        split at he <;> first | exact he.elim | skip
        refine ⟨he.1, ?_⟩
        obtain ⟨_, he⟩ := he
        split at he <;> first | exact he.elim | skip
        · exact ⟨he.1, hk _ _ he.2⟩
        · refine ⟨he.1, fun h0 => hk _ _ (he.2.1 h0), fun h0 => ?_⟩
          have h3 := he.2.2 h0
          split at h3 <;> first | exact h3.elim | skip
          split at h3 <;> first | exact h3.elim | skip
          exact ⟨h3.1, hk _ _ h3.2⟩
      · exact he.elim
    · split at he
      · exact he.mono hk
      · exact he.elim
    · exact ⟨he.1, hk _ _ he.2⟩

end Go.AM
