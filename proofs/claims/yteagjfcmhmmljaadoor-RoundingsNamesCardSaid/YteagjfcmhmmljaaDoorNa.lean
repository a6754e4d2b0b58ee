/-
  Texts of this proof, joined: AmA, AmB, AmC, AmD, AmE, AmF, AmG, AmH, AmI, AmJ, AmK, AmL, AmM, AmN, AmO.
  Conditions: none.
-/
import Derived.WalkKit
import Derived.Lib.Strings
import Derived.Laws.BytesArg
import Derived.Laws.StructEq
import Derived.Laws.Tables
import Derived.Laws.MakeOwn
import Derived.Laws.IdiomStrings
import Derived.Still
import Derived.StillTail
import Derived.ProofKit
import Derived.OpenShut
import Derived.ShutString
import Derived.ChangeOld
import Derived.Below
set_option linter.unusedSimpArgs false
set_option linter.unnecessarySimpa false
set_option linter.unusedVariables false
/-
  An assertion layer over the model's wp, part A: symbolic values, symbolic heaps, and how they stand to a concrete world.
  Conditions: none. Nothing here is about a particular program.
-/
namespace Go.AM
open Go.RowKit (Below)

/-- Where a symbolic address lies: in a block that was there when the law was called, or in one of the call's own. -/
inductive Loc where
  | base (b : Nat)
  | own (k : Nat)
  deriving DecidableEq

/-- The capacity of a slice: known, or whatever room its row has behind it (es: cells per element). -/
inductive Cap where
  | exact (c : Nat)
  | grow (es : Nat)
  deriving DecidableEq

inductive AVal where
  | dead
  | bool (b : Bool)
  | int (k : IntKind) (n : Int)
  | str (s : List UInt8)
  | nilPtr
  | ptr (l : Loc) (o : Nat)
  | nilSlice
  | slice (l : Loc) (o len : Nat) (c : Cap)
  | nilFunc
  | func (f : FuncId) (cap : List AVal)
  | nilIface
  | iface (t : TypeId) (v : AVal)
  | nilMap
  | agg (cs : List AVal)
  | tuple (vs : List AVal)

instance : Inhabited AVal := ⟨.dead⟩

structure Place where
  blk : Nat
  off : Nat
  room : Nat

abbrev PMap := Nat → Option Place

def locAddr (φ : PMap) : Loc → Nat → Option Addr
  | .base b, o => some ⟨b, o, none⟩
  | .own k, o => (φ k).map fun p => ⟨p.blk, p.off + o, none⟩

mutual
/-- The value v is what the symbolic value says, the call's own blocks lying where φ says. -/
def VR (φ : PMap) : AVal → Value → Prop
  | .dead, _ => True
  | .bool b, v => v = .bool b
  | .int k n, v => v = .int k n
  | .str s, v => v = .string ⟨⟨s⟩⟩
  | .nilPtr, v => v = .pointer none
  | .ptr l o, v => ∃ a, locAddr φ l o = some a ∧ v = .pointer (some a)
  | .nilSlice, v => v = .slice none 0 0
  | .slice l o len c, v => match c with
    | .exact c => ∃ a, v = .slice (some a) len c ∧ (c ≠ 0 ∨ len ≠ 0 → locAddr φ l o = some a)
    | .grow es => ∃ k p c a, l = .own k ∧ φ k = some p ∧ v = .slice (some a) len c ∧ len ≤ c ∧ (c ≠ 0 → a = ⟨p.blk, p.off + o, none⟩ ∧ o + c * es = p.room)
  | .nilFunc, v => v = .nilFunc
  | .func f cs, v => ∃ vs : List Value, v = .func (.func f) #[] vs.toArray ∧ VRs φ cs vs
  | .nilIface, v => v = .nilIface
  | .iface t x, v => ∃ y, v = .iface t y ∧ VR φ x y
  | .nilMap, v => v = .map none
  | .agg cs, v => ∃ vs : List Value, v = .agg vs.toArray ∧ VRs φ cs vs
  | .tuple cs, v => ∃ vs : List Value, v = .tuple vs.toArray ∧ VRs φ cs vs
def VRs (φ : PMap) : List AVal → List Value → Prop
  | [], vs => vs = []
  | c :: cs, vs => ∃ v vs', vs = v :: vs' ∧ VR φ c v ∧ VRs φ cs vs'
end

def PMap.le (φ ψ : PMap) : Prop := ∀ k p, φ k = some p → ψ k = some p

theorem PMap.le_refl (φ : PMap) : φ.le φ := fun _ _ h => h
theorem PMap.le_trans {φ ψ χ : PMap} (h : φ.le ψ) (h' : ψ.le χ) : φ.le χ := fun k p hk => h' k p (h k p hk)

theorem locAddr_mono {φ ψ : PMap} (h : φ.le ψ) {l : Loc} {o : Nat} {a : Addr} (ha : locAddr φ l o = some a) : locAddr ψ l o = some a := by
  cases l with
  | base b => exact ha
  | own k =>
    simp only [locAddr, Option.map_eq_some_iff] at ha ⊢
    obtain ⟨p, hp, rfl⟩ := ha
    exact ⟨p, h k p hp, rfl⟩

mutual
theorem VR_mono {φ ψ : PMap} (h : φ.le ψ) : ∀ (x : AVal) (v : Value), VR φ x v → VR ψ x v
  | .dead, _, hv => hv
  | .bool _, _, hv => hv
  | .int _ _, _, hv => hv
  | .str _, _, hv => hv
  | .nilPtr, _, hv => hv
  | .ptr _ _, _, hv => by
    simp only [VR] at hv ⊢
    obtain ⟨a, ha, rfl⟩ := hv
    exact ⟨a, locAddr_mono h ha, rfl⟩
  | .nilSlice, _, hv => hv
  | .slice _ _ _ c, _, hv => by
    cases c with
    | exact c =>
      simp only [VR] at hv ⊢
      obtain ⟨a, rfl, ha⟩ := hv
      exact ⟨a, rfl, fun hc => locAddr_mono h (ha hc)⟩
    | grow es =>
      simp only [VR] at hv ⊢
      obtain ⟨k, p, c, a, hl, hp, rest⟩ := hv
      exact ⟨k, p, c, a, hl, h k p hp, rest⟩
  | .nilFunc, _, hv => hv
  | .func _ cs, _, hv => by
    simp only [VR] at hv ⊢
    obtain ⟨vs, rfl, hs⟩ := hv
    exact ⟨vs, rfl, VRs_mono h cs vs hs⟩
  | .nilIface, _, hv => hv
  | .iface _ x, _, hv => by
    simp only [VR] at hv ⊢
    obtain ⟨y, rfl, hy⟩ := hv
    exact ⟨y, rfl, VR_mono h x y hy⟩
  | .nilMap, _, hv => hv
  | .agg cs, _, hv => by
    simp only [VR] at hv ⊢
    obtain ⟨vs, rfl, hs⟩ := hv
    exact ⟨vs, rfl, VRs_mono h cs vs hs⟩
  | .tuple cs, _, hv => by
    simp only [VR] at hv ⊢
    obtain ⟨vs, rfl, hs⟩ := hv
    exact ⟨vs, rfl, VRs_mono h cs vs hs⟩
theorem VRs_mono {φ ψ : PMap} (h : φ.le ψ) : ∀ (xs : List AVal) (vs : List Value), VRs φ xs vs → VRs ψ xs vs
  | [], _, hv => hv
  | x :: xs, vs, hv => by
    simp only [VRs] at hv ⊢
    obtain ⟨v, vs', rfl, h1, h2⟩ := hv
    exact ⟨v, vs', rfl, VR_mono h x v h1, VRs_mono h xs vs' h2⟩
end

/-! ### A concrete value as a symbolic one -/
def absS : Value → AVal
  | .bool b => .bool b
  | .int k n => .int k n
  | .string s => .str s.data.toList
  | .pointer none => .nilPtr
  | .pointer (some ⟨b, o, none⟩) => .ptr (.base b) o
  | .slice none 0 0 => .nilSlice
  | .slice (some ⟨b, o, none⟩) len cap => .slice (.base b) o len (.exact cap)
  | .nilFunc => .nilFunc
  | .nilIface => .nilIface
  | .map none => .nilMap
  | _ => .dead
def absV : Value → AVal
  | .agg cs => .agg (cs.toList.map absS)
  | .tuple cs => .tuple (cs.toList.map absS)
  | v => absS v

theorem VR_absS (φ : PMap) (v : Value) : VR φ (absS v) v := by
  unfold absS
  split <;> simp [VR, locAddr]

theorem VRs_absS (φ : PMap) : ∀ l : List Value, VRs φ (l.map absS) l
  | [] => by simp [VRs]
  | v :: l => by
    simp only [List.map_cons, VRs]
    exact ⟨v, l, rfl, VR_absS φ v, VRs_absS φ l⟩

theorem VR_absV (φ : PMap) (v : Value) : VR φ (absV v) v := by
  unfold absV
  split
  · rename_i cs
    simp only [VR]
    exact ⟨cs.toList, by simp, VRs_absS φ _⟩
  · rename_i cs
    simp only [VR]
    exact ⟨cs.toList, by simp, VRs_absS φ _⟩
  · exact VR_absS φ v

/-! ### Lists of values -/
theorem VRs_length {φ : PMap} : ∀ {xs : List AVal} {vs : List Value}, VRs φ xs vs → vs.length = xs.length
  | [], _, h => by simp only [VRs] at h; simp [h]
  | x :: xs, vs, h => by
    simp only [VRs] at h
    obtain ⟨v, vs', rfl, _, h2⟩ := h
    simp [VRs_length h2]

theorem VRs_get {φ : PMap} : ∀ {xs : List AVal} {vs : List Value}, VRs φ xs vs → ∀ (j : Nat) (d : Value), j < xs.length → VR φ (xs.getD j .dead) (vs.getD j d)
  | [], _, _, j, _, hj => by simp at hj
  | x :: xs, vs, h, j, d, hj => by
    simp only [VRs] at h
    obtain ⟨v, vs', rfl, h1, h2⟩ := h
    cases j with
    | zero => simpa using h1
    | succ j => simpa using VRs_get h2 j d (by simpa using hj)

theorem VRs_of_get {φ : PMap} : ∀ {xs : List AVal} {vs : List Value}, vs.length = xs.length → (∀ j, j < xs.length → VR φ (xs.getD j .dead) (vs.getD j default)) → VRs φ xs vs
  | [], vs, hl, _ => by simp only [VRs]; exact List.eq_nil_of_length_eq_zero (by simpa using hl)
  | x :: xs, vs, hl, h => by
    cases vs with
    | nil => simp at hl
    | cons v vs' =>
      simp only [VRs]
      exact ⟨v, vs', rfl, by simpa using h 0 (by simp), VRs_of_get (by simpa using hl) fun j hj => by simpa using h (j + 1) (by simpa using hj)⟩

theorem VRs_append {φ : PMap} {xs ys : List AVal} {vs us : List Value} (h : VRs φ xs vs) (h' : VRs φ ys us) : VRs φ (xs ++ ys) (vs ++ us) := by
  induction xs generalizing vs with
  | nil => simp only [VRs] at h; subst h; simpa using h'
  | cons x xs ih =>
    simp only [VRs] at h
    obtain ⟨v, vs', rfl, h1, h2⟩ := h
    simp only [List.cons_append, VRs]
    exact ⟨v, vs' ++ us, rfl, h1, ih h2⟩

theorem VRs_drop {φ : PMap} : ∀ (n : Nat) {xs : List AVal} {vs : List Value}, VRs φ xs vs → VRs φ (xs.drop n) (vs.drop n)
  | 0, _, _, h => by simpa using h
  | n + 1, [], vs, h => by simp only [VRs] at h; subst h; simp [VRs]
  | n + 1, x :: xs, vs, h => by
    simp only [VRs] at h
    obtain ⟨v, vs', rfl, _, h2⟩ := h
    simpa using VRs_drop n h2

theorem VRs_take {φ : PMap} : ∀ (n : Nat) {xs : List AVal} {vs : List Value}, VRs φ xs vs → VRs φ (xs.take n) (vs.take n)
  | 0, _, _, _ => by simp [VRs]
  | n + 1, [], vs, h => by simp only [VRs] at h; subst h; simp [VRs]
  | n + 1, x :: xs, vs, h => by
    simp only [VRs] at h
    obtain ⟨v, vs', rfl, h1, h2⟩ := h
    simp only [List.take_succ_cons, VRs]
    exact ⟨v, vs'.take n, rfl, h1, VRs_take n h2⟩

theorem VRs_set {φ : PMap} : ∀ {xs : List AVal} {vs : List Value}, VRs φ xs vs → ∀ (j : Nat) {x : AVal} {v : Value}, VR φ x v → VRs φ (xs.set j x) (vs.set j v)
  | [], vs, h, j, _, _, _ => by simp only [VRs] at h; subst h; simp [VRs]
  | y :: xs, vs, h, j, x, v, hv => by
    simp only [VRs] at h
    obtain ⟨u, vs', rfl, h1, h2⟩ := h
    cases j with
    | zero => simp only [List.set_cons_zero, VRs]; exact ⟨v, vs', rfl, hv, h2⟩
    | succ j => simp only [List.set_cons_succ, VRs]; exact ⟨u, vs'.set j v, rfl, h1, VRs_set h2 j hv⟩

/-! ### The heap -/
structure Blk where
  cells : List AVal
  frz : Nat := 0

abbrev AHeap := Nat → Option Blk

def AHeap.set (h : AHeap) (k : Nat) (b : Blk) : AHeap := fun j => if j = k then some b else h j
def AHeap.del (h : AHeap) (k : Nat) : AHeap := fun j => if j = k then none else h j

theorem AHeap.set_same (h : AHeap) (k : Nat) (b : Blk) : h.set k b k = some b := by simp [AHeap.set]
theorem AHeap.set_ne (h : AHeap) {k j : Nat} (b : Blk) (hj : j ≠ k) : h.set k b j = h j := by simp [AHeap.set, hj]
theorem AHeap.set_set (h : AHeap) (k : Nat) (b c : Blk) : (h.set k b).set k c = h.set k c := by
  funext j; by_cases e : j = k <;> simp [AHeap.set, e]
theorem AHeap.set_comm (h : AHeap) {k j : Nat} (b c : Blk) (hj : j ≠ k) : (h.set k b).set j c = (h.set j c).set k b := by
  funext i; by_cases e : i = j <;> by_cases e' : i = k <;> simp_all [AHeap.set]
/-- The row of block b in the concrete world. -/
structure BlkOk (φ : PMap) (b : Blk) (p : Place) (w : World) : Prop where
  row : ∃ cs e lo hi, w.heap[p.blk]? = some (.cells cs e (lo, hi)) ∧ p.off + p.room = cs.size ∧ b.cells.length ≤ p.room ∧ b.frz ≤ b.cells.length ∧
    VRs φ b.cells ((cs.toList.drop p.off).take b.cells.length) ∧ (lo ≤ hi ∧ ∀ i, lo ≤ i → i < hi → (0 < b.frz ∧ i < p.off + b.frz) ∨ cs.size ≤ i)

/-- The element type that a block's name promises: powers of two promise one, all other names none. -/
def tyOf (k : Nat) : Option TypeId := if k = 2 ^ k.log2 then some (k.log2 % 4096) else none
/-- What a name promises of its block: a row of that type, told from its first cell on. -/
def TyOk (k : Nat) (p : Place) (w : World) : Prop := ∀ t, tyOf k = some t → p.off = 0 ∧ ∃ cs fr, w.heap[p.blk]? = some (.cells cs t fr)
theorem TyOk.world {k : Nat} {p : Place} {w w' : World} (h : TyOk k p w) (hw : w'.heap[p.blk]? = w.heap[p.blk]?) : TyOk k p w' := fun t ht => by rw [hw]; exact h t ht
theorem TyOk.none {k : Nat} {p : Place} {w : World} (h : tyOf k = Option.none) : TyOk k p w := fun t ht => by rw [h] at ht; cases ht
theorem tyOf_pow (e : TypeId) (he : e < 4096) (N : Nat) : ∃ k, N ≤ k ∧ tyOf k = some e := by
  refine ⟨2 ^ (4096 * N + e), ?_, ?_⟩
  · have := @Nat.lt_two_pow_self (4096 * N + e)
    omega
  · unfold tyOf
    rw [Nat.log2_two_pow, if_pos rfl, Nat.mul_add_mod, Nat.mod_eq_of_lt he]
/-- However long a run of names that promise nothing is wanted, there is one. -/
theorem tyOf_run (N L : Nat) : ∃ M, N ≤ M ∧ ∀ i, i < L → tyOf (M + i) = none := by
  refine ⟨2 ^ (N + L + 1) + 1, ?_, fun i hi => ?_⟩
  · have := @Nat.lt_two_pow_self (N + L + 1)
    omega
  · have h1 := @Nat.lt_two_pow_self (N + L + 1)
    have h2 : (2 ^ (N + L + 1) + 1 + i).log2 = N + L + 1 := by
      rw [Nat.log2_eq_iff (by omega)]
      rw [Nat.pow_succ 2 (N + L + 1)]
      omega
    unfold tyOf
    rw [h2, if_neg (by omega)]

/-- How a symbolic heap stands to a world: w₀ is the world in which the law was called. -/
structure HRel (w₀ : World) (φ : PMap) (h : AHeap) (w : World) : Prop where
  below : Below w₀.heap.size w₀ w
  own : ∀ k b, h k = some b → ∃ p, φ k = some p ∧ w₀.heap.size ≤ p.blk ∧ BlkOk φ b p w
  inj : ∀ k k' b b' p p', h k = some b → h k' = some b' → φ k = some p → φ k' = some p' → p.blk = p'.blk → k = k'
  lt : ∀ k p, φ k = some p → p.blk < w.heap.size
  fin : ∃ N, ∀ k, N ≤ k → φ k = none
  typ : ∀ k p, φ k = some p → TyOk k p w

theorem HRel.start (w : World) : HRel w (fun _ => none) (fun _ => none) w :=
  ⟨Below.refl _ _, by simp, by simp, by simp, ⟨0, by simp⟩, by simp⟩

/-- Blocks may be forgotten. -/
theorem HRel.forget {w₀ w : World} {φ : PMap} {h h' : AHeap} (hr : HRel w₀ φ h w) (hs : ∀ k b, h' k = some b → h k = some b) : HRel w₀ φ h' w :=
  ⟨hr.below, fun k b hb => hr.own k b (hs k b hb), fun k k' b b' p p' hb hb' => hr.inj k k' b b' p p' (hs k b hb) (hs k' b' hb'), hr.lt, hr.fin, hr.typ⟩

theorem BlkOk.mono {φ ψ : PMap} {b : Blk} {p : Place} {w : World} (h : BlkOk φ b p w) (hl : φ.le ψ) : BlkOk ψ b p w := by
  obtain ⟨cs, e, lo, hi, h1, h2, h3, h4, h5, h6⟩ := h.row
  exact ⟨cs, e, lo, hi, h1, h2, h3, h4, VRs_mono hl _ _ h5, h6⟩

theorem BlkOk.world {φ : PMap} {b : Blk} {p : Place} {w w' : World} (h : BlkOk φ b p w) (hw : w'.heap[p.blk]? = w.heap[p.blk]?) : BlkOk φ b p w' := by
  obtain ⟨cs, e, lo, hi, h1, rest⟩ := h.row
  exact ⟨cs, e, lo, hi, by rw [hw]; exact h1, rest⟩

/-- A world that agrees below the old heap's end (a callee that lays blocks and writes only to these) still fits. -/
theorem HRel.later {w₀ w w' : World} {φ : PMap} {h : AHeap} (hr : HRel w₀ φ h w) (hb : Below w.heap.size w w') : HRel w₀ φ h w' := by
  refine ⟨hr.below.trans (hb.mono hr.below.size), fun k b hk => ?_, hr.inj, fun k p hk => Nat.lt_of_lt_of_le (hr.lt k p hk) hb.size, hr.fin, fun k p hk => (hr.typ k p hk).world (hb.block _ (hr.lt k p hk))⟩
  obtain ⟨p, hp, h1, h2⟩ := hr.own k b hk
  exact ⟨p, hp, h1, h2.world (hb.block _ (hr.lt k p hp))⟩

/-- A new block. -/
theorem HRel.push {w₀ w w' : World} {φ : PMap} {h : AHeap} (hr : HRel w₀ φ h w) (k : Nat) (hk : h k = none) (hφ : φ k = none) (b : Blk) (p : Place)
    (hb : Below w.heap.size w w') (hp : w.heap.size ≤ p.blk) (hp' : p.blk < w'.heap.size) (ok : BlkOk (fun j => if j = k then some p else φ j) b p w') (ht : TyOk k p w') :
    φ.le (fun j => if j = k then some p else φ j) ∧ HRel w₀ (fun j => if j = k then some p else φ j) (h.set k b) w' := by
  have hle : φ.le (fun j => if j = k then some p else φ j) := fun j q hj => by
    by_cases e : j = k
    · subst e; rw [hφ] at hj; cases hj
    · simp [e, hj]
  have old : ∀ j b', h j = some b' → j ≠ k := fun j b' hj e => by subst e; rw [hk] at hj; cases hj
  refine ⟨hle, hr.below.trans (hb.mono hr.below.size), fun j b' hj => ?_, fun j j' b1 b2 p1 p2 h1 h2 f1 f2 e => ?_, fun j q hj => ?_, ?_, fun j q hj => ?_⟩
  · by_cases e : j = k
    · subst e
      simp only [AHeap.set_same, Option.some.injEq] at hj
      subst hj
      exact ⟨p, by simp, Nat.le_trans hr.below.size hp, ok⟩
    · rw [AHeap.set_ne _ _ e] at hj
      obtain ⟨q, hq, h1, h2⟩ := hr.own j b' hj
      exact ⟨q, by simp [e, hq], h1, (h2.world (hb.block _ (hr.lt j q hq))).mono hle⟩
  · by_cases e1 : j = k <;> by_cases e2 : j' = k
    · rw [e1, e2]
    · exfalso
      simp only [e1, if_true, Option.some.injEq] at f1
      simp only [e2, if_false] at f2
      have := hr.lt j' p2 f2
      subst f1
      omega
    · exfalso
      simp only [e2, if_true, Option.some.injEq] at f2
      simp only [e1, if_false] at f1
      have := hr.lt j p1 f1
      subst f2
      omega
    · rw [AHeap.set_ne _ _ e1] at h1
      rw [AHeap.set_ne _ _ e2] at h2
      simp only [e1, e2, if_false] at f1 f2
      exact hr.inj j j' b1 b2 p1 p2 h1 h2 f1 f2 e
  · by_cases e : j = k
    · simp only [e, if_true, Option.some.injEq] at hj
      subst hj; exact hp'
    · simp only [e, if_false] at hj
      exact Nat.lt_of_lt_of_le (hr.lt j q hj) hb.size
  · obtain ⟨N, hN⟩ := hr.fin
    exact ⟨max N (k + 1), fun j hj => by
      have h1 : j ≠ k := by omega
      simp only [h1, if_false]
      exact hN j (by omega)⟩
  · by_cases e : j = k
    · subst e
      simp only [if_true, Option.some.injEq] at hj
      subst hj; exact ht
    · simp only [e, if_false] at hj
      exact (hr.typ j q hj).world (hb.block _ (hr.lt j q hj))

theorem HRel.free {w₀ w : World} {φ : PMap} {h : AHeap} (hr : HRel w₀ φ h w) {k : Nat} (hφ : φ k = none) : h k = none := by
  cases e : h k with
  | none => rfl
  | some b =>
    obtain ⟨p, hp, _⟩ := hr.own _ b e
    rw [hφ] at hp
    cases hp
theorem HRel.freshN {w₀ w : World} {φ : PMap} {h : AHeap} (hr : HRel w₀ φ h w) : ∃ k, h k = none ∧ φ k = none ∧ tyOf k = none := by
  obtain ⟨N, hN⟩ := hr.fin
  obtain ⟨M, h1, h2⟩ := tyOf_run N 1
  exact ⟨M, hr.free (hN M h1), hN M h1, h2 0 (by omega)⟩
/-- A name that promises a type, where there is one. -/
theorem HRel.freshE {w₀ w : World} {φ : PMap} {h : AHeap} (hr : HRel w₀ φ h w) (e : TypeId) : ∃ k, h k = none ∧ φ k = none ∧ (e < 4096 → tyOf k = some e) ∧ ∀ t, tyOf k = some t → t = e := by
  by_cases he : e < 4096
  · obtain ⟨N, hN⟩ := hr.fin
    obtain ⟨k, h1, h2⟩ := tyOf_pow e he N
    exact ⟨k, hr.free (hN k h1), hN k h1, fun _ => h2, fun t ht => by rw [h2] at ht; exact (Option.some.inj ht).symm⟩
  · obtain ⟨k, h1, h2, h3⟩ := hr.freshN
    exact ⟨k, h1, h2, fun h => absurd h he, fun t ht => by rw [h3] at ht; cases ht⟩
theorem tyOf_lt {k : Nat} {t : TypeId} (h : tyOf k = some t) : t < 4096 := by
  unfold tyOf at h
  split at h
  · rw [← Option.some.inj h]; exact Nat.mod_lt _ (by omega)
  · cases h
/-- A name that promises what another one does. -/
theorem HRel.freshT {w₀ w : World} {φ : PMap} {h : AHeap} (hr : HRel w₀ φ h w) (k₀ : Nat) : ∃ k, h k = none ∧ φ k = none ∧ tyOf k = tyOf k₀ := by
  cases e : tyOf k₀ with
  | none => exact hr.freshN
  | some t =>
    obtain ⟨k, h1, h2, h3, _⟩ := hr.freshE t
    exact ⟨k, h1, h2, h3 (tyOf_lt e)⟩

/-- A block of the call's own is written. -/
theorem HRel.write {w₀ w w' : World} {φ : PMap} {h : AHeap} (hr : HRel w₀ φ h w) (k : Nat) (b b' : Blk) (p : Place) (hk : h k = some b) (hp : φ k = some p)
    (hsize : w'.heap.size = w.heap.size) (hos : w'.os = w.os) (htape : w'.tape = w.tape) (hout : w'.output = w.output)
    (hother : ∀ i, i ≠ p.blk → w'.heap[i]? = w.heap[i]?) (hty : ∀ cs e fr, w.heap[p.blk]? = some (.cells cs e fr) → ∃ cs' fr', w'.heap[p.blk]? = some (.cells cs' e fr')) (ok : BlkOk φ b' p w') : HRel w₀ φ (h.set k b') w' := by
  obtain ⟨q, hq, hq1, hq2⟩ := hr.own k b hk
  have hpq : q = p := by rw [hp] at hq; exact (Option.some.inj hq).symm
  subst hpq
  refine ⟨⟨hos.trans hr.below.os, htape.trans hr.below.tape, hout.trans hr.below.output, by rw [hsize]; exact hr.below.size, fun i hi => ?_⟩, fun j b1 hj => ?_, fun j j' b1 b2 p1 p2 h1 h2 f1 f2 e => ?_, fun j r hj => by rw [hsize]; exact hr.lt j r hj, hr.fin, fun j r hj t ht => ?_⟩
  · rw [hother i (by omega)]
    exact hr.below.block i hi
  · by_cases e : j = k
    · subst e
      simp only [AHeap.set_same, Option.some.injEq] at hj
      subst hj
      exact ⟨q, hp, hq1, ok⟩
    · rw [AHeap.set_ne _ _ e] at hj
      obtain ⟨r, hr0, hr1, hr2⟩ := hr.own j b1 hj
      refine ⟨r, hr0, hr1, hr2.world (hother _ fun e' => e ?_)⟩
      exact hr.inj j k b1 b r q hj hk hr0 hp e'
  · have g : ∀ i c, h.set k b' i = some c → ∃ c', h i = some c' := fun i c hi => by
      by_cases e : i = k
      · subst e; exact ⟨b, hk⟩
      · rw [AHeap.set_ne _ _ e] at hi; exact ⟨c, hi⟩
    obtain ⟨c1, g1⟩ := g j b1 h1
    obtain ⟨c2, g2⟩ := g j' b2 h2
    exact hr.inj j j' c1 c2 p1 p2 g1 g2 f1 f2 e
  · obtain ⟨h0, cs, fr, hcs⟩ := hr.typ j r hj t ht
    refine ⟨h0, ?_⟩
    by_cases e : r.blk = q.blk
    · rw [e] at hcs ⊢
      exact hty cs t fr hcs
    · exact ⟨cs, fr, by rw [hother _ e]; exact hcs⟩

/-- The cells of a block, one by one. -/
theorem BlkOk.cell {φ : PMap} {b : Blk} {p : Place} {w : World} (h : BlkOk φ b p w) (o : Nat) (ho : o < b.cells.length) :
    ∃ v, w.cell? ⟨p.blk, p.off + o, none⟩ = some v ∧ VR φ (b.cells.getD o .dead) v := by
  obtain ⟨cs, e, lo, hi, h1, h2, h3, h4, h5, h6⟩ := h.row
  have hlt : p.off + o < cs.size := by omega
  refine ⟨cs[p.off + o], ?_, ?_⟩
  · simp [World.cell?, h1, hlt]
  · have := VRs_get h5 o default ho
    have e2 : ((cs.toList.drop p.off).take b.cells.length).getD o default = cs[p.off + o] := by
      simp [List.getD, List.getElem?_drop, ho, hlt]
    rw [e2] at this
    exact this

/-! ### Reading -/
/-- The cell at a symbolic address; '.dead' where nothing is known. -/
def rd (w₀ : World) (h : AHeap) : Loc → Nat → AVal
  | .base b, o => if b < w₀.heap.size then (match w₀.cell? ⟨b, o, none⟩ with | some v => absS v | none => .dead) else .dead
  | .own k, o => match h k with | some b => b.cells.getD o .dead | none => .dead

def AVal.live : AVal → Bool
  | .dead => false
  | _ => true

theorem HRel.rd {w₀ w : World} {φ : PMap} {h : AHeap} (hr : HRel w₀ φ h w) (l : Loc) (o : Nat) (hl : (rd w₀ h l o).live = true) :
    ∃ a v, locAddr φ l o = some a ∧ w.cell? a = some v ∧ VR φ (AM.rd w₀ h l o) v ∧ a.spot = none := by
  cases l with
  | base b =>
    simp only [AM.rd] at hl ⊢
    by_cases hb : b < w₀.heap.size
    · simp only [hb, if_true] at hl ⊢
      cases hc : w₀.cell? ⟨b, o, none⟩ with
      | none => simp [hc, AVal.live] at hl
      | some v =>
        simp only [locAddr, Option.some.injEq]
        exact ⟨_, v, rfl, by rw [hr.below.cell (p := ⟨b, o, none⟩) hb]; exact hc, VR_absS φ v, rfl⟩
    · simp [hb, AVal.live] at hl
  | own k =>
    simp only [AM.rd] at hl ⊢
    cases hk : h k with
    | none => simp [hk, AVal.live] at hl
    | some b =>
      simp only [hk] at hl ⊢
      obtain ⟨p, hp, _, ok⟩ := hr.own k b hk
      have ho : o < b.cells.length := by
        by_cases hlt : o < b.cells.length
        · exact hlt
        · simp [List.getD, List.getElem?_eq_none (Nat.le_of_not_lt hlt), AVal.live] at hl
      obtain ⟨v, h1, h2⟩ := ok.cell o ho
      exact ⟨_, v, by simp [locAddr, hp], h1, h2, rfl⟩

end Go.AM

/-
  An assertion layer over the model's wp, part B: slots, and the operations that only compute or read: what each gives.
  Conditions: none. Nothing here is about a particular program.
-/
namespace Go.AM
open Go.RowKit (Below)

/-! ### Slots -/
abbrev Slots := List (Nat × AVal)

def Slots.get : Slots → Nat → AVal
  | [], _ => .dead
  | (j, v) :: r, i => if i = j then v else Slots.get r i

def Slots.put : Slots → Nat → AVal → Slots
  | [], i, v => [(i, v)]
  | (j, u) :: r, i, v => if i < j then (i, v) :: (j, u) :: r else if i = j then (i, v) :: r else (j, u) :: Slots.put r i v

def Slots.keep : Slots → List Nat → Slots
  | [], _ => []
  | (j, v) :: r, l => if l.contains j then (j, v) :: Slots.keep r l else Slots.keep r l

theorem Slots.get_put : ∀ (s : Slots) (i : Nat) (v : AVal) (j : Nat), (s.put i v).get j = if j = i then v else s.get j
  | [], i, v, j => by simp [Slots.put, Slots.get]
  | (k, u) :: r, i, v, j => by
    simp only [Slots.put]
    split
    · simp [Slots.get]
    · split
      · rename_i h1 h2
        subst h2
        by_cases e : j = i <;> simp [Slots.get, e]
      · rename_i h1 h2
        simp only [Slots.get]
        rw [Slots.get_put r i v j]
        by_cases e : j = k
        · subst e
          simp [Ne.symm h2]
        · simp [e]

theorem Slots.get_keep : ∀ (s : Slots) (l : List Nat) (j : Nat), (s.keep l).get j = if l.contains j then s.get j else .dead
  | [], l, j => by simp [Slots.keep, Slots.get]
  | (k, u) :: r, l, j => by
    simp only [Slots.keep]
    by_cases hk : l.contains k = true
    · simp only [hk, if_true, Slots.get]
      rw [Slots.get_keep r l j]
      by_cases e : j = k
      · subst e; rw [if_pos rfl, if_pos hk, if_pos rfl]
      · rw [if_neg e, if_neg e]
    · simp only [hk, Slots.get]
      rw [if_neg (by simp), Slots.get_keep r l j]
      by_cases e : j = k
      · subst e; rw [if_neg hk, if_neg hk]
      · rw [if_neg e]

/-- The slots of a frame are what the symbolic ones say. -/
structure SRel (φ : PMap) (n : Nat) (s : Slots) (a : Act) : Prop where
  size : a.tmps.size = n
  defers : a.defers = []
  val : ∀ i, VR φ (s.get i) (a.tmps.getD i undef)

theorem SRel.mono {φ ψ : PMap} {n : Nat} {s : Slots} {a : Act} (h : SRel φ n s a) (hl : φ.le ψ) : SRel ψ n s a :=
  ⟨h.size, h.defers, fun i => VR_mono hl _ _ (h.val i)⟩

theorem SRel.put {φ : PMap} {n : Nat} {s : Slots} {a : Act} (h : SRel φ n s a) (d : Nat) (hd : d < n) {x : AVal} {v : Value} (hv : VR φ x v) :
    SRel φ n (s.put d x) (a.put (some d) v) := by
  refine ⟨by simp [Act.put, h.size], h.defers, fun i => ?_⟩
  rw [Slots.get_put]
  by_cases e : i = d
  · subst e
    have hs : i < a.tmps.size := by rw [h.size]; exact hd
    simp [Act.put, hs]
    exact hv
  · rw [if_neg e]
    have : (a.put (some d) v).tmps.getD i undef = a.tmps.getD i undef := by
      simp [Act.put, Array.getD_eq_getD_getElem?, Array.getElem?_setIfInBounds_ne (Ne.symm e)]
    rw [this]
    exact h.val i

theorem SRel.keep {φ : PMap} {n : Nat} {s : Slots} {a : Act} (h : SRel φ n s a) (l : List Nat) : SRel φ n (s.keep l) a :=
  ⟨h.size, h.defers, fun i => by
    rw [Slots.get_keep]
    split
    · exact h.val i
    · simp [VR]⟩

def ev (s : Slots) : Operand → AVal
  | .tmp t => s.get t
  | .const v => absV v
  | .global g => .ptr (.base g) 0
  | .func f => .func f []

theorem SRel.ev {φ : PMap} {n : Nat} {s : Slots} {a : Act} (h : SRel φ n s a) (x : Operand) : VR φ (ev s x) (a.eval x) := by
  cases x with
  | tmp t => exact h.val t
  | const v => exact VR_absV φ v
  | global g => simp [AM.ev, VR, locAddr, Act.eval]
  | func f => simp only [AM.ev, VR, Act.eval]; exact ⟨[], rfl, by simp [VRs]⟩

/-! ### What a reading operation gives: a condition, and a value -/
structure PR where
  pre : Prop
  val : AVal

def PR.no : PR := ⟨False, .dead⟩

def szOf (P : Program) (t : TypeId) : Option Nat := (P.info? t).map (·.size)
def byOf (P : Program) (t : TypeId) : Option Nat := (P.info? t).map (·.bytes)
def zeOf (P : Program) (t : TypeId) : Option Value := (P.info? t).bind (·.zero)
def aggOf (P : Program) (t : TypeId) : Option Bool :=
  match P.underlying t with
  | some (.struct _) | some (.array _ _) => some true
  | some _ => some false
  | none => none

theorem run_underlying' {P : Program} {t : TypeId} {d : TypeDesc} (h : P.underlying t = some d) (w : World) : (underlying t).run P w = .ok d w := by
  simp [underlying, h]

theorem run_sizeOf' {P : Program} {t : TypeId} {n : Nat} (h : szOf P t = some n) (w : World) : (sizeOf t).run P w = .ok n w := by
  simp only [szOf, Option.map_eq_some_iff] at h
  obtain ⟨i, hi, rfl⟩ := h
  simp [sizeOf, typeInfo, hi]

theorem run_isAgg' {P : Program} {t : TypeId} {b : Bool} (h : aggOf P t = some b) (w : World) : (isAgg t).run P w = .ok b w := by
  unfold aggOf at h
  unfold isAgg
  cases hu : P.underlying t with
  | none => simp [hu] at h
  | some d =>
    simp only [hu] at h
    simp only [Sem.run_bind, run_underlying' hu, Result.andThen_ok]
    cases d <;> simp_all

theorem run_zero' {P : Program} {t : TypeId} {v : Value} (h : zeOf P t = some v) (w : World) : (zeroValue t).run P w = .ok v w := by
  simp only [zeOf, Option.bind_eq_some_iff] at h
  obtain ⟨i, hi, hz⟩ := h
  simp [zeroValue, typeInfo, hi, hz]

/-- The cells from an address on. -/
def cellsAt (w₀ : World) (h : AHeap) (l : Loc) : Nat → Nat → List AVal
  | _, 0 => []
  | o, n + 1 => rd w₀ h l o :: cellsAt w₀ h l (o + 1) n

def allLive : List AVal → Bool
  | [] => true
  | c :: cs => c.live && allLive cs

theorem locAddr_add {φ : PMap} {l : Loc} {o j : Nat} {a : Addr} (h : locAddr φ l o = some a) : locAddr φ l (o + j) = some (a.add j) := by
  unfold Addr.add
  cases l with
  | base b =>
    simp only [locAddr, Option.some.injEq] at h ⊢
    subst h
    by_cases e : j = 0 <;> simp [e]
  | own k =>
    simp only [locAddr, Option.map_eq_some_iff] at h ⊢
    obtain ⟨p, hp, rfl⟩ := h
    refine ⟨p, hp, ?_⟩
    by_cases e : j = 0
    · simp [e]
    · simp [e, Nat.add_assoc]

theorem cells_read {w₀ w : World} {φ : PMap} {h : AHeap} (hr : HRel w₀ φ h w) (l : Loc) : ∀ (n o : Nat) (a : Addr), locAddr φ l o = some a → allLive (cellsAt w₀ h l o n) = true →
    ∃ vs : List Value, vs.length = n ∧ VRs φ (cellsAt w₀ h l o n) vs ∧ ∀ j v, vs[j]? = some v → w.cell? (a.add j) = some v
  | 0, o, a, _, _ => ⟨[], rfl, by simp [cellsAt, VRs], by simp⟩
  | n + 1, o, a, ha, hl => by
    simp only [cellsAt, allLive, Bool.and_eq_true] at hl
    obtain ⟨a', v, h1, h2, h3, h4⟩ := hr.rd l o hl.1
    have : a' = a := by rw [ha] at h1; exact (Option.some.inj h1).symm
    subst this
    obtain ⟨vs, e1, e2, e3⟩ := cells_read hr l n (o + 1) (a'.add 1) (locAddr_add ha) hl.2
    refine ⟨v :: vs, by simp [e1], by simp only [cellsAt, VRs]; exact ⟨v, vs, rfl, h3, e2⟩, fun j u hj => ?_⟩
    cases j with
    | zero => simp only [List.getElem?_cons_zero, Option.some.injEq] at hj; subst hj; simpa [Addr.add] using h2
    | succ j =>
      have := e3 j u (by simpa using hj)
      have e5 : (a'.add 1).add j = a'.add (j + 1) := by
        unfold Addr.add
        by_cases e : j = 0 <;> simp [e, Nat.add_assoc, Nat.add_comm 1]
      rwa [e5] at this

/-! ### The operations -/
def pickV (c : Bool) (a b : AVal) : AVal :=
  match a, b with
  | .bool x, .bool y => .bool (bif c then x else y)
  | _, _ => bif c then a else b

theorem VR_pickV {φ : PMap} {c : Bool} {a b : AVal} {u v : Value} (hu : VR φ a u) (hv : VR φ b v) : VR φ (pickV c a b) (if c then u else v) := by
  unfold pickV
  split
  · simp only [VR] at hu hv ⊢
    subst hu hv
    cases c <;> rfl
  · cases c <;> simpa

def pInt (op : BinOp) (k : IntKind) (a b : Int) : PR :=
  match op with
  | .add => ⟨True, .int k (k.wrap (a + b))⟩
  | .sub => ⟨True, .int k (k.wrap (a - b))⟩
  | .mul => ⟨True, .int k (k.wrap (a * b))⟩
  | .quo => ⟨b ≠ 0, .int k (k.wrap (a.tdiv b))⟩
  | .rem => ⟨b ≠ 0, .int k (a.tmod b)⟩
  | .and => ⟨True, .int k (k.wrap (BitVec.ofInt k.bits a &&& BitVec.ofInt k.bits b).toNat)⟩
  | .or => ⟨True, .int k (k.wrap (BitVec.ofInt k.bits a ||| BitVec.ofInt k.bits b).toNat)⟩
  | .xor => ⟨True, .int k (k.wrap (BitVec.ofInt k.bits a ^^^ BitVec.ofInt k.bits b).toNat)⟩
  | .eql => ⟨True, .bool (decide (a = b))⟩
  | .neq => ⟨True, .bool (!decide (a = b))⟩
  | .lss => ⟨True, .bool (decide (a < b))⟩
  | .leq => ⟨True, .bool (decide (a ≤ b))⟩
  | .gtr => ⟨True, .bool (decide (b < a))⟩
  | .geq => ⟨True, .bool (decide (b ≤ a))⟩
  | _ => .no

def pStr (op : BinOp) (a b : List UInt8) : PR :=
  match op with
  | .add => ⟨a.length + b.length < 9223372036854775808, .str (a ++ b)⟩
  | .eql => ⟨True, .bool (decide (a = b))⟩
  | .neq => ⟨True, .bool (!decide (a = b))⟩
  | .lss => ⟨True, .bool (Op.bytesLess a b)⟩
  | .leq => ⟨True, .bool (Op.bytesLess a b || decide (a = b))⟩
  | .gtr => ⟨True, .bool (!(Op.bytesLess a b || decide (a = b)))⟩
  | .geq => ⟨True, .bool (!Op.bytesLess a b)⟩
  | _ => .no

/-- Of which class a value is that may be nil, and whether it is. -/
def nilK : AVal → Option (Nat × Bool)
  | .nilSlice => some (0, true)
  | .slice _ _ _ _ => some (0, false)
  | .nilPtr => some (1, true)
  | .ptr _ _ => some (1, false)
  | .nilFunc => some (2, true)
  | .func _ _ => some (2, false)
  | .nilMap => some (3, true)
  | _ => none
def tyK (P : Program) (t : TypeId) : Option Nat :=
  match P.underlying t with
  | some (.slice _) => some 0
  | some (.pointer _) => some 1
  | some (.func _ _ _) => some 2
  | some (.map _ _) => some 3
  | _ => none
def pNilEq (P : Program) (op : BinOp) (t : TypeId) (x y : AVal) : PR :=
  match nilK x, nilK y, tyK P t with
  | some (c, a), some (c', b), some c'' => match op with
    | .eql => ⟨(c = c' ∧ c' = c'') ∧ (a = true ∨ b = true), .bool (a && b)⟩
    | .neq => ⟨(c = c' ∧ c' = c'') ∧ (a = true ∨ b = true), .bool (!(a && b))⟩
    | _ => .no
  | _, _, _ => .no

def NilShape (c : Nat) (a : Bool) (u : Value) : Prop :=
  match c with
  | 0 => ∃ o l k, u = .slice o l k ∧ o.isNone = a
  | 1 => ∃ o, u = .pointer o ∧ o.isNone = a
  | 2 => (a = true ∧ u = .nilFunc) ∨ (a = false ∧ ∃ f x y, u = .func f x y)
  | 3 => ∃ o, u = .map o ∧ o.isNone = a
  | _ => False

theorem nilK_shape {φ : PMap} {x : AVal} {u : Value} {c : Nat} {a : Bool} (h : nilK x = some (c, a)) (hx : VR φ x u) : NilShape c a u := by
  cases x with
  | slice l o len cp =>
    cases h
    cases cp with
    | exact cp =>
      simp only [VR] at hx
      obtain ⟨ad, rfl, _⟩ := hx
      exact ⟨_, _, _, rfl, rfl⟩
    | grow g =>
      simp only [VR] at hx
      obtain ⟨k, p, cp, ad, _, _, rfl, _⟩ := hx
      exact ⟨_, _, _, rfl, rfl⟩
  | nilSlice => cases h; simp only [VR] at hx; subst hx; exact ⟨_, _, _, rfl, rfl⟩
  | nilPtr => cases h; simp only [VR] at hx; subst hx; exact ⟨_, rfl, rfl⟩
  | ptr l o => cases h; simp only [VR] at hx; obtain ⟨ad, _, rfl⟩ := hx; exact ⟨_, rfl, rfl⟩
  | nilFunc => cases h; simp only [VR] at hx; subst hx; exact .inl ⟨rfl, rfl⟩
  | func f cs => cases h; simp only [VR] at hx; obtain ⟨vs, rfl, _⟩ := hx; exact .inr ⟨rfl, _, _, _, rfl⟩
  | nilMap => cases h; simp only [VR] at hx; subst hx; exact ⟨_, rfl, rfl⟩
  | _ => cases h

theorem nil_equal {P : Program} {t : TypeId} {c : Nat} {a b : Bool} {u v : Value} (ht : tyK P t = some c) (hu : NilShape c a u) (hv : NilShape c b v) (hab : a = true ∨ b = true) (w : World) :
    (Op.equal t u v).run P w = .ok (a && b) w := by
  unfold tyK at ht
  obtain ⟨d, hdep⟩ : ∃ d, Op.maxDepth = d + 1 := ⟨Op.maxDepth - 1, by decide +kernel⟩
  unfold Op.equal
  rw [hdep]
  split at ht
  · rename_i e hd
    cases ht
    obtain ⟨o, l, k, rfl, rfl⟩ := hu
    obtain ⟨o', l', k', rfl, rfl⟩ := hv
    simp only [Op.equalIn, Sem.run_bind, run_underlying' hd, Result.andThen_ok]
    cases o <;> cases o' <;> simp_all
  · rename_i e hd
    cases ht
    obtain ⟨o, rfl, rfl⟩ := hu
    obtain ⟨o', rfl, rfl⟩ := hv
    simp only [Op.equalIn, Sem.run_bind, run_underlying' hd, Result.andThen_ok]
    cases o <;> cases o' <;> simp_all
  · rename_i x y z hd
    cases ht
    rcases hu with ⟨rfl, rfl⟩ | ⟨rfl, f, x, y, rfl⟩ <;> rcases hv with ⟨rfl, rfl⟩ | ⟨rfl, f', x', y', rfl⟩ <;> simp only [Op.equalIn, Sem.run_bind, run_underlying' hd, Result.andThen_ok] <;> simp at hab ⊢
  · rename_i e f hd
    cases ht
    obtain ⟨o, rfl, rfl⟩ := hu
    obtain ⟨o', rfl, rfl⟩ := hv
    simp only [Op.equalIn, Sem.run_bind, run_underlying' hd, Result.andThen_ok]
    cases o <;> cases o' <;> simp_all
  · cases ht

theorem pNilEq_ok {P : Program} {φ : PMap} {op : BinOp} {t : TypeId} {x y : AVal} {u v : Value} (hp : (pNilEq P op t x y).pre) (hx : VR φ x u) (hy : VR φ y v) (X Y : Operand) :
    ∃ r, (∀ w, (do eqGuard op t X Y u v; binOp op t u v : Sem Value).run P w = .ok r w) ∧ VR φ (pNilEq P op t x y).val r := by
  unfold pNilEq at hp ⊢
  split at hp
  · rename_i c a c' b c'' h1 h2 h3
    have key : ∀ (hc : c = c' ∧ c' = c'') (hab : a = true ∨ b = true), (∀ w, (eqGuard op t X Y u v).run P w = .ok () w) ∧ (∀ w, (Op.equal t u v).run P w = .ok (a && b) w) ∧
        (binOp .eql t u v = (do pure (.bool (← Op.equal t u v)))) ∧ (binOp .neq t u v = (do pure (.bool (!(← Op.equal t u v))))) := by
      intro ⟨e1, e2⟩ hab
      subst e1 e2
      have s1 := nilK_shape h1 hx
      have s2 := nilK_shape h2 hy
      refine ⟨fun w => ?_, nil_equal h3 s1 s2 hab, ?_, ?_⟩
      · unfold eqGuard
        match c, s1, s2 with
        | 0, ⟨_, _, _, e, _⟩, _ => subst e; cases op <;> simp
        | 1, ⟨_, e, _⟩, _ => subst e; cases op <;> simp
        | 2, .inl ⟨_, e⟩, _ => subst e; cases op <;> simp
        | 2, .inr ⟨_, _, _, _, e⟩, _ => subst e; cases op <;> simp
        | 3, ⟨_, e, _⟩, _ => subst e; cases op <;> simp
      · match c, s1, s2 with
        | 0, ⟨_, _, _, e, _⟩, _ => subst e; simp [binOp]
        | 1, ⟨_, e, _⟩, ⟨_, e', _⟩ => subst e e'; simp [binOp]
        | 2, .inl ⟨_, e⟩, _ => subst e; simp [binOp]
        | 2, .inr ⟨_, _, _, _, e⟩, _ => subst e; simp [binOp]
        | 3, ⟨_, e, _⟩, _ => subst e; simp [binOp]
      · match c, s1, s2 with
        | 0, ⟨_, _, _, e, _⟩, _ => subst e; simp [binOp]
        | 1, ⟨_, e, _⟩, ⟨_, e', _⟩ => subst e e'; simp [binOp]
        | 2, .inl ⟨_, e⟩, _ => subst e; simp [binOp]
        | 2, .inr ⟨_, _, _, _, e⟩, _ => subst e; simp [binOp]
        | 3, ⟨_, e, _⟩, _ => subst e; simp [binOp]
    split at hp
    · obtain ⟨hc, hab⟩ := hp
      obtain ⟨k1, k2, k3, _⟩ := key hc hab
      refine ⟨.bool (a && b), fun w => ?_, by simp only [VR]⟩
      rw [k3]
      simp [Sem.run_bind, k1, k2]
    · obtain ⟨hc, hab⟩ := hp
      obtain ⟨k1, k2, _, k4⟩ := key hc hab
      refine ⟨.bool (!(a && b)), fun w => ?_, by simp only [VR]⟩
      rw [k4]
      simp [Sem.run_bind, k1, k2]
    · exact hp.elim
  · exact hp.elim

def pBin (P : Program) (op : BinOp) (t : TypeId) (x y : AVal) : PR :=
  match x, y with
  | .int k a, .int k' b => match op with
    | .shl => ⟨0 ≤ b, .int k (k.wrap (a * 2 ^ (min b.toNat k.bits)))⟩
    | .shr => ⟨0 ≤ b, .int k (a.fdiv (2 ^ (min b.toNat k.bits)))⟩
    | op => if k = k' then pInt op k a b else .no
  | .str a, .str b => pStr op a b
  | .bool a, .bool b => match P.underlying t with
    | some .bool => match op with
      | .eql => ⟨True, .bool (a == b)⟩
      | .neq => ⟨True, .bool (!(a == b))⟩
      | _ => .no
    | _ => .no
  | x, y => pNilEq P op t x y

theorem beq_dec {α : Type} [BEq α] [LawfulBEq α] [DecidableEq α] (a b : α) : (a == b) = decide (a = b) := by
  rw [Bool.eq_iff_iff]; simp

theorem pBin_ok {P : Program} {φ : PMap} {op : BinOp} {t : TypeId} {x y : AVal} {u v : Value} (hp : (pBin P op t x y).pre) (hx : VR φ x u) (hy : VR φ y v) (X Y : Operand) :
    ∃ r, (∀ w, (do eqGuard op t X Y u v; binOp op t u v : Sem Value).run P w = .ok r w) ∧ VR φ (pBin P op t x y).val r := by
  unfold pBin at hp ⊢
  split at hp
  · rename_i k a k' b
    simp only [VR] at hx hy
    subst hx hy
    have hg : ∀ w, (eqGuard op t X Y (.int k a) (.int k' b)).run P w = .ok () w := by
      intro w; unfold eqGuard; cases op <;> simp
    simp only [Sem.run_bind, hg, Result.andThen_ok]
    cases op <;> simp only [] at hp ⊢
    case shl =>
      have : ¬ b < 0 := by omega
      simp [binOp, Op.shift, VR, this]
    case shr =>
      have : ¬ b < 0 := by omega
      simp [binOp, Op.shift, VR, this]
    all_goals
      by_cases hk : k = k'
      · subst hk
        simp only [if_true, pInt] at hp ⊢
        first
          | exact hp.elim
          | (simp [binOp, Op.intArith, Op.intDiv, Op.intBits, Op.intCmp, VR, hp]; done)
          | (simp [binOp, Op.intCmp, VR]; simp [beq_dec, bne])
      · simp only [hk, if_false] at hp
        exact hp.elim
  · rename_i a b
    simp only [VR] at hx hy
    subst hx hy
    have hg : ∀ w, (eqGuard op t X Y (.string ⟨⟨a⟩⟩) (.string ⟨⟨b⟩⟩)).run P w = .ok () w := by
      intro w; unfold eqGuard; cases op <;> simp
    simp only [Sem.run_bind, hg, Result.andThen_ok]
    have e1 : ByteArray.toList ⟨⟨a⟩⟩ = a := by rw [ByteArray.toList_eq]
    have e2 : ByteArray.toList ⟨⟨b⟩⟩ = b := by rw [ByteArray.toList_eq]
    have hbin : binOp op t (.string ⟨⟨a⟩⟩) (.string ⟨⟨b⟩⟩) = Op.stringOp op ⟨⟨a⟩⟩ ⟨⟨b⟩⟩ := by
      cases op <;> simp [binOp]
    rw [hbin]
    unfold pStr at hp ⊢
    unfold Op.stringOp
    rw [e1, e2]
    cases op <;> simp only [] at hp ⊢ <;> first
      | exact hp.elim
      | (simp [VR]; done)
      | (rw [beq_dec]; simp [VR]; done)
      | skip
    have h2 : ¬ ((((⟨⟨a⟩⟩ : ByteArray).size + (⟨⟨b⟩⟩ : ByteArray).size : Nat) : Int) > IntKind.i64.max) := by
      have : IntKind.i64.max = 9223372036854775807 := by decide
      rw [this]
      simp only [ByteArray.size, List.size_toArray] at *
      omega
    refine ⟨.string (⟨⟨a⟩⟩ ++ ⟨⟨b⟩⟩), fun w => by simp only [h2, if_false, Sem.run_pure], ?_⟩
    simp only [VR]
    congr 1
  · rename_i a b
    simp only [VR] at hx hy
    subst hx hy
    have hg : ∀ w, (eqGuard op t X Y (.bool a) (.bool b)).run P w = .ok () w := by
      intro w; unfold eqGuard; cases op <;> simp
    simp only [Sem.run_bind, hg, Result.andThen_ok]
    split at hp
    · rename_i ht
      cases op <;> simp only [] at hp ⊢ <;> first
        | exact hp.elim
        | (simp [run_eql_bool, run_neq_bool, ht, VR]; done)
    · exact hp.elim
  · exact pNilEq_ok hp hx hy X Y

end Go.AM

/-
  An assertion layer over the model's wp, part C: the other operations that only compute or read.
  Conditions: none. Nothing here is about a particular program.
-/
namespace Go.AM
open Go.RowKit (Below)

theorem VR_cellsV {φ : PMap} {x : AVal} {v : Value} (h : VR φ x v) (hx : ∀ cs, x ≠ .agg cs) (hl : x.live = true) : v.cells = #[v] := by
  cases x <;> simp only [VR] at h <;> first
    | (simp [AVal.live] at hl; done)
    | (subst h; rfl)
    | exact absurd rfl (hx _)
    | (obtain ⟨_, _, rfl⟩ := h; rfl)
    | (obtain ⟨_, rfl, _⟩ := h; rfl)
    | skip
  rename_i l o len c
  cases c <;> simp only [] at h
  · obtain ⟨_, rfl, _⟩ := h; rfl
  · obtain ⟨_, _, _, _, _, _, rfl, _⟩ := h; rfl

/-- Cells that were there read as they did. -/
def Same (w w' : World) : Prop := ∀ (a : Addr) (u : Value), w.cell? a = some u → w'.cell? a = some u

theorem Same.refl (w : World) : Same w w := fun _ _ h => h

/-! ### Unary operations and conversions -/
def pUn (op : UnOp) (x : AVal) : PR :=
  match op, x with
  | .neg, .int k n => ⟨True, .int k (k.wrap (0 - n))⟩
  | .not, .bool b => ⟨True, .bool (!b)⟩
  | _, _ => .no

theorem pUn_ok {P : Program} {φ : PMap} {op : UnOp} {x : AVal} {v : Value} (hp : (pUn op x).pre) (hx : VR φ x v) :
    ∃ r, (∀ w, (Op.unary op v).run P w = .ok r w) ∧ VR φ (pUn op x).val r := by
  unfold pUn at hp ⊢
  split at hp
  · simp only [VR] at hx; subst hx; simp [Op.unary, Op.intArith, VR]
  · simp only [VR] at hx; subst hx; simp [Op.unary, VR]
  · exact hp.elim

def AVal.isU8 : AVal → Bool
  | .int .u8 _ => true
  | _ => false
def AVal.byte : AVal → UInt8
  | .int _ n => UInt8.ofNat n.toNat
  | _ => 0

/-- Cells that hold a text. -/
def byteCells (s : List UInt8) : List AVal := s.map fun b => .int .u8 b.toNat

theorem byteCells_length (s : List UInt8) : (byteCells s).length = s.length := by simp [byteCells]
theorem byteCells_isU8 (s : List UInt8) : (byteCells s).all AVal.isU8 = true := by simp [byteCells, AVal.isU8]
theorem byteCells_byte (s : List UInt8) : (byteCells s).map AVal.byte = s := by
  induction s with
  | nil => rfl
  | cons b s ih =>
    simp only [byteCells, List.map_cons, List.map_map, AVal.byte] at ih ⊢
    rw [ih]
    congr 1
    simp

theorem VRs_u8 {φ : PMap} : ∀ {cs : List AVal} {vs : List Value}, VRs φ cs vs → cs.all AVal.isU8 = true → ∃ ns : List Int, vs = ns.map (Value.int .u8) ∧ cs.map AVal.byte = ns.map fun n => UInt8.ofNat n.toNat
  | [], vs, h, _ => by simp only [VRs] at h; subst h; exact ⟨[], rfl, rfl⟩
  | c :: cs, vs, h, hu => by
    simp only [VRs] at h
    obtain ⟨v, vs', rfl, h1, h2⟩ := h
    simp only [List.all_cons, Bool.and_eq_true] at hu
    obtain ⟨ns, e1, e2⟩ := VRs_u8 h2 hu.2
    match c, hu.1, h1 with
    | .int .u8 n, _, h1 =>
      simp only [VR] at h1
      exact ⟨n :: ns, by simp [h1, e1], by simp [AVal.byte, e2]⟩

theorem allLive_of_u8 : ∀ {cs : List AVal}, cs.all AVal.isU8 = true → allLive cs = true
  | [], _ => rfl
  | c :: cs, h => by
    simp only [List.all_cons, Bool.and_eq_true] at h
    simp only [allLive, allLive_of_u8 h.2, Bool.and_true]
    match c, h.1 with
    | .int .u8 n, _ => rfl

def pConv (P : Program) (w₀ : World) (h : AHeap) (src dst : TypeId) (x : AVal) : PR :=
  match x with
  | .int _ n => match P.underlying src, P.underlying dst with
    | some _, some (.int k) => ⟨True, .int k (k.wrap n)⟩
    | _, _ => .no
  | .str s => match P.underlying src, P.underlying dst with
    | some .string, some .string => ⟨True, .str s⟩
    | _, _ => .no
  | .nilSlice => match P.underlying src, P.underlying dst with
    | some (.slice e), some .string => match P.underlying e with
      | some (.int .u8) => ⟨True, .str []⟩
      | _ => .no
    | _, _ => .no
  | .slice l o len _ => match P.underlying src, P.underlying dst with
    | some (.slice e), some .string => match P.underlying e with
      | some (.int .u8) => ⟨(cellsAt w₀ h l o len).all AVal.isU8 = true, .str ((cellsAt w₀ h l o len).map AVal.byte)⟩
      | _ => .no
    | _, _ => .no
  | _ => .no

/-- A slice's own row: where it begins, unless it is empty. -/
theorem VR_slice_addr {φ : PMap} {l : Loc} {o len : Nat} {c : Cap} {v : Value} (h : VR φ (.slice l o len c) v) :
    ∃ a cap, v = .slice (some a) len cap ∧ (len ≠ 0 → locAddr φ l o = some a) := by
  cases c with
  | exact c =>
    simp only [VR] at h
    obtain ⟨a, rfl, ha⟩ := h
    exact ⟨a, c, rfl, fun hne => ha (.inr hne)⟩
  | grow es =>
    simp only [VR] at h
    obtain ⟨k, p, c, a, rfl, hp, rfl, hl, hc⟩ := h
    exact ⟨a, c, rfl, fun hne => by
      have := (hc (by omega)).1
      subst this
      simp [locAddr, hp]⟩

theorem loadCells_ok {P : Program} {w₀ w : World} {φ : PMap} {h : AHeap} (hr : HRel w₀ φ h w) {l : Loc} {o n : Nat} {a : Addr} (ha : n ≠ 0 → locAddr φ l o = some a) (hl : allLive (cellsAt w₀ h l o n) = true) :
    ∃ vs : List Value, vs.length = n ∧ VRs φ (cellsAt w₀ h l o n) vs ∧ (∀ w', Same w w' → (loadCells a n).run P w' = .ok vs.toArray w') ∧ ∀ j v, vs[j]? = some v → w.cell? (a.add j) = some v := by
  by_cases hn : n = 0
  · subst hn
    exact ⟨[], rfl, by simp [cellsAt, VRs], by simp [loadCells, loadCellsFrom], by simp⟩
  · obtain ⟨vs, e1, e2, e3⟩ := cells_read hr l n o a (ha hn) hl
    exact ⟨vs, e1, e2, fun w' hw => by rw [← e1]; exact run_loadCells_list w' a vs fun j v hj => hw _ _ (e3 j v hj), e3⟩

theorem pConv_ok {P : Program} {w₀ w : World} {φ : PMap} {h : AHeap} {src dst : TypeId} {x : AVal} {v : Value} (hp : (pConv P w₀ h src dst x).pre) (hr : HRel w₀ φ h w) (hx : VR φ x v) :
    ∃ r, (∀ w', Same w w' → (convert src dst v).run P w' = .ok r w') ∧ VR φ (pConv P w₀ h src dst x).val r := by
  unfold pConv at hp ⊢
  split at hp
  · rename_i k n
    simp only [VR] at hx; subst hx
    split at hp
    · rename_i d k' h1 h2
      exact ⟨.int k' (k'.wrap n), fun w' _ => by simp [convert, run_underlying' h1, run_underlying' h2, Conv.intToInt], by simp only [VR]⟩
    · exact hp.elim
  · simp only [VR] at hx; subst hx
    split at hp
    · rename_i h1 h2
      exact ⟨_, fun w' _ => by simp [convert, run_underlying' h1, run_underlying' h2]; rfl, by simp only [VR]⟩
    · exact hp.elim
  · simp only [VR] at hx; subst hx
    split at hp
    · rename_i e h1 h2
      split at hp
      · rename_i h3
        refine ⟨.string .empty, fun w' _ => ?_, by simp only [VR]; rfl⟩
        rw [run_convert_bytes_string w' src dst e none 0 0 h1 h3 h2]
        simp [Conv.bytesToString]
      · exact hp.elim
    · exact hp.elim
  · rename_i l o len c
    split at hp
    · rename_i e h1 h2
      split at hp
      · rename_i h3
        simp only at hp ⊢
        obtain ⟨a, cap, rfl, ha⟩ := VR_slice_addr hx
        obtain ⟨vs, e1, e2, e3, _⟩ := loadCells_ok (P := P) hr ha (allLive_of_u8 hp)
        obtain ⟨ns, f1, f2⟩ := VRs_u8 e2 hp
        subst f1
        refine ⟨.string ⟨ByteArray.empty.data ++ (ns.map fun n => UInt8.ofNat n.toNat).toArray⟩, fun w' hw => ?_, ?_⟩
        · rw [run_convert_bytes_string w' src dst e (some a) len cap h1 h3 h2, run_bytesToString w' a len cap ns (e3 w' hw), foldl_push_bytes]
        · simp only [VR]
          rw [f2]
          simp [ByteArray.empty, ByteArray.emptyWithCapacity]
          rfl
      · exact hp.elim
    · exact hp.elim
  · exact hp.elim

/-! ### Indexing, fields, loads -/
def partA (P : Program) (t : TypeId) (cs : List AVal) (off : Nat) : PR :=
  match aggOf P t, szOf P t with
  | some true, some n => ⟨off + n ≤ cs.length, .agg ((cs.drop off).take n)⟩
  | some false, some _ => ⟨off < cs.length, cs.getD off .dead⟩
  | _, _ => .no

theorem partA_ok {P : Program} {φ : PMap} {t : TypeId} {cs : List AVal} {off : Nat} {vs : List Value} (hp : (partA P t cs off).pre) (hs : VRs φ cs vs) :
    ∃ r, (∀ w, (part t vs.toArray off).run P w = .ok r w) ∧ VR φ (partA P t cs off).val r := by
  unfold partA at hp ⊢
  split at hp
  · rename_i n h1 h2
    simp only at hp ⊢
    refine ⟨.agg (vs.toArray.extract off (off + n)), fun w => by simp [part, run_isAgg' h1, run_sizeOf' h2], ?_⟩
    simp only [VR]
    refine ⟨(vs.drop off).take n, ?_, VRs_take n (VRs_drop off hs)⟩
    congr 1
    apply Array.ext'
    simp [List.extract]
  · rename_i h1 h2
    simp only at hp ⊢
    have hl := VRs_length hs
    have := VRs_get hs off undef (by omega)
    refine ⟨vs.getD off undef, fun w => ?_, this⟩
    have hlt : off < vs.length := by omega
    simp [part, run_isAgg' h1, hlt]
  · exact hp.elim

def pField (P : Program) (t : TypeId) (x : AVal) (f : Nat) : PR :=
  match x, P.underlying t with
  | .agg cs, some (.struct fs) => match fs[f]? with
    | some fd => partA P fd.type cs fd.offset
    | none => .no
  | _, _ => .no

theorem pField_ok {P : Program} {φ : PMap} {t : TypeId} {x : AVal} {f : Nat} {v : Value} (hp : (pField P t x f).pre) (hx : VR φ x v) :
    ∃ r, (∀ w, (Instr.field t v f).run P w = .ok r w) ∧ VR φ (pField P t x f).val r := by
  unfold pField at hp ⊢
  split at hp
  · rename_i cs fs h1
    split at hp
    · rename_i fd h2
      simp only [VR] at hx
      obtain ⟨vs, rfl, hs⟩ := hx
      obtain ⟨r, e1, e2⟩ := partA_ok hp hs
      exact ⟨r, fun w => by simp [Instr.field, run_underlying' h1, h2, asAgg, e1], e2⟩
    · exact hp.elim
  · exact hp.elim

def pIndex (P : Program) (t : TypeId) (x i : AVal) : PR :=
  match x, i with
  | .str s, .int _ n => match P.underlying t with
    | some .string => ⟨0 ≤ n ∧ n < s.length, .int .u8 (s.getD n.toNat 0).toNat⟩
    | _ => .no
  | .agg cs, .int _ n => match P.underlying t with
    | some (.array len e) => match szOf P e with
      | some es => ⟨(0 ≤ n ∧ n < len) ∧ (partA P e cs (n.toNat * es)).pre, (partA P e cs (n.toNat * es)).val⟩
      | none => .no
    | _ => .no
  | _, _ => .no

theorem pIndex_ok {P : Program} {φ : PMap} {t : TypeId} {x i : AVal} {v u : Value} (hp : (pIndex P t x i).pre) (hx : VR φ x v) (hi : VR φ i u) :
    ∃ r, (∀ w, (Instr.index t v u).run P w = .ok r w) ∧ VR φ (pIndex P t x i).val r := by
  unfold pIndex at hp ⊢
  split at hp
  · rename_i s k n
    split at hp
    · rename_i h1
      simp only [VR] at hx hi
      subst hx hi
      simp only at hp ⊢
      obtain ⟨h0, h2⟩ := hp
      refine ⟨.int .u8 (s.getD n.toNat 0).toNat, fun w => ?_, by simp only [VR]⟩
      have hlt : n.toNat < s.length := by omega
      have hg : (⟨⟨s⟩⟩ : ByteArray)[n.toNat]? = some (s.getD n.toNat 0) := by
        rw [getElem?_pos _ _ (by simpa [ByteArray.size] using hlt)]
        simp [ByteArray.getElem_eq_getElem_data, List.getD, hlt]
      simp [Instr.index, asIntOf, run_underlying' h1, h0, hg]
    · exact hp.elim
  · rename_i cs k n
    split at hp
    · rename_i len e h1
      split at hp
      · rename_i es h2
        simp only [VR] at hx hi
        subst hi
        obtain ⟨vs, rfl, hs⟩ := hx
        simp only at hp ⊢
        obtain ⟨⟨h3, h4⟩, h5⟩ := hp
        obtain ⟨r, e1, e2⟩ := partA_ok h5 hs
        exact ⟨r, fun w => by simp [Instr.index, asIntOf, run_underlying' h1, h3, h4, run_sizeOf' h2, e1], e2⟩
      · exact hp.elim
    · exact hp.elim
  · exact hp.elim

def pIndexAddr (P : Program) (t : TypeId) (x i : AVal) : PR :=
  match x, i with
  | .slice l o len _, .int _ n => match P.underlying t with
    | some (.slice e) => match szOf P e with
      | some es => ⟨0 ≤ n ∧ n < len, .ptr l (o + n.toNat * es)⟩
      | none => .no
    | _ => .no
  | .ptr l o, .int _ n => match P.underlying t with
    | some (.array len e) => match szOf P e with
      | some es => ⟨0 ≤ n ∧ n < len, .ptr l (o + n.toNat * es)⟩
      | none => .no
    | _ => .no
  | _, _ => .no

theorem pIndexAddr_ok {P : Program} {φ : PMap} {t : TypeId} {x i : AVal} {v u : Value} (hp : (pIndexAddr P t x i).pre) (hx : VR φ x v) (hi : VR φ i u) :
    ∃ r, (∀ w, (Instr.indexAt t v u).run P w = .ok r w) ∧ VR φ (pIndexAddr P t x i).val r := by
  unfold pIndexAddr at hp ⊢
  split at hp
  · rename_i l o len c k n
    split at hp
    · rename_i e h1
      split at hp
      · rename_i es h2
        simp only at hp ⊢
        obtain ⟨h3, h4⟩ := hp
        obtain ⟨a, cap, rfl, ha⟩ := VR_slice_addr hx
        simp only [VR] at hi
        subst hi
        have ha' := ha (by omega)
        refine ⟨.pointer (some (a.add (n.toNat * es))), fun w => ?_, by simp only [VR]; exact ⟨_, locAddr_add ha', rfl⟩⟩
        simp [Instr.indexAt, asIntOf, run_underlying' h1, h3, h4, run_sizeOf' h2]
      · exact hp.elim
    · exact hp.elim
  · rename_i l o k n
    split at hp
    · rename_i len e h1
      split at hp
      · rename_i es h2
        simp only at hp ⊢
        obtain ⟨h3, h4⟩ := hp
        simp only [VR] at hi hx
        subst hi
        obtain ⟨a, ha, rfl⟩ := hx
        refine ⟨.pointer (some (a.add (n.toNat * es))), fun w => ?_, by simp only [VR]; exact ⟨_, locAddr_add ha, rfl⟩⟩
        simp [Instr.indexAt, Instr.sureAddr, asIntOf, run_underlying' h1, h3, h4, run_sizeOf' h2]
      · exact hp.elim
    · exact hp.elim
  · exact hp.elim

def pFieldAddr (P : Program) (t : TypeId) (x : AVal) (f : Nat) : PR :=
  match x, P.underlying t with
  | .ptr l o, some (.struct fs) => match fs[f]? with
    | some fd => match szOf P fd.type with
      | some n => ⟨n ≠ 0, .ptr l (o + fd.offset)⟩
      | none => .no
    | none => .no
  | _, _ => .no

theorem pFieldAddr_ok {P : Program} {φ : PMap} {t : TypeId} {x : AVal} {f : Nat} {v : Value} (hp : (pFieldAddr P t x f).pre) (hx : VR φ x v) :
    ∃ r, (∀ w, (Instr.fieldAt t v f).run P w = .ok r w) ∧ VR φ (pFieldAddr P t x f).val r := by
  unfold pFieldAddr at hp ⊢
  split at hp
  · rename_i l o fs h1
    split at hp
    · rename_i fd h2
      split at hp
      · rename_i n h3
        simp only [VR] at hx
        obtain ⟨a, ha, rfl⟩ := hx
        simp only at hp ⊢
        refine ⟨.pointer (some (a.add fd.offset)), fun w => ?_, by simp only [VR]; exact ⟨_, locAddr_add ha, rfl⟩⟩
        simp [Instr.fieldAt, run_underlying' h1, h2, Instr.sureAddr, fieldPlace, run_sizeOf' h3, hp]
      · exact hp.elim
    · exact hp.elim
  · exact hp.elim

def pLoad (P : Program) (w₀ : World) (h : AHeap) (t : TypeId) (x : AVal) : PR :=
  match x with
  | .ptr l o => match aggOf P t, szOf P t with
    | some true, some n => ⟨allLive (cellsAt w₀ h l o n) = true, .agg (cellsAt w₀ h l o n)⟩
    | some false, _ => ⟨(rd w₀ h l o).live = true, rd w₀ h l o⟩
    | _, _ => .no
  | _ => .no

theorem pLoad_ok {P : Program} {w₀ w : World} {φ : PMap} {h : AHeap} {t : TypeId} {x : AVal} {v : Value} (hp : (pLoad P w₀ h t x).pre) (hr : HRel w₀ φ h w) (hx : VR φ x v) :
    ∃ r, (∀ w', Same w w' → (Instr.loadAt t v).run P w' = .ok r w') ∧ VR φ (pLoad P w₀ h t x).val r := by
  unfold pLoad at hp ⊢
  split at hp
  · rename_i l o
    simp only [VR] at hx
    obtain ⟨a, ha, rfl⟩ := hx
    split at hp
    · rename_i n h1 h2
      simp only at hp ⊢
      obtain ⟨vs, e1, e2, e3, _⟩ := loadCells_ok (P := P) hr (fun _ => ha) hp
      refine ⟨.agg vs.toArray, fun w' hw => ?_, by simp only [VR]; exact ⟨vs, rfl, e2⟩⟩
      simp [Instr.loadAt, Instr.sureAddr, loadVar, run_isAgg' h1, run_sizeOf' h2, e3 w' hw]
    · rename_i _ _ h1
      simp only at hp ⊢
      obtain ⟨a', u, g1, g2, g3, _⟩ := hr.rd l o hp
      have : a' = a := by rw [ha] at g1; exact (Option.some.inj g1).symm
      subst this
      exact ⟨u, fun w' hw => by simp [Instr.loadAt, Instr.sureAddr, loadVar, run_isAgg' h1, hw _ _ g2], g3⟩
    · exact hp.elim
  · exact hp.elim

/-! ### Slicing -/
def bndA (x : Option AVal) (d : Nat) : Option Int :=
  match x with
  | none => some d
  | some (.int _ n) => some n
  | _ => none

def pSlice (P : Program) (t : TypeId) (x : AVal) (lo hi mx : Option AVal) : PR :=
  match x, P.underlying t with
  | .str s, some .string => match mx, bndA lo 0, bndA hi s.length with
    | none, some l, some h => ⟨0 ≤ l ∧ l ≤ h ∧ h ≤ s.length, .str ((s.drop l.toNat).take (h.toNat - l.toNat))⟩
    | _, _, _ => .no
  | .nilSlice, some (.slice e) => match szOf P e, mx, bndA lo 0, bndA hi 0 with
    | some _, none, some l, some h => ⟨l = 0 ∧ h = 0, .nilSlice⟩
    | some _, some (.int _ m), some l, some h => ⟨(l = 0 ∧ h = 0 ∧ m = 0) ∧ hi.isSome = true, .nilSlice⟩
    | _, _, _, _ => .no
  | .slice lc o len c, some (.slice e) => match szOf P e, bndA lo 0, bndA hi len, mx, c with
    | some es, some l, some h, none, .exact c => ⟨0 ≤ l ∧ l ≤ h ∧ h ≤ c, .slice lc (o + l.toNat * es) (h - l).toNat (.exact (c - l).toNat)⟩
    | some es, some l, some h, none, .grow g => ⟨0 ≤ l ∧ l ≤ h ∧ h ≤ len ∧ g = es, .slice lc (o + l.toNat * es) (h - l).toNat (.grow g)⟩
    | some es, some l, some h, some (.int _ m), .exact c => ⟨(0 ≤ l ∧ l ≤ h ∧ h ≤ m ∧ m ≤ c) ∧ hi.isSome = true, .slice lc (o + l.toNat * es) (h - l).toNat (.exact (m - l).toNat)⟩
    | some es, some l, some h, some (.int _ m), .grow _ => ⟨(0 ≤ l ∧ l ≤ h ∧ h ≤ m ∧ m ≤ len) ∧ hi.isSome = true, .slice lc (o + l.toNat * es) (h - l).toNat (.exact (m - l).toNat)⟩
    | _, _, _, _, _ => .no
  | _, _ => .no

theorem sliceBounds_ok {P : Program} (b : Bool) (len cap : Nat) (lo hi : Option Value) (l h : Int)
    (hlo : (lo = none ∧ l = 0) ∨ ∃ k, lo = some (.int k l)) (hhi : (hi = none ∧ h = len) ∨ ∃ k, hi = some (.int k h)) (h0 : 0 ≤ l) (h1 : l ≤ h) (h2 : h ≤ cap) :
    ∀ w : World, (Instr.sliceBounds b len cap lo hi none).run P w = .ok (l.toNat, h.toNat, cap) w := by
  intro w
  obtain ⟨l, rfl⟩ := Int.eq_ofNat_of_zero_le h0
  obtain ⟨h, rfl⟩ := Int.eq_ofNat_of_zero_le (Int.le_trans h0 h1)
  have b1 : l ≤ h := by omega
  have b2 : h ≤ cap := by omega
  rcases hlo with ⟨rfl, e⟩ | ⟨k, rfl⟩ <;> rcases hhi with ⟨rfl, e'⟩ | ⟨k', rfl⟩
  · obtain rfl : l = 0 := by omega
    obtain rfl : h = len := by omega
    simp [Instr.sliceBounds]
  · obtain rfl : l = 0 := by omega
    simp [Instr.sliceBounds, Instr.sliceBound, asIntOf, b2]
  · obtain rfl : h = len := by omega
    simp [Instr.sliceBounds, Instr.sliceBound, asIntOf, b1]
  · simp [Instr.sliceBounds, Instr.sliceBound, asIntOf, b1, b2]

theorem sliceBounds_max {P : Program} (len cap : Nat) (lo : Option Value) (l h m : Int) (k' k'' : IntKind)
    (hlo : (lo = none ∧ l = 0) ∨ ∃ k, lo = some (.int k l)) (h0 : 0 ≤ l) (h1 : l ≤ h) (h2 : h ≤ m) (h3 : m ≤ cap) :
    ∀ w : World, (Instr.sliceBounds true len cap lo (some (.int k' h)) (some (.int k'' m))).run P w = .ok (l.toNat, h.toNat, m.toNat) w := by
  intro w
  obtain ⟨l, rfl⟩ := Int.eq_ofNat_of_zero_le h0
  obtain ⟨h, rfl⟩ := Int.eq_ofNat_of_zero_le (Int.le_trans h0 h1)
  obtain ⟨m, rfl⟩ := Int.eq_ofNat_of_zero_le (Int.le_trans h0 (Int.le_trans h1 h2))
  have b1 : l ≤ h := by omega
  have b2 : h ≤ m := by omega
  have b3 : m ≤ cap := by omega
  rcases hlo with ⟨rfl, e⟩ | ⟨k, rfl⟩
  · obtain rfl : l = 0 := by omega
    simp [Instr.sliceBounds, Instr.sliceBound, asIntOf, b2, b3]
  · simp [Instr.sliceBounds, Instr.sliceBound, asIntOf, b1, b2, b3]

def OVR (φ : PMap) : Option AVal → Option Value → Prop
  | none, v => v = none
  | some x, v => ∃ u, v = some u ∧ VR φ x u

theorem bndA_ok {φ : PMap} {x : Option AVal} {v : Option Value} {d : Nat} {n : Int} (h : bndA x d = some n) (hx : OVR φ x v) :
    (v = none ∧ n = d ∧ x = none) ∨ ∃ k, v = some (.int k n) := by
  unfold bndA at h
  split at h
  · simp only [OVR] at hx
    exact .inl ⟨hx, (Option.some.inj h).symm, rfl⟩
  · rename_i k n'
    simp only [OVR, VR] at hx
    obtain ⟨u, rfl, rfl⟩ := hx
    cases h
    exact .inr ⟨k, rfl⟩
  · cases h

theorem slice_string_ok {P : Program} (t : TypeId) (ht : P.underlying t = some .string) (s : List UInt8) (lo hi : Option Value) (l h : Int)
    (hlo : (lo = none ∧ l = 0) ∨ ∃ k, lo = some (.int k l)) (hhi : (hi = none ∧ h = s.length) ∨ ∃ k, hi = some (.int k h)) (h0 : 0 ≤ l) (h1 : l ≤ h) (h2 : h ≤ s.length) :
    ∀ w : World, (Instr.sliceAt t (.string ⟨⟨s⟩⟩) lo hi none).run P w = .ok (.string ⟨⟨(s.drop l.toNat).take (h.toNat - l.toNat)⟩⟩) w := by
  intro w
  have hb := sliceBounds_ok (P := P) false s.length s.length lo hi l h hlo hhi h0 h1 h2 w
  have hx : (⟨⟨s⟩⟩ : ByteArray).extract l.toNat h.toNat = ⟨⟨(s.drop l.toNat).take (h.toNat - l.toNat)⟩⟩ := by
    apply ByteArray.ext
    apply Array.ext'
    rw [Lib.extract_data]
  have hsz : (⟨⟨s⟩⟩ : ByteArray).size = s.length := by simp [ByteArray.size]
  simp [Instr.sliceAt, Instr.slice, run_underlying' ht, hsz, hb, hx]

theorem slice_slice_ok {P : Program} (t e : TypeId) (ht : P.underlying t = some (.slice e)) (es : Nat) (he : szOf P e = some es) (a : Option Addr) (len cap : Nat) (lo hi mx : Option Value) (l h m : Nat)
    (hb : ∀ w : World, (Instr.sliceBounds true len cap lo hi mx).run P w = .ok (l, h, m) w) :
    ∀ w : World, (Instr.sliceAt t (.slice a len cap) lo hi mx).run P w = .ok (.slice (if m = l then a else a.map (·.add (l * es))) (h - l) (m - l)) w := by
  intro w
  simp [Instr.sliceAt, Instr.slice, run_underlying' ht, hb w, run_sizeOf' he]

theorem pSlice_ok {P : Program} {φ : PMap} {t : TypeId} {x : AVal} {lo hi mx : Option AVal} {v : Value} {vl vh vm : Option Value} (hp : (pSlice P t x lo hi mx).pre) (hx : VR φ x v)
    (hl : OVR φ lo vl) (hh : OVR φ hi vh) (hm : OVR φ mx vm) :
    ∃ r, (∀ w, (Instr.sliceAt t v vl vh vm).run P w = .ok r w) ∧ VR φ (pSlice P t x lo hi mx).val r := by
  unfold pSlice at hp ⊢
  split at hp
  · rename_i s h1
    split at hp
    · rename_i l h h2 h3
      simp only [VR] at hx; subst hx
      simp only [OVR] at hm; subst hm
      simp only at hp ⊢
      obtain ⟨p1, p2, p3⟩ := hp
      refine ⟨_, slice_string_ok t h1 s vl vh l h ?_ ?_ p1 p2 p3, by simp only [VR]⟩
      · rcases bndA_ok h2 hl with ⟨e1, e2, _⟩ | e
        · exact .inl ⟨e1, by simpa using e2⟩
        · exact .inr e
      · rcases bndA_ok h3 hh with ⟨e1, e2, _⟩ | e
        · exact .inl ⟨e1, by simpa using e2⟩
        · exact .inr e
    · exact hp.elim
  · rename_i e h1
    split at hp
    · rename_i n l h h2 h3 h4
      simp only [VR] at hx; subst hx
      simp only [OVR] at hm; subst hm
      simp only at hp ⊢
      obtain ⟨rfl, rfl⟩ := hp
      have hb := sliceBounds_ok (P := P) true 0 0 vl vh 0 0 (by
        rcases bndA_ok h3 hl with ⟨e1, _, _⟩ | e
        · exact .inl ⟨e1, rfl⟩
        · exact .inr e) (by
        rcases bndA_ok h4 hh with ⟨e1, _, _⟩ | e
        · exact .inl ⟨e1, rfl⟩
        · exact .inr e) (by omega) (by omega) (by omega)
      exact ⟨_, slice_slice_ok t e h1 n h2 none 0 0 vl vh none _ _ _ hb, by simp [VR]⟩
    · rename_i n k m l h h2 h3 h4
      simp only [VR] at hx; subst hx
      simp only [OVR, VR] at hm
      obtain ⟨u, rfl, rfl⟩ := hm
      simp only at hp ⊢
      obtain ⟨⟨rfl, rfl, rfl⟩, p5⟩ := hp
      obtain ⟨kh, rfl⟩ : ∃ k, vh = some (.int k 0) := by
        rcases bndA_ok h4 hh with ⟨_, _, e3⟩ | e
        · subst e3; cases p5
        · exact e
      have hb := sliceBounds_max (P := P) 0 0 vl 0 0 0 kh k (by
        rcases bndA_ok h3 hl with ⟨e1, _, _⟩ | e
        · exact .inl ⟨e1, rfl⟩
        · exact .inr e) (by omega) (by omega) (by omega) (by omega)
      exact ⟨_, slice_slice_ok t e h1 n h2 none 0 0 vl _ _ _ _ _ hb, by simp [VR]⟩
    · exact hp.elim
  · rename_i lc o len c e h1
    have low : ∀ l, bndA lo 0 = some l → (vl = none ∧ l = 0) ∨ ∃ k, vl = some (.int k l) := fun l hb => by
      rcases bndA_ok hb hl with ⟨e1, e2, _⟩ | e
      · exact .inl ⟨e1, by simpa using e2⟩
      · exact .inr e
    have high : ∀ h, bndA hi len = some h → (vh = none ∧ h = len) ∨ ∃ k, vh = some (.int k h) := fun h hb => by
      rcases bndA_ok hb hh with ⟨e1, e2, _⟩ | e
      · exact .inl ⟨e1, e2⟩
      · exact .inr e
    have high' : ∀ h, bndA hi len = some h → hi.isSome = true → ∃ k, vh = some (.int k h) := fun h hb hs => by
      rcases bndA_ok hb hh with ⟨_, _, e3⟩ | e
      · subst e3; cases hs
      · exact e
    split at hp
    · rename_i es l h c h2 h3 h4
      simp only [OVR] at hm; subst hm
      simp only at hp ⊢
      obtain ⟨p1, p2, p3⟩ := hp
      simp only [VR] at hx
      obtain ⟨a, rfl, ha⟩ := hx
      have hb := sliceBounds_ok (P := P) true len c vl vh l h (low l h3) (high h h4) p1 p2 p3
      refine ⟨_, slice_slice_ok t e h1 es h2 (some a) len c vl vh none _ _ _ hb, ?_⟩
      simp only [VR]
      refine ⟨if c = l.toNat then a else a.add (l.toNat * es), ?_, fun hne => ?_⟩
      · congr 1
        · split <;> simp
        · omega
        · omega
      · have hcl : c ≠ l.toNat := by omega
        rw [if_neg hcl]
        exact locAddr_add (ha (by omega))
    · rename_i es l h g h2 h3 h4
      simp only [OVR] at hm; subst hm
      simp only at hp ⊢
      obtain ⟨p1, p2, p3, rfl⟩ := hp
      simp only [VR] at hx
      obtain ⟨k, p, c, a, rfl, hp, rfl, hlc, hc⟩ := hx
      have hb := sliceBounds_ok (P := P) true len c vl vh l h (low l h3) (high h h4) p1 p2 (by omega)
      refine ⟨_, slice_slice_ok t e h1 g h2 (some a) len c vl vh none _ _ _ hb, ?_⟩
      simp only [VR]
      refine ⟨k, p, c - l.toNat, if c = l.toNat then a else a.add (l.toNat * g), rfl, hp, ?_, by omega, fun hne => ?_⟩
      · congr 1
        · split <;> simp
        · omega
      · have hcl : c ≠ l.toNat := by omega
        rw [if_neg hcl]
        obtain ⟨e1, e2⟩ := hc (by omega)
        constructor
        · have : locAddr φ (.own k) o = some a := by simp [locAddr, hp, e1]
          have := locAddr_add (j := l.toNat * g) this
          simp only [locAddr, hp, Option.map_some, Option.some.injEq] at this
          exact this.symm
        · rw [Nat.add_assoc, ← Nat.add_mul]
          rw [show l.toNat + (c - l.toNat) = c by omega]
          exact e2
    · rename_i es l h k m c h2 h3 h4
      simp only [OVR, VR] at hm
      obtain ⟨u, rfl, rfl⟩ := hm
      simp only at hp ⊢
      obtain ⟨⟨p1, p2, p3, p4⟩, p5⟩ := hp
      obtain ⟨kh, rfl⟩ := high' h h4 p5
      simp only [VR] at hx
      obtain ⟨a, rfl, ha⟩ := hx
      have hb := sliceBounds_max (P := P) len c vl l h m kh k (low l h3) p1 p2 p3 p4
      refine ⟨_, slice_slice_ok t e h1 es h2 (some a) len c vl _ _ _ _ _ hb, ?_⟩
      simp only [VR]
      refine ⟨if m.toNat = l.toNat then a else a.add (l.toNat * es), ?_, fun hne => ?_⟩
      · congr 1
        · split <;> simp
        · omega
        · omega
      · have hcl : m.toNat ≠ l.toNat := by omega
        rw [if_neg hcl]
        exact locAddr_add (ha (by omega))
    · rename_i es l h k m g h2 h3 h4
      simp only [OVR, VR] at hm
      obtain ⟨u, rfl, rfl⟩ := hm
      simp only at hp ⊢
      obtain ⟨⟨p1, p2, p3, p4⟩, p5⟩ := hp
      obtain ⟨kh, rfl⟩ := high' h h4 p5
      simp only [VR] at hx
      obtain ⟨k', p, c, a, rfl, hp, rfl, hlc, hc⟩ := hx
      have hb := sliceBounds_max (P := P) len c vl l h m kh k (low l h3) p1 p2 p3 (by omega)
      refine ⟨_, slice_slice_ok t e h1 es h2 (some a) len c vl _ _ _ _ _ hb, ?_⟩
      simp only [VR]
      refine ⟨if m.toNat = l.toNat then a else a.add (l.toNat * es), ?_, fun hne => ?_⟩
      · congr 1
        · split <;> simp
        · omega
        · omega
      · have hcl : m.toNat ≠ l.toNat := by omega
        rw [if_neg hcl]
        obtain ⟨e1, e2⟩ := hc (by omega)
        exact locAddr_add (by simp [locAddr, hp, e1])
    · exact hp.elim
  · exact hp.elim

end Go.AM

/-
  An assertion layer over the model's wp, part D: structs and arrays by value, equality, the small builtins, and all reading operations together.
  Conditions: none. Nothing here is about a particular program.
-/
namespace Go.AM
open Go.RowKit (Below)

/-! ### Building a struct or an array -/
def AVal.cells : AVal → List AVal
  | .agg cs => cs
  | x => [x]

theorem VRs_cells {φ : PMap} {x : AVal} {v : Value} (h : VR φ x v) (hl : x.live = true) : VRs φ x.cells v.cells.toList := by
  by_cases hx : ∃ cs, x = .agg cs
  · obtain ⟨cs, rfl⟩ := hx
    simp only [VR] at h
    obtain ⟨vs, rfl, hs⟩ := h
    simpa [AVal.cells, Value.cells] using hs
  · have e : x.cells = [x] := by
      unfold AVal.cells
      split
      · exact absurd ⟨_, rfl⟩ hx
      · rfl
    rw [e, VR_cellsV h (fun cs hcs => hx ⟨cs, hcs⟩) hl]
    simp only [VRs]
    exact ⟨v, [], rfl, h, rfl⟩

def setAt {α : Type} (cells : List α) (off : Nat) : List α → List α
  | [] => cells
  | c :: cs => setAt (cells.set off c) (off + 1) cs

theorem setAt_length {α : Type} : ∀ (vs cells : List α) (off : Nat), (setAt cells off vs).length = cells.length
  | [], _, _ => rfl
  | c :: cs, cells, off => by simp [setAt, setAt_length cs]

theorem VRs_setAt {φ : PMap} : ∀ {cs : List AVal} {us : List Value} {cells : List AVal} {vs : List Value} (off : Nat), VRs φ cs us → VRs φ cells vs → VRs φ (setAt cells off cs) (setAt vs off us)
  | [], us, _, _, _, h, h' => by simp only [VRs] at h; subst h; exact h'
  | c :: cs, us, cells, vs, off, h, h' => by
    simp only [VRs] at h
    obtain ⟨u, us', rfl, h1, h2⟩ := h
    simp only [setAt]
    exact VRs_setAt (off + 1) h2 (VRs_set h' off h1)

def fillA (place : Nat → Option (Nat × Nat)) (cells : List AVal) : List (Nat × AVal) → Option (List AVal)
  | [] => some cells
  | (i, v) :: rest =>
    match place i with
    | none => none
    | some (off, size) => if v.live = true ∧ v.cells.length = size ∧ off + size ≤ cells.length then fillA place (setAt cells off v.cells) rest else none

theorem foldl_setAt (off : Nat) : ∀ (us : List Value) (k : Nat) (cells : Array Value),
    ((us.zipIdx k).foldl (fun cs (x : Value × Nat) => cs.setIfInBounds (off + x.2) x.1) cells).toList = setAt cells.toList (off + k) us
  | [], _, _ => by simp [setAt]
  | u :: us, k, cells => by
    simp only [List.zipIdx_cons, List.foldl_cons, setAt]
    rw [foldl_setAt off us (k + 1)]
    simp [Nat.add_assoc]

inductive VParts (φ : PMap) : List (Nat × AVal) → List (Nat × Value) → Prop
  | nil : VParts φ [] []
  | cons {i : Nat} {x : AVal} {v : Value} {xs : List (Nat × AVal)} {vs : List (Nat × Value)} : VR φ x v → VParts φ xs vs → VParts φ ((i, x) :: xs) ((i, v) :: vs)

theorem fill_ok {φ : PMap} (place : Nat → Option (Nat × Nat)) : ∀ {xs : List (Nat × AVal)} {vs : List (Nat × Value)} {cells : List AVal} {us : Array Value} {r : List AVal}, VParts φ xs vs →
    VRs φ cells us.toList → fillA place cells xs = some r → ∃ r', Instr.fill place us vs = some r' ∧ VRs φ r r'.toList
  | [], vs, cells, us, r, h, hc, hf => by
    cases h
    simp only [fillA, Option.some.injEq] at hf
    subst hf
    exact ⟨us, by simp [Instr.fill], hc⟩
  | (i, x) :: xs, vs, cells, us, r, h, hc, hf => by
    cases h with
    | cons hv hs =>
      rename_i v vs
      simp only [fillA] at hf
      cases hp : place i with
      | none => simp [hp] at hf
      | some q =>
        obtain ⟨off, size⟩ := q
        simp only [hp] at hf
        split at hf
        · rename_i hcond
          obtain ⟨g1, g2, g3⟩ := hcond
          have hvc := VRs_cells hv g1
          have e1 := VRs_length hvc
          have e2 := VRs_length hc
          simp only [Array.length_toList] at e1 e2
          have step : VRs φ (setAt cells off x.cells) (v.cells.zipIdx.foldl (fun cs (c, j) => cs.setIfInBounds (off + j) c) us).toList := by
            have e3 : (v.cells.zipIdx.foldl (fun cs (c, j) => cs.setIfInBounds (off + j) c) us).toList = setAt us.toList off v.cells.toList := by
              rw [← Array.foldl_toList, Array.toList_zipIdx]
              exact foldl_setAt off v.cells.toList 0 us
            rw [e3]
            exact VRs_setAt off hvc hc
          obtain ⟨r', f1, f2⟩ := fill_ok place hs step hf
          refine ⟨r', ?_, f2⟩
          simp only [Instr.fill, hp]
          have c1 : ¬ (v.cells.size ≠ size ∨ off + v.cells.size > us.size) := by
            rintro (h1 | h1)
            · exact h1 (by omega)
            · omega
          have c2 : (decide (v.cells.size ≠ size) || decide (off + v.cells.size > us.size)) = false := by
            simp only [Bool.or_eq_false_iff, decide_eq_false_iff_not]
            exact ⟨fun h1 => c1 (.inl h1), fun h1 => c1 (.inr h1)⟩
          first
            | (rw [if_neg c1]; exact f1)
            | (simp only [c2]; exact f1)
        · cases hf

def placesOf (P : Program) (fs : List Field) : Option (List (Nat × Nat)) := fs.mapM fun f => (szOf P f.type).map fun n => (f.offset, n)

def buildA (P : Program) (t : TypeId) (parts : List (Nat × AVal)) : Option (List AVal) :=
  match zeOf P t, P.underlying t with
  | some z, some (.array _ e) => match szOf P e with
    | some es => fillA (fun i => some (i * es, es)) (z.cells.toList.map absS) parts
    | none => none
  | some z, some (.struct fs) => match placesOf P fs.toList with
    | some pl => fillA (fun i => pl[i]?) (z.cells.toList.map absS) parts
    | none => none
  | _, _ => none

theorem build_ok {P : Program} {φ : PMap} {t : TypeId} {xs : List (Nat × AVal)} {vs : Array (Nat × Value)} {r : List AVal} (hp : buildA P t xs = some r) (h : VParts φ xs vs.toList) :
    ∃ r', (∀ w, (Instr.build t vs).run P w = .ok (.agg r') w) ∧ VRs φ r r'.toList := by
  unfold buildA at hp
  have key : ∀ r', P.built t vs.toList = some r' → VRs φ r r'.toList → ∃ r', (∀ w, (Instr.build t vs).run P w = .ok (.agg r') w) ∧ VRs φ r r'.toList :=
    fun r' h1 h2 => ⟨r', fun w => run_build w t vs r' h1, h2⟩
  simp only [zeOf] at hp
  cases hi : P.info? t with
  | none => simp [hi] at hp
  | some it =>
    simp only [hi, Option.bind_some] at hp
    split at hp
    · rename_i z len e hz hu
      split at hp
      · rename_i es he
        obtain ⟨r', f1, f2⟩ := fill_ok _ h (VRs_absS φ _) hp
        refine key r' ?_ f2
        simp only [szOf, Option.map_eq_some_iff] at he
        obtain ⟨ie, hie, rfl⟩ := he
        simp only [Program.built, hi, hu, hz, hie]
        exact f1
      · cases hp
    · rename_i z fs hz hu
      split at hp
      · rename_i pl hpl
        obtain ⟨r', f1, f2⟩ := fill_ok _ h (VRs_absS φ _) hp
        refine key r' ?_ f2
        have e : fs.toList.mapM (fun f => (P.info? f.type).map fun i => (f.offset, i.size)) = some pl := by
          rw [← hpl]
          unfold placesOf
          congr 1
          funext f
          simp only [szOf]
          cases P.info? f.type <;> rfl
        simp only [Program.built, hi, hu, hz, e]
        simpa using f1
      · cases hp
    · cases hp

/-! ### Equality of structs -/
mutual
def eqA (P : Program) : Nat → TypeId → AVal → AVal → PR
  | 0, _, _, _ => .no
  | d + 1, t, x, y =>
    match x, y, P.underlying t with
    | .bool a, .bool b, some .bool => ⟨True, .bool (a == b)⟩
    | .int k a, .int k' b, some (.int _) => if k = k' then ⟨True, .bool (decide (a = b))⟩ else .no
    | .str a, .str b, some .string => ⟨True, .bool (decide (a = b))⟩
    | .agg xs, .agg ys, some (.struct fs) => if P.stoodInHeld t = false then eqFA P d xs ys fs.toList else .no
    | _, _, _ => .no
def eqFA (P : Program) : Nat → List AVal → List AVal → List Field → PR
  | 0, _, _, [] => ⟨True, .bool true⟩
  | 0, _, _, _ :: _ => .no
  | _ + 1, _, _, [] => ⟨True, .bool true⟩
  | d + 1, xs, ys, f :: fs =>
    if f.name = "_" then eqFA P d xs ys fs else
    match (eqA P d f.type (partA P f.type xs f.offset).val (partA P f.type ys f.offset).val).val, (eqFA P d xs ys fs).val with
    | .bool a, .bool b => ⟨(partA P f.type xs f.offset).pre ∧ (partA P f.type ys f.offset).pre ∧ (eqA P d f.type (partA P f.type xs f.offset).val (partA P f.type ys f.offset).val).pre ∧ (eqFA P d xs ys fs).pre, .bool (a && b)⟩
    | _, _ => .no
end

mutual
theorem eqA_ok {P : Program} {φ : PMap} : ∀ (d e : Nat) (t : TypeId) (x y : AVal) (u v : Value), d ≤ e → (eqA P d t x y).pre → VR φ x u → VR φ y v →
    ∃ b, (eqA P d t x y).val = .bool b ∧ ∀ w, (Op.equalIn e t u v).run P w = .ok b w
  | 0, _, _, _, _, _, _, _, hp, _, _ => by simp only [eqA] at hp; exact hp.elim
  | d + 1, 0, _, _, _, _, _, hde, _, _, _ => by omega
  | d + 1, e + 1, t, x, y, u, v, hde, hp, hx, hy => by
    simp only [eqA] at hp ⊢
    split at hp
    · rename_i a b ht
      simp only [VR] at hx hy; subst hx hy
      exact ⟨_, rfl, fun w => run_equalIn_bool' w e t a b ht⟩
    · rename_i k a k' b kk ht
      simp only [VR] at hx hy; subst hx hy
      split at hp
      · rename_i hk
        subst hk
        rw [if_pos rfl]
        refine ⟨_, rfl, fun w => ?_⟩
        rw [run_equalIn_int w e t k kk a b ht, beq_dec]
      · exact hp.elim
    · rename_i a b ht
      simp only [VR] at hx hy; subst hx hy
      refine ⟨_, rfl, fun w => ?_⟩
      rw [run_equalIn_string w e t _ _ ht, beq_dec, ByteArray.toList_eq, ByteArray.toList_eq]
    · rename_i xs ys fs ht
      split at hp
      · rename_i hh
        simp only [VR] at hx hy
        obtain ⟨us, rfl, hus⟩ := hx
        obtain ⟨vs, rfl, hvs⟩ := hy
        have hf : P.fieldsOf t = fs := by simp [Program.fieldsOf, ht]
        obtain ⟨b, e1, e2⟩ := eqFA_ok d e xs ys fs.toList us vs (by omega) hp hus hvs
        rw [if_pos hh]
        refine ⟨b, e1, fun w => ?_⟩
        rw [run_equalIn_struct w e t us.toArray vs.toArray (by rw [hf]; exact ht) hh, hf]
        exact e2 w
      · exact hp.elim
    · exact hp.elim
theorem eqFA_ok {P : Program} {φ : PMap} : ∀ (d e : Nat) (xs ys : List AVal) (fs : List Field) (us vs : List Value), d ≤ e → (eqFA P d xs ys fs).pre → VRs φ xs us → VRs φ ys vs →
    ∃ b, (eqFA P d xs ys fs).val = .bool b ∧ ∀ w, (Op.eqFields e us.toArray vs.toArray fs).run P w = .ok b w
  | 0, _, _, _, [], _, _, _, _, _, _ => ⟨true, by simp [eqFA], fun w => by simp [Op.eqFields]⟩
  | 0, _, _, _, _ :: _, _, _, _, hp, _, _ => by simp only [eqFA] at hp; exact hp.elim
  | _ + 1, _, _, _, [], _, _, _, _, _, _ => ⟨true, by simp [eqFA], fun w => by simp [Op.eqFields]⟩
  | d + 1, e, xs, ys, f :: fs, us, vs, hde, hp, hx, hy => by
    simp only [eqFA] at hp ⊢
    by_cases hn : f.name = "_"
    · simp only [hn, if_true] at hp ⊢
      obtain ⟨b, e1, e2⟩ := eqFA_ok d e xs ys fs us vs (by omega) hp hx hy
      exact ⟨b, e1, fun w => by simpa [Op.eqFields, hn] using e2 w⟩
    · simp only [hn, if_false] at hp ⊢
      split at hp
      · rename_i a b ha hb
        obtain ⟨p1, p2, p3, p4⟩ := hp
        obtain ⟨u, q1, q2⟩ := partA_ok p1 hx
        obtain ⟨v, q3, q4⟩ := partA_ok p2 hy
        obtain ⟨b1, q5, q6⟩ := eqA_ok d e f.type _ _ u v (by omega) p3 q2 q4
        obtain ⟨b2, q7, q8⟩ := eqFA_ok d e xs ys fs us vs (by omega) p4 hx hy
        rw [ha] at q5
        rw [hb] at q7
        cases q5
        cases q7
        refine ⟨a && b, rfl, fun w => ?_⟩
        simp only [Op.eqFields, ne_eq, hn, not_false_eq_true, if_true, Sem.run_bind, q1, Result.andThen_ok, q3, q6]
        cases a
        · simp
        · simpa using q8 w
      · exact hp.elim
end

def pAggEq (P : Program) (op : BinOp) (t : TypeId) (x y : AVal) : PR :=
  match (eqA P 40 t x y).val with
  | .bool b => match op with
    | .eql => ⟨(eqA P 40 t x y).pre ∧ P.eqGuardType P.depth t = false, .bool b⟩
    | .neq => ⟨(eqA P 40 t x y).pre ∧ P.eqGuardType P.depth t = false, .bool (!b)⟩
    | _ => .no
  | _ => .no

theorem pAggEq_ok {P : Program} {φ : PMap} {op : BinOp} {t : TypeId} {xs ys : List AVal} {u v : Value} (hp : (pAggEq P op t (.agg xs) (.agg ys)).pre) (hx : VR φ (.agg xs) u) (hy : VR φ (.agg ys) v) (X Y : Operand) :
    ∃ r, (∀ w, (do eqGuard op t X Y u v; binOp op t u v : Sem Value).run P w = .ok r w) ∧ VR φ (pAggEq P op t (.agg xs) (.agg ys)).val r := by
  unfold pAggEq at hp ⊢
  split at hp
  · rename_i b hb
    have go : (eqA P 40 t (.agg xs) (.agg ys)).pre → P.eqGuardType P.depth t = false → (∀ w, (eqGuard op t X Y u v).run P w = .ok () w) ∧ ∀ w, (Op.equalIn 10000 t u v).run P w = .ok b w := fun h1 h2 => by
      obtain ⟨b', e1, e2⟩ := eqA_ok 40 10000 t _ _ u v (by omega) h1 hx hy
      rw [hb] at e1
      cases e1
      simp only [VR] at hx hy
      obtain ⟨us, rfl, _⟩ := hx
      obtain ⟨vs, rfl, _⟩ := hy
      exact ⟨fun w => run_eqGuard_agg w op t X Y _ _ h2, e2⟩
    cases op <;> simp only [] at hp ⊢ <;> first
      | exact hp.elim
      | skip
    all_goals
      obtain ⟨g1, g2⟩ := go hp.1 hp.2
      simp only [VR] at hx hy
      obtain ⟨us, rfl, _⟩ := hx
      obtain ⟨vs, rfl, _⟩ := hy
      refine ⟨_, fun w => ?_, rfl⟩
      simp only [Sem.run_bind, g1, Result.andThen_ok, run_eql_struct, run_neq_struct, g2]
  · exact hp.elim

/-! ### len, cap, max, min -/
theorem bsize (s : List UInt8) : (⟨⟨s⟩⟩ : ByteArray).size = s.length := rfl
theorem map_toArray {α β : Type} (f : α → β) (xs : Array α) : xs.map f = (xs.toList.map f).toArray := by
  apply Array.ext'; simp

def pLen (P : Program) (t : TypeId) (x : AVal) : PR :=
  match x, P.underlying t with
  | .str s, some .string => ⟨True, .int .i64 s.length⟩
  | .slice _ _ n _, some (.slice _) => ⟨True, .int .i64 n⟩
  | .nilSlice, some (.slice _) => ⟨True, .int .i64 0⟩
  | _, some (.array n _) => ⟨True, .int .i64 n⟩
  | _, _ => .no

theorem pLen_ok {P : Program} {φ : PMap} {t ty : TypeId} {ts : Array TypeId} {x : AVal} {v : Value} (ht : ts[0]? = some t) (hp : (pLen P t x).pre) (hx : VR φ x v) :
    ∃ r, (∀ w, (Builtin.len_ ts ty #[v]).run P w = .ok r w) ∧ VR φ (pLen P t x).val r := by
  unfold pLen at hp ⊢
  split at hp
  · rename_i s h1
    simp only [VR] at hx; subst hx
    exact ⟨.int .i64 s.length, fun w => by simp [Builtin.len_, ht, run_underlying' h1, goInt, bsize], rfl⟩
  · rename_i l o n c e h1
    obtain ⟨a, cap, rfl, _⟩ := VR_slice_addr hx
    exact ⟨.int .i64 n, fun w => by simp [Builtin.len_, ht, run_underlying' h1, goInt], rfl⟩
  · rename_i e h1
    simp only [VR] at hx; subst hx
    exact ⟨.int .i64 0, fun w => by simp [Builtin.len_, ht, run_underlying' h1, goInt], rfl⟩
  · rename_i _ _ _ n e h1
    exact ⟨.int .i64 n, fun w => by simp [Builtin.len_, ht, run_underlying' h1, goInt], rfl⟩
  · exact hp.elim

def pCap (P : Program) (t : TypeId) (x : AVal) : PR :=
  match x, P.underlying t with
  | .slice _ _ _ (.exact c), some (.slice _) => ⟨True, .int .i64 c⟩
  | .nilSlice, some (.slice _) => ⟨True, .int .i64 0⟩
  | _, _ => .no

theorem pCap_ok {P : Program} {φ : PMap} {t ty : TypeId} {ts : Array TypeId} {x : AVal} {v : Value} (ht : ts[0]? = some t) (hp : (pCap P t x).pre) (hx : VR φ x v) :
    ∃ r, (∀ w, (Builtin.cap_ ts ty #[v]).run P w = .ok r w) ∧ VR φ (pCap P t x).val r := by
  unfold pCap at hp ⊢
  split at hp
  · rename_i l o n c e h1
    simp only [VR] at hx
    obtain ⟨a, rfl, _⟩ := hx
    exact ⟨.int .i64 c, fun w => by simp [Builtin.cap_, ht, run_underlying' h1, goInt], rfl⟩
  · rename_i e h1
    simp only [VR] at hx; subst hx
    exact ⟨.int .i64 0, fun w => by simp [Builtin.cap_, ht, run_underlying' h1, goInt], rfl⟩
  · exact hp.elim

def pMax : List AVal → PR
  | [.int k a, .int _ b] => ⟨True, .int k (max a b)⟩
  | _ => .no
def pMin : List AVal → PR
  | [.int k a, .int _ b] => ⟨True, .int k (min a b)⟩
  | _ => .no

theorem pMax_ok {P : Program} {φ : PMap} {ty : TypeId} {ts : Array TypeId} {xs : List AVal} {vs : List Value} (hp : (pMax xs).pre) (hx : VRs φ xs vs) :
    ∃ r, (∀ w, (Builtin.max_ ts ty vs.toArray).run P w = .ok r w) ∧ VR φ (pMax xs).val r := by
  unfold pMax at hp ⊢
  split at hp
  · rename_i k a k' b
    simp only [VRs, VR] at hx
    obtain ⟨_, _, rfl, rfl, _, _, rfl, rfl, rfl⟩ := hx
    refine ⟨_, fun w => run_max_int2 w ts ty k k' a b, ?_⟩
    simp only [VR]
    congr 1
    split <;> omega
  · exact hp.elim

theorem pMin_ok {P : Program} {φ : PMap} {ty : TypeId} {ts : Array TypeId} {xs : List AVal} {vs : List Value} (hp : (pMin xs).pre) (hx : VRs φ xs vs) :
    ∃ r, (∀ w, (Builtin.min_ ts ty vs.toArray).run P w = .ok r w) ∧ VR φ (pMin xs).val r := by
  unfold pMin at hp ⊢
  split at hp
  · rename_i k a k' b
    simp only [VRs, VR] at hx
    obtain ⟨_, _, rfl, rfl, _, _, rfl, rfl, rfl⟩ := hx
    refine ⟨_, fun w => run_min_int2 w ts ty k k' a b, ?_⟩
    simp only [VR]
    congr 1
    split <;> omega
  · exact hp.elim

/-! ### All reading operations -/
def evs (s : Slots) (xs : List Operand) : List AVal := xs.map (ev s)
def evO (s : Slots) : Option Operand → Option AVal
  | none => none
  | some x => some (ev s x)
def evP (s : Slots) (xs : List (Nat × Operand)) : List (Nat × AVal) := xs.map fun p => (p.1, ev s p.2)

def pBuiltin (P : Program) (b : Builtin) (ts : Array TypeId) (xs : List AVal) : PR :=
  match b, xs, ts[0]? with
  | .len, [x], some t => pLen P t x
  | .cap, [x], some t => pCap P t x
  | .max, xs, _ => pMax xs
  | .min, xs, _ => pMin xs
  | _, _, _ => .no

/-- The literal nil of an interface type. -/
def isNilC : Operand → Bool
  | .const .nilIface => true
  | _ => false
/-- An interface value held against the literal nil. -/
def pIfNil (P : Program) (op : BinOp) (t : TypeId) (x : AVal) : PR :=
  match P.underlying t, x, op with
  | some (.interface _), .nilIface, .eql => ⟨True, .bool true⟩
  | some (.interface _), .nilIface, .neq => ⟨True, .bool false⟩
  | some (.interface _), .iface _ _, .eql => ⟨True, .bool false⟩
  | some (.interface _), .iface _ _, .neq => ⟨True, .bool true⟩
  | _, _, _ => .no
theorem pIfNil_ok {P : Program} {φ : PMap} {op : BinOp} {t : TypeId} {x : AVal} {u : Value} (hp : (pIfNil P op t x).pre) (hx : VR φ x u) (X : Operand) :
    ∃ r, (∀ w, (do eqGuard op t X (.const .nilIface) u .nilIface; binOp op t u .nilIface : Sem Value).run P w = .ok r w) ∧ VR φ (pIfNil P op t x).val r := by
  obtain ⟨d, hdep⟩ : ∃ d, Op.maxDepth = d + 1 := ⟨Op.maxDepth - 1, by decide +kernel⟩
  unfold pIfNil at hp ⊢
  split at hp <;> first | exact hp.elim | skip
  · rename_i m ht
    simp only [VR] at hx
    subst hx
    exact ⟨.bool true, fun w => by simp [eqGuard, binOp, Op.equal, hdep, Op.equalIn, run_underlying' ht], by simp [VR]⟩
  · rename_i m ht
    simp only [VR] at hx
    subst hx
    exact ⟨.bool false, fun w => by simp [eqGuard, binOp, Op.equal, hdep, Op.equalIn, run_underlying' ht], by simp [VR]⟩
  · rename_i m te y ht
    simp only [VR] at hx
    obtain ⟨y', rfl, _⟩ := hx
    exact ⟨.bool false, fun w => by simp [eqGuard, binOp, Op.equal, hdep, Op.equalIn, run_underlying' ht], by simp [VR]⟩
  · rename_i m te y ht
    simp only [VR] at hx
    obtain ⟨y', rfl, _⟩ := hx
    exact ⟨.bool true, fun w => by simp [eqGuard, binOp, Op.equal, hdep, Op.equalIn, run_underlying' ht], by simp [VR]⟩

def pop (P : Program) (w₀ : World) (h : AHeap) (s : Slots) : Op → PR
  | .move x => ⟨True, ev s x⟩
  | .assign x => ⟨True, ev s x⟩
  | .pick c a b => match ev s c with
    | .bool c => ⟨True, pickV c (ev s a) (ev s b)⟩
    | _ => .no
  | .binOp op t x y _ => bif isNilC y then pIfNil P op t (ev s x) else match ev s x, ev s y with
    | .agg xs, .agg ys => pAggEq P op t (.agg xs) (.agg ys)
    | a, b => pBin P op t a b
  | .unOp op _ x => pUn op (ev s x)
  | .convert src dst x => pConv P w₀ h src dst (ev s x)
  | .load t x => pLoad P w₀ h t (ev s x)
  | .field t x f => pField P t (ev s x) f
  | .fieldAddr t x f => pFieldAddr P t (ev s x) f
  | .index t x i => pIndex P t (ev s x) (ev s i)
  | .indexAddr t x i => pIndexAddr P t (ev s x) (ev s i)
  | .slice t x lo hi mx => pSlice P t (ev s x) (evO s lo) (evO s hi) (evO s mx)
  | .extract x i => match ev s x with
    | .tuple vs => ⟨i < vs.length, vs.getD i .dead⟩
    | _ => .no
  | .nilCheck x => match ev s x with
    | .ptr l o => ⟨True, .ptr l o⟩
    | .func f c => ⟨True, .func f c⟩
    | _ => .no
  | .build t parts => match buildA P t (evP s parts.toList) with
    | some cs => ⟨True, .agg cs⟩
    | none => .no
  | .makeFunc fn first cap => match fn with
    | .func f => ⟨first.toList = [], .func f (evs s cap.toList)⟩
    | _ => .no
  | .makeInterface t x => ⟨P.concrete t = true, .iface t (ev s x)⟩
  | .call c => match c.callee with
    | .builtin b => pBuiltin P b c.argTypes (evs s c.args.toList)
    | _ => .no
  | _ => .no

theorem SRel.evs {φ : PMap} {n : Nat} {s : Slots} {a : Act} (h : SRel φ n s a) : ∀ xs : List Operand, VRs φ (evs s xs) (xs.map a.eval)
  | [] => by simp [AM.evs, VRs]
  | x :: xs => by
    simp only [AM.evs, List.map_cons, VRs]
    exact ⟨_, _, rfl, h.ev x, h.evs xs⟩

theorem SRel.evO {φ : PMap} {n : Nat} {s : Slots} {a : Act} (h : SRel φ n s a) (x : Option Operand) : OVR φ (evO s x) (x.map a.eval) := by
  cases x with
  | none => simp [AM.evO, OVR]
  | some x => simp only [AM.evO, OVR, Option.map_some]; exact ⟨_, rfl, h.ev x⟩

theorem SRel.evP {φ : PMap} {n : Nat} {s : Slots} {a : Act} (h : SRel φ n s a) : ∀ xs : List (Nat × Operand), VParts φ (evP s xs) (xs.map fun p => (p.1, a.eval p.2))
  | [] => .nil
  | x :: xs => .cons (h.ev x.2) (h.evP xs)

theorem run_value {P : Program} {w w' : World} {s : Sem Value} {r : Value} (h : s.run P w = .ok r w') : (do pure (Next.value (← s)) : Sem Next).run P w = .ok (.value r) w' := by
  simp [h]

theorem run_values {P : Program} {s : Sem Value} {r : Value} {p : World → Prop} (h : ∀ w, s.run P w = .ok r w) : ∀ w, p w → (do pure (Next.value (← s)) : Sem Next).run P w = .ok (.value r) w :=
  fun w _ => run_value (h w)

theorem pop_ok {P : Program} {w₀ w : World} {φ : PMap} {h : AHeap} {n : Nat} {s : Slots} {a : Act} (o : Oper) (hp : (pop P w₀ h s o.op).pre) (hr : HRel w₀ φ h w) (hs : SRel φ n s a) :
    ∃ r, (∀ w', Same w w' → (execOp a.eval o).run P w' = .ok (.value r) w') ∧ VR φ (pop P w₀ h s o.op).val r := by
  obtain ⟨dst, op, type, pos, after, guard⟩ := o
  cases op <;> simp only [pop] at hp ⊢ <;> first
    | exact hp.elim
    | skip
  case move x => exact ⟨_, fun _ _ => rfl, hs.ev x⟩
  case assign x => exact ⟨_, fun _ _ => rfl, hs.ev x⟩
  case pick c x y =>
    split at hp
    · rename_i b hb
      have hc := hs.ev c
      rw [hb] at hc
      simp only [VR] at hc
      refine ⟨if b then a.eval x else a.eval y, fun w' _ => ?_, VR_pickV (hs.ev x) (hs.ev y)⟩
      simp [execOp, hc, asBool]
    · exact hp.elim
  case binOp op t x y yt =>
    have hx := hs.ev x
    have hy := hs.ev y
    cases hn : isNilC y with
    | true =>
      have e : y = .const .nilIface := by
        unfold isNilC at hn
        split at hn
        · rfl
        · cases hn
      subst e
      rw [hn, cond_true] at hp
      obtain ⟨r, h1, h2⟩ := pIfNil_ok hp hx x
      exact ⟨r, run_values h1, h2⟩
    | false =>
    rw [hn, cond_false] at hp
    simp only [cond_false]
    split at hp
    · rename_i xs ys e1 e2
      rw [e1] at hx
      rw [e2] at hy
      obtain ⟨r, h1, h2⟩ := pAggEq_ok hp hx hy x y
      exact ⟨r, run_values h1, h2⟩
    · obtain ⟨r, h1, h2⟩ := pBin_ok hp hx hy x y
      exact ⟨r, run_values h1, h2⟩
  case unOp op t x =>
    obtain ⟨r, h1, h2⟩ := pUn_ok (P := P) hp (hs.ev x)
    exact ⟨r, run_values h1, h2⟩
  case convert src dst x =>
    obtain ⟨r, h1, h2⟩ := pConv_ok hp hr (hs.ev x)
    exact ⟨r, fun w' hw => run_value (h1 w' hw), h2⟩
  case load t x =>
    obtain ⟨r, h1, h2⟩ := pLoad_ok hp hr (hs.ev x)
    exact ⟨r, fun w' hw => run_value (h1 w' hw), h2⟩
  case field t x f =>
    obtain ⟨r, h1, h2⟩ := pField_ok hp (hs.ev x)
    exact ⟨r, run_values h1, h2⟩
  case fieldAddr t x f =>
    obtain ⟨r, h1, h2⟩ := pFieldAddr_ok hp (hs.ev x)
    exact ⟨r, run_values h1, h2⟩
  case index t x i =>
    obtain ⟨r, h1, h2⟩ := pIndex_ok hp (hs.ev x) (hs.ev i)
    exact ⟨r, run_values h1, h2⟩
  case indexAddr t x i =>
    obtain ⟨r, h1, h2⟩ := pIndexAddr_ok hp (hs.ev x) (hs.ev i)
    exact ⟨r, run_values h1, h2⟩
  case slice t x lo hi mx =>
    obtain ⟨r, h1, h2⟩ := pSlice_ok hp (hs.ev x) (hs.evO lo) (hs.evO hi) (hs.evO mx)
    exact ⟨r, run_values h1, h2⟩
  case extract x i =>
    have hx := hs.ev x
    split at hp
    · rename_i vs e
      rw [e] at hx
      simp only [VR] at hx
      obtain ⟨us, e2, hus⟩ := hx
      simp only at hp ⊢
      have hl := VRs_length hus
      have hlt : i < us.length := by omega
      refine ⟨us.getD i default, fun w' _ => ?_, VRs_get hus i default hp⟩
      simp [execOp, e2, Instr.extract, hlt]
    · exact hp.elim
  case nilCheck x =>
    have hx := hs.ev x
    split at hp
    · rename_i l o e
      rw [e] at hx
      refine ⟨a.eval x, fun w' _ => ?_, hx⟩
      simp only [VR] at hx
      obtain ⟨ad, _, e2⟩ := hx
      simp [execOp, e2]
    · rename_i f c e
      rw [e] at hx
      refine ⟨a.eval x, fun w' _ => ?_, hx⟩
      simp only [VR] at hx
      obtain ⟨vs, e2, _⟩ := hx
      simp [execOp, e2]
    · exact hp.elim
  case build t parts =>
    split at hp
    · rename_i cs e
      obtain ⟨r, h1, h2⟩ := build_ok (vs := parts.map fun (i, x) => (i, a.eval x)) e (by simpa using hs.evP parts.toList)
      refine ⟨.agg r, run_values h1, ?_⟩
      simp only [VR]
      exact ⟨r.toList, by simp, h2⟩
    · exact hp.elim
  case makeFunc fn first cap =>
    split at hp
    · rename_i f
      simp only at hp ⊢
      have e : first = #[] := by simpa using hp
      subst e
      refine ⟨.func (.func f) #[] (cap.map a.eval), fun w' _ => by simp [execOp, Instr.makeFunc], ?_⟩
      simp only [VR]
      exact ⟨cap.toList.map a.eval, by rw [map_toArray], hs.evs _⟩
    · exact hp.elim
  case makeInterface t x =>
    refine ⟨.iface t (a.eval x), fun w' _ => run_value (run_makeInterface w' t _ hp), ?_⟩
    simp only [VR]
    exact ⟨_, rfl, hs.ev x⟩
  case call c =>
    obtain ⟨callee, args, ats⟩ := c
    split at hp
    · rename_i b hb
      subst hb
      simp only at hp ⊢
      have hv := hs.evs args.toList
      have run : ∀ r w, (builtin b ats type (args.map fun | .const _ => true | _ => false) (args.map a.eval)).run P w = .ok (.value r) w → (execOp a.eval ⟨dst, .call ⟨.builtin b, args, ats⟩, type, pos, after, guard⟩).run P w = .ok (.value r) w := by
        intro r w hr
        simp only [execOp, resolve, Sem.run_bind, Sem.run_pure, Result.andThen_ok, invoke]
        exact hr
      have ea : args.map a.eval = (args.toList.map a.eval).toArray := map_toArray _ _
      unfold pBuiltin at hp ⊢
      split at hp
      · rename_i x t e1 e2
        rw [e1] at hv
        simp only [VRs] at hv
        obtain ⟨v, _, e3, hx, rfl⟩ := hv
        obtain ⟨r, h1, h2⟩ := pLen_ok (P := P) (ty := type) e2 hp hx
        refine ⟨r, fun w' _ => run r w' ?_, h2⟩
        rw [ea, e3]
        exact run_value (h1 w')
      · rename_i x t e1 e2
        rw [e1] at hv
        simp only [VRs] at hv
        obtain ⟨v, _, e3, hx, rfl⟩ := hv
        obtain ⟨r, h1, h2⟩ := pCap_ok (P := P) (ty := type) e2 hp hx
        refine ⟨r, fun w' _ => run r w' ?_, h2⟩
        rw [ea, e3]
        exact run_value (h1 w')
      · obtain ⟨r, h1, h2⟩ := pMax_ok (P := P) (ty := type) (ts := ats) hp hv
        refine ⟨r, fun w' _ => run r w' ?_, h2⟩
        rw [ea]
        exact run_value (h1 w')
      · obtain ⟨r, h1, h2⟩ := pMin_ok (P := P) (ty := type) (ts := ats) hp hv
        refine ⟨r, fun w' _ => run r w' ?_, h2⟩
        rw [ea]
        exact run_value (h1 w')
      · exact hp.elim
    · exact hp.elim

end Go.AM

/-
  An assertion layer over the model's wp, part E: the operations that make or write memory.
  Conditions: none. Nothing here is about a particular program.
-/
namespace Go.AM
open Go.RowKit (Below)

/-! ### New blocks -/
def PMap.upd (φ : PMap) (k : Nat) (p : Place) : PMap := fun j => if j = k then some p else φ j

theorem PMap.upd_same (φ : PMap) (k : Nat) (p : Place) : φ.upd k p k = some p := by simp [PMap.upd]

theorem PMap.le_upd {φ : PMap} {k : Nat} (hφ : φ k = none) (p : Place) : φ.le (φ.upd k p) := fun j q hj => by
  by_cases e : j = k
  · subst e; rw [hφ] at hj; cases hj
  · simp [PMap.upd, e, hj]

theorem HRel.drew {w₀ w : World} {φ : PMap} {h : AHeap} (hr : HRel w₀ φ h w) : HRel w₀ φ h w.drew :=
  hr.later ⟨rfl, rfl, rfl, Nat.le_refl _, fun _ _ => rfl⟩

theorem Below.allocd (w : World) (o : Obj) : Below w.heap.size w (w.alloc o) := (Below.refl _ w).alloc (Nat.le_refl _) o

/-- A new row, of which the first cells are told. -/
theorem HRel.alloc {w₀ w : World} {φ : PMap} {h : AHeap} (hr : HRel w₀ φ h w) (k : Nat) (hk : h k = none) (hφ : φ k = none) (xs : List AVal) (cs : Array Value) (e : TypeId) (lo hi : Nat)
    (hx : VRs φ xs (cs.toList.take xs.length)) (hfr : ∀ i, lo ≤ i → i < hi → cs.size ≤ i) (ht : ∀ t, tyOf k = some t → t = e) (hlh : lo ≤ hi := by omega) :
    φ.le (φ.upd k ⟨w.heap.size, 0, cs.size⟩) ∧ HRel w₀ (φ.upd k ⟨w.heap.size, 0, cs.size⟩) (h.set k ⟨xs, 0⟩) (w.alloc (.cells cs e (lo, hi))) := by
  have hl : xs.length ≤ cs.size := by
    have := VRs_length hx
    simp at this
    omega
  have hsz : w.heap.size < (w.alloc (.cells cs e (lo, hi))).heap.size := by show _ < (w.heap.push _).size; simp
  have hget : (w.alloc (.cells cs e (lo, hi))).heap[w.heap.size]? = some (.cells cs e (lo, hi)) := by show (w.heap.push _)[w.heap.size]? = _; simp
  refine hr.push k hk hφ ⟨xs, 0⟩ ⟨w.heap.size, 0, cs.size⟩ (Below.allocd w _) (Nat.le_refl _) hsz ?_ (fun t h1 => ⟨rfl, cs, (lo, hi), by rw [ht t h1]; exact hget⟩)
  exact ⟨cs, e, lo, hi, hget, by simp, hl, by simp, by simp only [List.drop_zero]; exact VRs_mono (PMap.le_upd hφ _) _ _ hx, hlh, fun i h1 h2 => .inr (hfr i h1 h2)⟩

/-- Nothing is asked of a row's frozen range beyond its end. -/
theorem no_frz {n : Nat} : ∀ i : Nat, 0 ≤ i → i < 0 → n ≤ i := by omega

/-! ### Writing cells -/
def World.putRow (w : World) (g : Nat) (cs : Array Value) (e : TypeId) (fr : Nat × Nat) : World := { w with heap := w.heap.setIfInBounds g (.cells cs e fr) }

theorem setCell_putRow (w : World) (g o : Nat) (cs : Array Value) (e : TypeId) (fr : Nat × Nat) (hg : w.heap[g]? = some (.cells cs e fr)) (v : Value) :
    w.setCell ⟨g, o, none⟩ v = AM.World.putRow w g (cs.setIfInBounds o v) e fr := by
  unfold World.setCell AM.World.putRow
  congr 1
  apply Array.ext_getElem?
  intro i
  rw [Array.getElem?_modify, Array.getElem?_setIfInBounds]
  by_cases hi : g = i
  · subst hi
    have hlt : g < w.heap.size := by
      rcases Nat.lt_or_ge g w.heap.size with h | h
      · exact h
      · rw [Array.getElem?_eq_none h] at hg; cases hg
    rw [hg]
    simp [hlt]
  · simp [hi]

theorem putRow_get (w : World) (g : Nat) (cs : Array Value) (e : TypeId) (fr : Nat × Nat) (hg : g < w.heap.size) : (AM.World.putRow w g cs e fr).heap[g]? = some (.cells cs e fr) := by
  simp [AM.World.putRow, hg]

theorem putRow_other (w : World) (g : Nat) (cs : Array Value) (e : TypeId) (fr : Nat × Nat) (i : Nat) (hi : i ≠ g) : (AM.World.putRow w g cs e fr).heap[i]? = w.heap[i]? := by
  simp only [AM.World.putRow]
  rw [Array.getElem?_setIfInBounds_ne (Ne.symm hi)]

theorem putRow_putRow (w : World) (g : Nat) (cs cs' : Array Value) (e : TypeId) (fr : Nat × Nat) : AM.World.putRow (AM.World.putRow w g cs e fr) g cs' e fr = AM.World.putRow w g cs' e fr := by
  simp [AM.World.putRow]

theorem putRow_self (w : World) (g : Nat) (cs : Array Value) (e : TypeId) (fr : Nat × Nat) (hg : w.heap[g]? = some (.cells cs e fr)) : AM.World.putRow w g cs e fr = w := by
  unfold AM.World.putRow
  have : w.heap.setIfInBounds g (.cells cs e fr) = w.heap := by
    apply Array.ext_getElem?
    intro i
    rw [Array.getElem?_setIfInBounds]
    by_cases hi : g = i
    · subst hi
      have hlt : g < w.heap.size := by
        rcases Nat.lt_or_ge g w.heap.size with h | h
        · exact h
        · rw [Array.getElem?_eq_none h] at hg; cases hg
      simp [hlt, ← hg]
    · simp [hi]
  rw [this]

theorem run_storeCells' {P : Program} (g o : Nat) (e : TypeId) (lo hi : Nat) : ∀ (vs : List Value) (i : Nat) (cs : Array Value) (w : World), w.heap[g]? = some (.cells cs e (lo, hi)) →
    o + i + vs.length ≤ cs.size → (∀ v ∈ vs, v.oneCell' = true) → (∀ j, o + i ≤ j → j < o + i + vs.length → ¬ (lo ≤ j ∧ j < hi)) →
    (storeCells ⟨g, o, none⟩ vs i).run P w = .ok () (AM.World.putRow w g (setAt cs.toList (o + i) vs).toArray e (lo, hi))
  | [], i, cs, w, hg, _, _, _ => by
    simp only [storeCells, setAt, Sem.run_pure]
    rw [putRow_self]
    simpa using hg
  | v :: vs, i, cs, w, hg, hfit, h1, hfr => by
    have hlt : o + i < cs.size := by simp at hfit; omega
    have hadd : (⟨g, o, none⟩ : Addr).add i = ⟨g, o + i, none⟩ := by
      unfold Addr.add
      by_cases hi : i = 0 <;> simp [hi]
    have hc : w.cell? ⟨g, o + i, none⟩ = some cs[o + i] := by simp [World.cell?, hg, hlt]
    have hz : w.frozen? ⟨g, o + i, none⟩ = false := by
      have := hfr (o + i) (by omega) (by simp)
      simp only [World.frozen?, hg]
      simp only [Bool.and_eq_false_iff, decide_eq_false_iff_not]
      omega
    have hgl : g < w.heap.size := by
      rcases Nat.lt_or_ge g w.heap.size with h | h
      · exact h
      · rw [Array.getElem?_eq_none h] at hg; cases hg
    simp only [storeCells, Sem.run_bind, hadd, run_store P w ⟨g, o + i, none⟩ v .plain (h1 v (by simp)), hc, hz, Bool.false_eq_true, if_false, Result.andThen_ok]
    rw [setCell_putRow w g (o + i) cs e (lo, hi) hg v]
    rw [run_storeCells' g o e lo hi vs (i + 1) (cs.setIfInBounds (o + i) v) _ (putRow_get w g _ e _ hgl) (by simp at hfit ⊢; omega) (fun u hu => h1 u (by simp [hu])) (fun j hj hj' => hfr j (by omega) (by simp; omega))]
    rw [putRow_putRow]
    simp [setAt, Nat.add_assoc]

/-- A value that takes one cell. -/
def AVal.scal : AVal → Bool
  | .dead => false
  | .agg _ => false
  | .tuple _ => false
  | _ => true

theorem VR_oneCell {φ : PMap} {x : AVal} {v : Value} (h : VR φ x v) (hs : x.scal = true) : v.oneCell' = true := by
  cases x <;> simp only [VR] at h <;> first
    | (simp [AVal.scal] at hs; done)
    | (subst h; rfl)
    | (obtain ⟨_, _, rfl⟩ := h; rfl)
    | (obtain ⟨_, rfl, _⟩ := h; rfl)
    | skip
  rename_i l o len c
  cases c <;> simp only [] at h
  · obtain ⟨_, rfl, _⟩ := h; rfl
  · obtain ⟨_, _, _, _, _, _, rfl, _⟩ := h; rfl

def allScal : List AVal → Bool
  | [] => true
  | x :: xs => x.scal && allScal xs

theorem VRs_oneCell {φ : PMap} : ∀ {xs : List AVal} {vs : List Value}, VRs φ xs vs → allScal xs = true → ∀ v ∈ vs, v.oneCell' = true
  | [], vs, h, _, v, hv => by simp only [VRs] at h; subst h; cases hv
  | x :: xs, vs, h, hs, v, hv => by
    simp only [VRs] at h
    obtain ⟨u, vs', rfl, h1, h2⟩ := h
    simp only [allScal, Bool.and_eq_true] at hs
    rcases List.mem_cons.1 hv with e | e
    · subst e; exact VR_oneCell h1 hs.1
    · exact VRs_oneCell h2 hs.2 v e

theorem take_drop_setAt (cs : List Value) (po n o : Nat) (us : List Value) (h : o + us.length ≤ n) : ((setAt cs (po + o) us).drop po).take n = setAt ((cs.drop po).take n) o us := by
  induction us generalizing cs o with
  | nil => rfl
  | cons u us ih =>
    simp only [setAt]
    simp only [List.length_cons] at h
    rw [show po + o + 1 = po + (o + 1) by omega, ih _ (o + 1) (by omega)]
    congr 1
    apply List.ext_getElem?
    intro i
    simp only [List.getElem?_take, List.getElem?_drop, List.getElem?_set]
    by_cases h1 : i < n
    · simp only [h1, if_true]
      by_cases h2 : o = i
      · subst h2
        simp only [if_true, List.length_take, List.length_drop]
        by_cases h3 : po + o < cs.length
        · rw [if_pos h3, if_pos (by omega)]
        · rw [if_neg h3, if_neg (by omega)]
      · rw [if_neg (by omega), if_neg h2]
    · simp only [h1, if_false]
      by_cases h2 : o = i
      · omega
      · rw [if_neg h2]

/-- Cells of a block of the call's own are written. -/
theorem own_write {P : Program} {w₀ w : World} {φ : PMap} {h : AHeap} (hr : HRel w₀ φ h w) {k : Nat} {b : Blk} {p : Place} (hk : h k = some b) (hp : φ k = some p) {o : Nat} {xs : List AVal} {vs : List Value}
    (hx : VRs φ xs vs) (hs : allScal xs = true) (hfit : o + xs.length ≤ b.cells.length) (hfrz : b.frz ≤ o) :
    ∃ w', (storeCells ⟨p.blk, p.off + o, none⟩ vs).run P w = .ok () w' ∧ HRel w₀ φ (h.set k ⟨setAt b.cells o xs, b.frz⟩) w' := by
  obtain ⟨q, hq, hq1, ok⟩ := hr.own k b hk
  have hpq : q = p := by rw [hp] at hq; exact (Option.some.inj hq).symm
  subst hpq
  obtain ⟨cs, e, lo, hi, h1, h2, h3, h4, h5, h6⟩ := ok.row
  have hl := VRs_length hx
  have hgl : q.blk < w.heap.size := hr.lt k q hp
  refine ⟨_, run_storeCells' q.blk (q.off + o) e lo hi vs 0 cs w h1 (by omega) (VRs_oneCell hx hs) (fun j hj hj' hc => ?_), ?_⟩
  · have := h6.2 j hc.1 hc.2
    omega
  · refine hr.write k b _ q hk hp (by simp [AM.World.putRow]) rfl rfl rfl (fun i hi => putRow_other w _ _ _ _ i hi) (fun cs' e' fr' h' => by rw [h1] at h'; cases h'; exact ⟨_, _, putRow_get w _ _ _ _ hgl⟩) ?_
    refine ⟨(setAt cs.toList (q.off + o + 0) vs).toArray, e, lo, hi, putRow_get w _ _ _ _ hgl, ?_, ?_, ?_, ?_, ?_⟩
    · simp [setAt_length, h2]
    · simp [setAt_length, h3]
    · simp [setAt_length, h4]
    · simp only [setAt_length, Nat.add_zero]
      rw [take_drop_setAt _ _ _ _ _ (by omega)]
      exact VRs_setAt o hx h5
    · refine ⟨h6.1, fun i hi1 hi2 => ?_⟩
      have := h6.2 i hi1 hi2
      simpa [setAt_length] using this

/-! ### Appending -/
/-- How many elements a source has, and its first cells. -/
def srcLen : AVal → Option Nat
  | .nilSlice => some 0
  | .slice _ _ n _ => some n
  | .str s => some s.length
  | _ => none
def srcPre (w₀ : World) (h : AHeap) (es n : Nat) : AVal → Prop
  | .nilSlice => True
  | .slice l o _ _ => allLive (cellsAt w₀ h l o (n * es)) = true
  | .str _ => es = 1
  | _ => False
def srcCells (w₀ : World) (h : AHeap) (es n : Nat) : AVal → List AVal
  | .slice l o _ _ => cellsAt w₀ h l o (n * es)
  | .str s => byteCells (s.take n)
  | _ => []

theorem src_len {P : Program} {φ : PMap} {x : AVal} {v : Value} {n : Nat} (hn : srcLen x = some n) (hx : VR φ x v) (w : World) : (Builtin.lenOf v).run P w = .ok n w := by
  unfold srcLen at hn
  split at hn
  · cases hn; simp only [VR] at hx; subst hx; simp [Builtin.lenOf]
  · cases hn
    obtain ⟨a, cap, rfl, _⟩ := VR_slice_addr hx
    simp [Builtin.lenOf]
  · cases hn; simp only [VR] at hx; subst hx; simp [Builtin.lenOf, bsize]
  · cases hn

theorem cellsAt_length (w₀ : World) (h : AHeap) (l : Loc) : ∀ (n o : Nat), (cellsAt w₀ h l o n).length = n
  | 0, _ => rfl
  | n + 1, o => by simp [cellsAt, cellsAt_length w₀ h l n]

theorem VRs_bytes (φ : PMap) : ∀ s : List UInt8, VRs φ (byteCells s) (s.map fun b => Value.int .u8 b.toNat)
  | [] => by simp [byteCells, VRs]
  | b :: s => by
    have := VRs_bytes φ s
    simp only [byteCells, List.map_cons, VRs] at this ⊢
    exact ⟨_, _, rfl, by simp [VR], this⟩

theorem src_cells {P : Program} {w₀ w : World} {φ : PMap} {h : AHeap} {es n m : Nat} {x : AVal} {v : Value} (hn : srcLen x = some m) (hm : n ≤ m) (hp : srcPre w₀ h es n x) (hr : HRel w₀ φ h w) (hx : VR φ x v) (hes : es ≠ 0) :
    ∃ vs : List Value, (∀ w' : World, (∀ a u, w.cell? a = some u → w'.cell? a = some u) → (Builtin.firstCells es n v).run P w' = .ok vs.toArray w') ∧ VRs φ (srcCells w₀ h es n x) vs ∧ vs.length = n * es ∧ (srcCells w₀ h es n x).length = n * es := by
  unfold srcPre at hp
  unfold srcLen at hn
  unfold srcCells
  split at hp
  · cases hn
    simp only [VR] at hx; subst hx
    obtain rfl : n = 0 := by omega
    exact ⟨[], fun w' _ => by simp [Builtin.firstCells], by simp [VRs], by simp, by simp⟩
  · rename_i l o k c
    cases hn
    obtain ⟨a, cap, rfl, ha⟩ := VR_slice_addr hx
    have ha' : n * es ≠ 0 → locAddr φ l o = some a := fun hne => ha (by
      intro e
      apply hne
      have : n = 0 := by omega
      rw [this, Nat.zero_mul])
    obtain ⟨vs, e1, e2, _, e4⟩ := loadCells_ok (P := P) hr ha' hp
    refine ⟨vs, fun w' hw => ?_, e2, e1, cellsAt_length _ _ _ _ _⟩
    simp only [Builtin.firstCells]
    rw [← e1]
    exact run_loadCells_list w' a vs fun j u hj => hw _ _ (e4 j u hj)
  · rename_i s
    cases hn
    simp only [VR] at hx; subst hx
    subst hp
    refine ⟨(s.take n).map fun b => Value.int .u8 b.toNat, fun w' _ => ?_, VRs_bytes φ _, by simp; omega, by simp [byteCells]; omega⟩
    have hx : (⟨⟨s⟩⟩ : ByteArray).extract 0 n = ⟨⟨s.take n⟩⟩ := by
      apply ByteArray.ext
      apply Array.ext'
      rw [Lib.extract_data]
      simp
    simp [Builtin.firstCells, hx]
  · exact hp.elim

section
variable {P : Program}

theorem run_append_in (w w' : World) (ts : Array TypeId) (t u ty e : TypeId) (h0 : ts[0]? = some t) (h1 : ts[1]? = some u) (i : TypeInfo) (d : TypeDesc) (ht : P.underlying t = some (.slice e)) (hu : P.underlying u = some d) (hd : ∀ k, d ≠ .int k) (hi : P.info? e = some i)
    (a : Addr) (len c n : Nat) (v : Value) (news : List Value) (hlen : (Builtin.lenOf v).run P w = .ok n w) (hf : (Builtin.firstCells i.size n v).run P w = .ok news.toArray w)
    (hroom : len + n ≤ c) (hst : (storeCells (a.add (len * i.size)) news).run P w = .ok () w') :
    (Builtin.append_ ts ty #[.slice (some a) len c, v]).run P w = .ok (.slice (some a) (len + n) c) w' := by
  have hd' : (∀ k : IntKind, ¬ d = .int k) := hd
  simp only [Builtin.append_]
  simp [h0, h1, run_underlying' ht, run_underlying' hu, sizeOf, typeInfo, hi, hlen, hf, hst, hroom]

theorem run_append_out (w : World) (ts : Array TypeId) (t u ty e : TypeId) (h0 : ts[0]? = some t) (h1 : ts[1]? = some u) (i : TypeInfo) (z : Value) (d : TypeDesc) (ht : P.underlying t = some (.slice e)) (hu : P.underlying u = some d) (hd : ∀ k, d ≠ .int k) (hi : P.info? e = some i)
    (hz : i.zero = some z) (s v : Value) (a : Option Addr) (len c n : Nat) (olds news : List Value) (hs : s = .slice a len c) (hlen : (Builtin.lenOf v).run P w = .ok n w)
    (ho : (Builtin.firstCells i.size len s).run P w.drew = .ok olds.toArray w.drew) (hf : (Builtin.firstCells i.size n v).run P w.drew = .ok news.toArray w.drew)
    (hg : c < len + n) (hb : (len + n) * i.bytes ≤ 140737488355328) (h62 : len + n < 4611686018427387904) :
    (Builtin.append_ ts ty #[s, v]).run P w = .ok (.slice (some ⟨w.heap.size, 0, none⟩) (len + n) (grownCap w (len + n) c e))
      (w.drew.alloc (.cells ((olds ++ news).toArray ++ Builtin.zeroCells z.cells (grownCap w (len + n) c e - (len + n))) e)) := by
  subst hs
  have hn : ¬ (len + n ≤ c) := by omega
  have h48' : ¬ (Builtin.nextslicecap (len + n) c * i.bytes > 2 ^ 48) := by
    have h1 := nextslicecap_le hg
    have h2 := Nat.mul_le_mul_right i.bytes h1
    have h3 : 2 * (len + n) * i.bytes = 2 * ((len + n) * i.bytes) := by rw [Nat.mul_assoc]
    omega
  have h63a : ¬ (9223372036854775807 < ((len : Int) + (n : Int))) := by omega
  have h48a : ¬ (281474976710656 < Builtin.nextslicecap (len + n) c * i.bytes) := by omega
  have hd' : (∀ k : IntKind, ¬ d = .int k) := hd
  simp only [Builtin.append_]
  simp [h0, h1, run_underlying' ht, run_underlying' hu, sizeOf, typeInfo, zeroValue, hi, hz, hlen, hn, h63a, h48a, Question.forced, ho, hf, newRow, grownCap]
  congr 2
  apply Array.ext'
  simp [List.append_assoc]
end

end Go.AM

/-
  An assertion layer over the model's wp, part F: one operation, whatever it is; calls.
  Conditions: none. Nothing here is about a particular program.
-/
namespace Go.AM
open Go.RowKit (Below)

/-! ### Calls -/
/-- A call of function f comes back, with a value and a world for which R holds. -/
def Lands (P : Program) (f : FuncId) (vals : Array Value) (w : World) (R : Value → World → Prop) : Prop :=
  (∃ fn, P.funcs[f]? = some fn ∧ (fn.name == "runtime.NumGoroutine") = false ∧ fn.body.isSome = true ∧ Calls P f vals w (fun e w' => ∃ v, e = .returned v ∧ R v w')) ∨
  (∃ v w', (callFunc f vals).run P w = .ok (.value v) w' ∧ R v w')

theorem Lands.mono {P : Program} {f : FuncId} {vals : Array Value} {w : World} {R R' : Value → World → Prop} (h : Lands P f vals w R) (hr : ∀ v w', R v w' → R' v w') : Lands P f vals w R' := by
  rcases h with ⟨fn, h1, h2, h3, h4⟩ | ⟨v, w', h1, h2⟩
  · exact .inl ⟨fn, h1, h2, h3, h4.mono fun e w' ⟨v, hv, hR⟩ => ⟨v, hv, hr v w' hR⟩⟩
  · exact .inr ⟨v, w', h1, hr _ _ h2⟩

/-- The contract of a function over symbolic values and heaps. -/
def ACall (P : Program) (w₀ : World) (f : FuncId) (args : List AVal) (h : AHeap) (R : AVal → AHeap → Prop) : Prop :=
  ∀ (φ : PMap) (vals : List Value) (w : World), HRel w₀ φ h w → VRs φ args vals →
    Lands P f vals.toArray w fun v w' => ∃ ψ x h', φ.le ψ ∧ HRel w₀ ψ h' w' ∧ VR ψ x v ∧ R x h'

theorem ACall.mono {P : Program} {w₀ : World} {f : FuncId} {args : List AVal} {h : AHeap} {R R' : AVal → AHeap → Prop} (hc : ACall P w₀ f args h R) (hr : ∀ x h', R x h' → R' x h') : ACall P w₀ f args h R' :=
  fun φ vals w h1 h2 => (hc φ vals w h1 h2).mono fun _ _ ⟨ψ, x, h', e1, e2, e3, e4⟩ => ⟨ψ, x, h', e1, e2, e3, hr _ _ e4⟩

/-! ### One operation -/
def repCells (z : List AVal) (m : Nat) : List AVal := (List.range m).map fun i => z.getD (i % z.length) .dead

theorem repCells_one (x : AVal) (m : Nat) : repCells [x] m = List.replicate m x := by
  apply List.ext_getElem?
  intro i
  simp only [repCells, List.getElem?_map, List.getElem?_replicate]
  by_cases h : i < m
  · simp [h, Nat.mod_one]
  · simp [h]

def intA : AVal → Option Int
  | .int _ n => some n
  | _ => none

def eMake (P : Program) (h : AHeap) (t : TypeId) (len cap : AVal) (K : AVal → AHeap → Prop) : Prop :=
  match P.underlying t, intA len, intA cap with
  | some (.slice e), some n, some c => match szOf P e, byOf P e, zeOf P e with
    | some es, some by', some z => (0 ≤ n ∧ n ≤ c ∧ (by' : Int) * c ≤ 281474976710656 ∧ c ≤ 9223372036854775807 ∧ z.cells.size = es ∧ es ≠ 0) ∧
        ∀ k, h k = none → K (.slice (.own k) 0 n.toNat (.exact c.toNat)) (h.set k ⟨repCells (z.cells.toList.map absS) (c.toNat * es), 0⟩)
    | _, _, _ => False
  | _, _, _ => False

def eAppend (P : Program) (w₀ : World) (h : AHeap) (ts : Array TypeId) (s x : AVal) (K : AVal → AHeap → Prop) : Prop :=
  match ts[0]?, ts[1]? with
  | some t, some u => match P.underlying t, P.underlying u with
    | some (.slice e), some d => (∀ k, d ≠ .int k) ∧ match szOf P e, byOf P e, zeOf P e, srcLen x with
      | some es, some by', some z, some n => (es ≠ 0 ∧ z.cells.size = es) ∧ srcPre w₀ h es n x ∧ match s with
        | .nilSlice => (n = 0 → K .nilSlice h) ∧ (n ≠ 0 → (n * by' ≤ 140737488355328 ∧ n < 4611686018427387904) ∧ ∀ k, h k = none → (e < 4096 → tyOf k = some e) → K (.slice (.own k) 0 n (.grow es)) (h.set k ⟨srcCells w₀ h es n x, 0⟩))
        | .slice l o len (.grow g) => g = es ∧ match l with
          | .own k => match h k with
            | some b => (o + len * es = b.cells.length ∧ (len + n) * by' ≤ 140737488355328 ∧ len + n < 4611686018427387904 ∧ allScal (srcCells w₀ h es n x) = true ∧ allLive (b.cells.drop o) = true ∧ (b.frz = 0 ∨ o < b.frz)) ∧
                ∀ k', h k' = none → (o = 0 → tyOf k = some e → tyOf k' = some e) → K (.slice (.own k') 0 (len + n) (.grow es)) ((h.del k).set k' ⟨b.cells.drop o ++ srcCells w₀ h es n x, b.frz - o⟩)
            | none => False
          | _ => False
        | .slice l o len (.exact c) => (len + n ≤ c → (n = 0 ∧ K (.slice l o len (.exact c)) h) ∨ (n ≠ 0 ∧ match l with
            | .own k => match h k with
              | some b => (o + len * es + n * es ≤ b.cells.length ∧ b.frz ≤ o + len * es ∧ allScal (srcCells w₀ h es n x) = true) ∧
                  K (.slice (.own k) o (len + n) (.exact c)) (h.set k ⟨setAt b.cells (o + len * es) (srcCells w₀ h es n x), b.frz⟩)
              | none => False
            | _ => False)) ∧
          (c < len + n → (allLive (cellsAt w₀ h l o (len * es)) = true ∧ (len + n) * by' ≤ 140737488355328 ∧ len + n < 4611686018427387904) ∧
            ∀ k, h k = none → (e < 4096 → tyOf k = some e) → K (.slice (.own k) 0 (len + n) (.grow es)) (h.set k ⟨cellsAt w₀ h l o (len * es) ++ srcCells w₀ h es n x, 0⟩))
        | _ => False
      | _, _, _, _ => False
    | _, _ => False
  | _, _ => False

def eCopy (P : Program) (w₀ : World) (h : AHeap) (ts : Array TypeId) (dst x : AVal) (K : AVal → AHeap → Prop) : Prop :=
  match ts[0]? with
  | some t => match P.underlying t with
    | some (.slice e) => match szOf P e, srcLen x with
      | some es, some m => es ≠ 0 ∧ match dst with
        | .nilSlice => srcPre w₀ h es 0 x ∧ K (.int .i64 0) h
        | .slice l o len _ => srcPre w₀ h es (min m len) x ∧ ((min m len = 0 → K (.int .i64 0) h) ∧ (min m len ≠ 0 → match l with
          | .own k => match h k with
            | some b => (o + min m len * es ≤ b.cells.length ∧ b.frz ≤ o ∧ allScal (srcCells w₀ h es (min m len) x) = true) ∧
                K (.int .i64 (min m len : Nat)) (h.set k ⟨setAt b.cells o (srcCells w₀ h es (min m len) x), b.frz⟩)
            | none => False
          | _ => False))
        | _ => False
      | _, _ => False
    | _ => False
  | none => False

def eStore (P : Program) (h : AHeap) (t : TypeId) (x v : AVal) (K : AVal → AHeap → Prop) : Prop :=
  match x with
  | .ptr (.own k) o => match h k, szOf P t with
    | some b, some n => (v.live = true ∧ v.cells.length = n ∧ o + v.cells.length ≤ b.cells.length ∧ b.frz ≤ o ∧ allScal v.cells = true) ∧ K (.tuple []) (h.set k ⟨setAt b.cells o v.cells, b.frz⟩)
    | _, _ => False
  | _ => False

def buildSliceA (P : Program) (t : TypeId) (n : Nat) (parts : List (Nat × AVal)) : Option (List AVal) :=
  match P.underlying t with
  | some (.slice e) => match szOf P e, zeOf P e with
    | some es, some z => if n * es ≤ 16777216 ∧ es ≠ 0 ∧ z.cells.size = es then fillA (fun i => some (i * es, es)) (repCells (z.cells.toList.map absS) (n * es)) parts else none
    | _, _ => none
  | _ => none

def eStrBytes (P : Program) (src dst : TypeId) : Bool :=
  match P.underlying src, P.underlying dst with
  | some .string, some (.slice e) => match P.underlying e with
    | some (.int .u8) => true
    | _ => false
  | _, _ => false

/-- A slice of bytes that is converted to its own type: what stands behind a constant text in a conversion. -/
def eSame (P : Program) (src dst : TypeId) : Bool :=
  src == dst && match P.underlying src with
  | some (.slice e) => match P.underlying e with
    | some (.int .u8) => true
    | _ => false
  | _ => false

/-- What holds of the value and of the heap behind one operation. -/
def eop (P : Program) (w₀ : World) (h : AHeap) (s : Slots) (op : Op) (K : AVal → AHeap → Prop) : Prop :=
  match op with
  | .alloc e => match zeOf P e with
    | some z => ∀ k, h k = none → K (.ptr (.own k) 0) (h.set k ⟨z.cells.toList.map absS, 0⟩)
    | none => False
  | .box _ x => (ev s x).live = true ∧ ∀ k, h k = none → K (.ptr (.own k) 0) (h.set k ⟨(ev s x).cells, 0⟩)
  | .buildSlice t n parts => match buildSliceA P t n (evP s parts.toList) with
    | some cs => ∀ k, h k = none → K (.slice (.own k) 0 n (.exact n)) (h.set k ⟨cs, 0⟩)
    | none => False
  | .store t x v => eStore P h t (ev s x) (ev s v) K
  | .makeSlice t n c => eMake P h t (ev s n) (ev s c) K
  | .convert src dst x => match ev s x with
    | .str b => if eStrBytes P src dst = true then (b.length < 9223372036854775808 ∧ ∀ k, h k = none → K (.slice (.own k) 0 b.length (.grow 1)) (h.set k ⟨byteCells b, 0⟩))
        else (pop P w₀ h s op).pre ∧ K (pop P w₀ h s op).val h
    | .slice (.own k) o n c => if eSame P src dst = true then ((n ≠ 0 ∧ match h k with | some b => b.frz = 0 | none => False) ∧ K (.slice (.own k) o n c) h)
        else (pop P w₀ h s op).pre ∧ K (pop P w₀ h s op).val h
    | _ => (pop P w₀ h s op).pre ∧ K (pop P w₀ h s op).val h
  | .call c => match c.callee with
    | .builtin .append => match evs s c.args.toList with
      | [a, x] => eAppend P w₀ h c.argTypes a x K
      | _ => False
    | .builtin .copy => match evs s c.args.toList with
      | [a, x] => eCopy P w₀ h c.argTypes a x K
      | _ => False
    | .value f => match ev s f with
      | .func f cap => ACall P w₀ f (evs s c.args.toList ++ cap) h K
      | _ => False
    | _ => (pop P w₀ h s op).pre ∧ K (pop P w₀ h s op).val h
  | _ => (pop P w₀ h s op).pre ∧ K (pop P w₀ h s op).val h

theorem eop_mono {P : Program} {w₀ : World} {h : AHeap} {s : Slots} {op : Op} {K K' : AVal → AHeap → Prop} (he : eop P w₀ h s op K) (hk : ∀ x h', K x h' → K' x h') : eop P w₀ h s op K' := by
  cases op <;> simp only [eop] at he ⊢ <;> first
    | exact ⟨he.1, hk _ _ he.2⟩
    | skip
  case alloc e => split at he <;> first | exact fun k hk' => hk _ _ (he k hk') | exact he.elim
  case box e x => exact ⟨he.1, fun k hk' => hk _ _ (he.2 k hk')⟩
  case buildSlice t n parts => split at he <;> first | exact fun k hk' => hk _ _ (he k hk') | exact he.elim
  case store t x v =>
    unfold eStore at he ⊢
    split at he
    · split at he
      · exact ⟨he.1, hk _ _ he.2⟩
      · exact he.elim
    · exact he.elim
  case makeSlice t n c =>
    unfold eMake at he ⊢
    split at he
    · split at he
      · exact ⟨he.1, fun k hk' => hk _ _ (he.2 k hk')⟩
      · exact he.elim
    · exact he.elim
  case convert src dst x =>
    split at he
    · split at he
      · rename_i hc
        simp only [hc, if_true]
        exact ⟨he.1, fun k hk' => hk _ _ (he.2 k hk')⟩
      · rename_i hc
        rw [if_neg hc]
        exact ⟨he.1, hk _ _ he.2⟩
    · split at he
      · rename_i hc
        simp only [hc, if_true]
        exact ⟨he.1, hk _ _ he.2⟩
      · rename_i hc
        rw [if_neg hc]
        exact ⟨he.1, hk _ _ he.2⟩
    · exact ⟨he.1, hk _ _ he.2⟩
  case call c =>
    split at he
    · split at he
      · unfold eAppend at he ⊢
        split at he <;> first | exact he.elim | skip
        split at he <;> first | exact he.elim | skip
        refine ⟨he.1, ?_⟩
        obtain ⟨_, he⟩ := he
        split at he <;> first | exact he.elim | skip
        obtain ⟨e1, e2, he⟩ := he
        refine ⟨e1, e2, ?_⟩
        split at he <;> first | exact he.elim | skip
        · exact ⟨fun hn => hk _ _ (he.1 hn), fun hn => ⟨(he.2 hn).1, fun k hk' ht => hk _ _ ((he.2 hn).2 k hk' ht)⟩⟩
        · obtain ⟨e3, he⟩ := he
          refine ⟨e3, ?_⟩
          split at he <;> first | exact he.elim | skip
          split at he <;> first | exact he.elim | skip
          exact ⟨he.1, fun k hk' ht => hk _ _ (he.2 k hk' ht)⟩
        · refine ⟨fun hle => ?_, fun hlt => ⟨(he.2 hlt).1, fun k hk' ht => hk _ _ ((he.2 hlt).2 k hk' ht)⟩⟩
          rcases he.1 hle with ⟨a1, a2⟩ | ⟨a1, a2⟩
          · exact .inl ⟨a1, hk _ _ a2⟩
          · refine .inr ⟨a1, ?_⟩
            split at a2 <;> first | exact a2.elim | skip
            split at a2 <;> first | exact a2.elim | skip
            exact ⟨a2.1, hk _ _ a2.2⟩
      · exact he.elim
    · split at he
      · unfold eCopy at he ⊢
        split at he <;> first | exact he.elim | skip
        split at he <;> first | exact he.elim | skip
        split at he <;> first | exact he.elim | skip
        refine ⟨he.1, ?_⟩
        obtain ⟨_, he⟩ := he
        split at he <;> first | exact he.elim | skip
        · exact ⟨he.1, hk _ _ he.2⟩
        · refine ⟨he.1, fun h0 => hk _ _ (he.2.1 h0), fun h0 => ?_⟩
          have h3 := he.2.2 h0
          split at h3 <;> first | exact h3.elim | skip
          split at h3 <;> first | exact h3.elim | skip
          exact ⟨h3.1, hk _ _ h3.2⟩
      · exact he.elim
    · split at he
      · exact he.mono hk
      · exact he.elim
    · exact ⟨he.1, hk _ _ he.2⟩

end Go.AM

/-
  An assertion layer over the model's wp, part G: one operation is sound.
  Conditions: none. Nothing here is about a particular program.
-/
namespace Go.AM
open Go.RowKit (Below)

theorem setAt_eq {α : Type} : ∀ (vs cs : List α) (m : Nat), m + vs.length ≤ cs.length → setAt cs m vs = cs.take m ++ vs ++ cs.drop (m + vs.length)
  | [], cs, m, _ => by simp [setAt]
  | v :: vs, cs, m, h => by
    simp only [List.length_cons] at h
    simp only [setAt]
    rw [setAt_eq vs _ (m + 1) (by simp; omega)]
    have e1 : (cs.set m v).drop (m + 1 + vs.length) = cs.drop (m + (v :: vs).length) := by
      rw [List.drop_set_of_lt (by omega)]
      congr 1
      simp only [List.length_cons]
      omega
    have e2 : (cs.set m v).take (m + 1) = cs.take m ++ [v] := by
      apply List.ext_getElem?
      intro i
      simp only [List.getElem?_take, List.getElem?_set, List.getElem?_append, List.length_take]
      have c0 : min m cs.length = m := by omega
      rw [c0]
      rcases Nat.lt_trichotomy i m with c | c | c
      · have c1 : i < m + 1 := by omega
        have c2 : ¬ m = i := by omega
        simp [c, c1, c2]
      · subst c
        have c1 : i < cs.length := by omega
        simp [c1]
      · have c1 : ¬ i < m + 1 := by omega
        have c2 : ¬ i < m := by omega
        have c3 : i - m ≠ 0 := by omega
        simp [c1, c2, c3]
    rw [e1, e2, List.append_assoc (cs.take m)]
    rfl

theorem freeze_putRow (w : World) (g n : Nat) (cs : Array Value) (e : TypeId) (lo hi : Nat) (hg : w.heap[g]? = some (.cells cs e (lo, hi))) :
    w.freeze ⟨g, n, none⟩ 1 = AM.World.putRow w g cs e (if lo == hi then (n, n + 1) else (min lo n, max hi (n + 1))) := by
  unfold World.freeze AM.World.putRow
  rw [if_neg (by decide)]
  congr 1
  apply Array.ext_getElem?
  intro i
  rw [Array.getElem?_modify, Array.getElem?_setIfInBounds]
  by_cases hi : g = i
  · subst hi
    have hlt : g < w.heap.size := by
      rcases Nat.lt_or_ge g w.heap.size with h | h
      · exact h
      · rw [Array.getElem?_eq_none h] at hg; cases hg
    rw [hg]
    simp [hlt]
  · simp [hi]

/-- The run-time's mark behind a row of the call's own. -/
theorem HRel.mark {P : Program} {w₀ w : World} {φ : PMap} {h : AHeap} (hr : HRel w₀ φ h w) {k : Nat} {b : Blk} {p : Place} (hk : h k = some b) (hp : φ k = some p) (hf : b.frz = 0) (ad : Addr) (had : ad.block = p.blk) :
    ∃ w', (markStringish ad).run P w = .ok () w' ∧ HRel w₀ φ h w' := by
  obtain ⟨q, hq, hq1, ok⟩ := hr.own k b hk
  have hpq : q = p := by rw [hp] at hq; exact (Option.some.inj hq).symm
  subst hpq
  obtain ⟨cs, e, lo, hi, h1, h2, h3, h4, h5, h6⟩ := ok.row
  have hgl : q.blk < w.heap.size := hr.lt k q hp
  have hsh : w.shape? q.blk = some (e, cs.size) := by simp [World.shape?, h1]
  refine ⟨w.freeze ⟨q.blk, cs.size, none⟩ 1, by simp [markStringish, had, hsh], ?_⟩
  rw [freeze_putRow w q.blk cs.size cs e lo hi h1]
  refine HRel.forget (h := h.set k b) (hr.write k b b q hk hp (by simp [AM.World.putRow]) rfl rfl rfl (fun i hi => putRow_other w _ _ _ _ i hi) (fun cs' e' fr' h' => by rw [h1] at h'; cases h'; exact ⟨_, _, putRow_get w _ _ _ _ hgl⟩) ?_) fun j c hj => ?_
  · have hle : (if lo == hi then (cs.size, cs.size + 1) else (min lo cs.size, max hi (cs.size + 1))).1 ≤ (if lo == hi then (cs.size, cs.size + 1) else (min lo cs.size, max hi (cs.size + 1))).2 := by
      have := h6.1
      split
      · exact Nat.le_succ _
      · simp only
        omega
    have hfr : ∀ i, (if lo == hi then (cs.size, cs.size + 1) else (min lo cs.size, max hi (cs.size + 1))).1 ≤ i → i < (if lo == hi then (cs.size, cs.size + 1) else (min lo cs.size, max hi (cs.size + 1))).2 → cs.size ≤ i := by
      intro i i1 i2
      split at i1
      · exact i1
      · rename_i hne
        have hne' : lo ≠ hi := by simpa using hne
        simp only at i1
        by_cases hlh : lo < hi
        · have := h6.2 lo (Nat.le_refl _) hlh
          omega
        · have := h6.1
          omega
    exact ⟨cs, e, _, _, putRow_get w _ _ _ _ hgl, h2, h3, h4, h5, hle, fun i i1 i2 => .inr (hfr i i1 i2)⟩
  · by_cases ej : j = k
    · subst ej; rw [AHeap.set_same]; rw [hk] at hj; exact hj
    · rw [AHeap.set_ne _ _ ej]; exact hj

theorem VR_own_blk {φ : PMap} {k o m : Nat} {c : Cap} {v : Value} {ad : Addr} {cap : Nat} {q : Place} (h : VR φ (.slice (.own k) o m c) v) (hv : v = .slice (some ad) m cap) (hq : φ k = some q) (hm : m ≠ 0) : ad.block = q.blk := by
  subst hv
  cases c with
  | exact c =>
    simp only [VR] at h
    obtain ⟨a, e, ha⟩ := h
    simp only [Value.slice.injEq, Option.some.injEq] at e
    have := ha (.inr hm)
    simp only [locAddr, hq, Option.map_some, Option.some.injEq] at this
    rw [e.1, ← this]
  | grow es =>
    simp only [VR] at h
    obtain ⟨k', p, c', a, e0, e1, e, e2, e3⟩ := h
    cases e0
    rw [hq] at e1
    cases e1
    simp only [Value.slice.injEq, Option.some.injEq] at e
    have := (e3 (by omega)).1
    rw [e.1, this]

/-- A row of the call's own grows within its room: the block gets a new name. -/
theorem own_extend {P : Program} {w₀ w : World} {φ : PMap} {h : AHeap} (hr : HRel w₀ φ h w) {k : Nat} {b : Blk} {p : Place} (hk : h k = some b) (hp : φ k = some p) {o : Nat} {xs : List AVal} {vs : List Value}
    (hx : VRs φ xs vs) (hs : allScal xs = true) (ho : o ≤ b.cells.length) (hfit : b.cells.length + xs.length ≤ p.room) (hz : b.frz = 0 ∨ o < b.frz) (k' : Nat) (hk' : h k' = none) (hφ : φ k' = none) (hty : tyOf k' = if o = 0 then tyOf k else none) :
    ∃ w', (storeCells ⟨p.blk, p.off + b.cells.length, none⟩ vs).run P w = .ok () w' ∧ φ.le (φ.upd k' ⟨p.blk, p.off + o, p.room - o⟩) ∧
      HRel w₀ (φ.upd k' ⟨p.blk, p.off + o, p.room - o⟩) ((h.del k).set k' ⟨b.cells.drop o ++ xs, b.frz - o⟩) w' := by
  obtain ⟨q, hq, hq1, ok⟩ := hr.own k b hk
  have hpq : q = p := by rw [hp] at hq; exact (Option.some.inj hq).symm
  subst hpq
  obtain ⟨cs, e, lo, hi, h1, h2, h3, h4, h5, h6⟩ := ok.row
  have hl := VRs_length hx
  have hgl : q.blk < w.heap.size := hr.lt k q hp
  have hle := PMap.le_upd hφ (⟨q.blk, q.off + o, q.room - o⟩ : Place)
  have hkk : k' ≠ k := fun e => by subst e; rw [hk] at hk'; cases hk'
  refine ⟨_, run_storeCells' q.blk (q.off + b.cells.length) e lo hi vs 0 cs w h1 (by omega) (VRs_oneCell hx hs) (fun j hj hj' hc => ?_), hle, ?_⟩
  · have := h6.2 j hc.1 hc.2
    omega
  · have hset := setAt_eq vs cs.toList (q.off + b.cells.length + 0) (by simp; omega)
    have other : ∀ j b', ((h.del k).set k' ⟨b.cells.drop o ++ xs, b.frz - o⟩ : AHeap) j = some b' → j = k' ∨ (j ≠ k' ∧ j ≠ k ∧ h j = some b') := fun j b' hj => by
      by_cases e1 : j = k'
      · exact .inl e1
      · rw [AHeap.set_ne _ _ e1] at hj
        by_cases e2 : j = k
        · subst e2; simp [AHeap.del] at hj
        · simp only [AHeap.del, e2, if_false] at hj
          exact .inr ⟨e1, e2, hj⟩
    refine ⟨⟨hr.below.os, hr.below.tape, hr.below.output, by simpa [AM.World.putRow] using hr.below.size, fun i hi => ?_⟩, fun j b' hj => ?_, fun j j' b1 b2 p1 p2 g1 g2 f1 f2 ee => ?_, fun j r hj => ?_, ?_, fun j r hj t ht => ?_⟩
    · rw [putRow_other _ _ _ _ _ i (by omega)]
      exact hr.below.block i hi
    · rcases other j b' hj with rfl | ⟨n1, n2, hj'⟩
      · rw [AHeap.set_same] at hj
        simp only [Option.some.injEq] at hj
        subst hj
        refine ⟨_, PMap.upd_same _ _ _, hq1, ⟨(setAt cs.toList (q.off + b.cells.length + 0) vs).toArray, e, lo, hi, putRow_get w _ _ _ _ hgl, ?_, ?_, ?_, ?_, ?_⟩⟩
        · simp only [List.size_toArray, setAt_length, Array.length_toList]
          omega
        · simp only [List.length_append, List.length_drop]
          omega
        · simp only [List.length_append, List.length_drop]
          omega
        · have h5' := VRs_mono hle _ _ (VRs_append (VRs_drop o h5) hx)
          have e5 : ((setAt cs.toList (q.off + b.cells.length + 0) vs).drop (q.off + o)).take (b.cells.drop o ++ xs).length = ((cs.toList.drop q.off).take b.cells.length).drop o ++ vs := by
            rw [hset]
            simp only [Nat.add_zero, List.length_append, List.length_drop]
            rw [List.append_assoc, List.drop_append_of_le_length (by simp; omega)]
            apply List.ext_getElem?
            intro i
            simp only [List.getElem?_take, List.getElem?_append, List.getElem?_drop, List.length_drop, List.length_take, Array.length_toList]
            by_cases c1 : i < b.cells.length - o
            · have : i < min (q.off + b.cells.length) cs.size - (q.off + o) := by omega
              have c2 : i < min b.cells.length (cs.size - q.off) - o := by omega
              have c3 : i < b.cells.length - o + xs.length := by omega
              have c4 : q.off + o + i < q.off + b.cells.length := by omega
              have c5 : o + i < b.cells.length := by omega
              simp only [c3, this, c2, c4, c5, if_true]
              congr 1
              omega
            · have c2 : ¬ i < min (q.off + b.cells.length) cs.size - (q.off + o) := by omega
              have c3 : ¬ i < min b.cells.length (cs.size - q.off) - o := by omega
              simp only [c2, c3, if_false]
              have c6 : i - (min (q.off + b.cells.length) cs.size - (q.off + o)) = i - (min b.cells.length (cs.size - q.off) - o) := by omega
              rw [c6]
              by_cases c4 : i < b.cells.length - o + xs.length
              · have c5 : i - (min b.cells.length (cs.size - q.off) - o) < vs.length := by omega
                simp only [c4, c5, if_true]
              · have c5 : ¬ i - (min b.cells.length (cs.size - q.off) - o) < vs.length := by omega
                simp only [c4, if_false]
                rw [List.getElem?_eq_none (by omega)]
          simp only
          rw [e5]
          exact h5'
        · refine ⟨h6.1, fun i hi1 hi2 => ?_⟩
          have := h6.2 i hi1 hi2
          simp only [List.size_toArray, setAt_length, Array.length_toList]
          omega
      · obtain ⟨r, hr0, hr1, hr2⟩ := hr.own j b' hj'
        have hne : r.blk ≠ q.blk := fun e' => n2 (hr.inj j k b' b r q hj' hk hr0 hp e')
        exact ⟨r, hle j r hr0, hr1, (hr2.world (putRow_other _ _ _ _ _ _ hne)).mono hle⟩
    · rcases other j b1 g1 with rfl | ⟨n1, n2, g1'⟩ <;> rcases other j' b2 g2 with rfl | ⟨m1, m2, g2'⟩
      · rfl
      · exfalso
        rw [PMap.upd_same] at f1
        simp only [Option.some.injEq] at f1
        subst f1
        obtain ⟨r, hr0, _, _⟩ := hr.own j' b2 g2'
        have : r = p2 := by
          have := hle j' r hr0
          rw [f2] at this
          exact (Option.some.inj this).symm
        subst this
        exact m2 (hr.inj j' k b2 b r q g2' hk hr0 hp ee.symm)
      · exfalso
        rw [PMap.upd_same] at f2
        simp only [Option.some.injEq] at f2
        subst f2
        obtain ⟨r, hr0, _, _⟩ := hr.own j b1 g1'
        have : r = p1 := by
          have := hle j r hr0
          rw [f1] at this
          exact (Option.some.inj this).symm
        subst this
        exact n2 (hr.inj j k b1 b r q g1' hk hr0 hp ee)
      · simp only [PMap.upd, n1, m1, if_false] at f1 f2
        exact hr.inj j j' b1 b2 p1 p2 g1' g2' f1 f2 ee
    · simp only [AM.World.putRow, Array.size_setIfInBounds]
      by_cases e1 : j = k'
      · subst e1
        rw [PMap.upd_same] at hj
        simp only [Option.some.injEq] at hj
        subst hj
        exact hgl
      · simp only [PMap.upd, e1, if_false] at hj
        exact hr.lt j r hj
    · obtain ⟨N, hN⟩ := hr.fin
      exact ⟨max N (k' + 1), fun j hj => by
        have h1 : j ≠ k' := by omega
        simp only [PMap.upd, h1, if_false]
        exact hN j (by omega)⟩
    · by_cases e1 : j = k'
      · subst e1
        rw [PMap.upd_same] at hj
        simp only [Option.some.injEq] at hj
        subst hj
        rw [hty] at ht
        by_cases e0 : o = 0
        · rw [if_pos e0] at ht
          obtain ⟨t0, cs', fr', t1⟩ := hr.typ k q hp t ht
          rw [h1] at t1
          cases t1
          exact ⟨by simp only; omega, _, _, putRow_get w _ _ _ _ hgl⟩
        · rw [if_neg e0] at ht; cases ht
      · simp only [PMap.upd, e1, if_false] at hj
        obtain ⟨t0, cs', fr', t1⟩ := hr.typ j r hj t ht
        refine ⟨t0, ?_⟩
        by_cases e2 : r.blk = q.blk
        · rw [e2] at t1 ⊢
          rw [h1] at t1
          cases t1
          exact ⟨_, _, putRow_get w _ _ _ _ hgl⟩
        · exact ⟨cs', fr', by rw [putRow_other _ _ _ _ _ _ e2]; exact t1⟩

theorem wp_value {P : Program} {o : Oper} {a : Act} {w w' : World} {v : Value} {next : Act → World → Prop} {Q : Exit → Act → World → Prop} (h : (execOp a.eval o).run P w = .ok (.value v) w') (hn : next (a.put o.dst v) w') : o.wp P a w next Q := by
  unfold Oper.wp
  rw [h]
  exact hn

theorem wp_skip' {P : Program} {o : Oper} {a : Act} {w w' : World} {next : Act → World → Prop} {Q : Exit → Act → World → Prop} (h : (execOp a.eval o).run P w = .ok .skip w') (hn : next (a.put o.dst undef) w') : o.wp P a w next Q := by
  unfold Oper.wp
  rw [h]
  exact hn

theorem VR_undef (φ : PMap) : VR φ (.tuple []) undef := by
  simp only [VR]
  exact ⟨[], rfl, by simp [VRs]⟩

theorem VR_new (φ : PMap) (k : Nat) (p : Place) : VR (φ.upd k p) (.ptr (.own k) 0) (.pointer (some ⟨p.blk, p.off, none⟩)) := by
  simp only [VR]
  exact ⟨_, by simp [locAddr, PMap.upd], rfl⟩

theorem wp_lands {P : Program} {o : Oper} {a : Act} {w : World} {f : FuncId} {vals : Array Value} {R : Value → World → Prop} {next : Act → World → Prop} {Q : Exit → Act → World → Prop}
    (hx : (execOp a.eval o).run P w = (callFunc f vals).run P w) (h : Lands P f vals w R) (hn : ∀ v w', R v w' → next (a.put o.dst v) w') : o.wp P a w next Q := by
  unfold Oper.wp
  rw [hx]
  rcases h with ⟨fn, h1, h2, h3, h4⟩ | ⟨v, w', h1, h2⟩
  · have : (callFunc f vals).run P w = .ok (.enter f vals) w := by
      have hb : ¬ fn.body = none := fun e => by rw [e] at h3; cases h3
      have hn' : ¬ fn.name = "runtime.NumGoroutine" := by simpa using h2
      simp [callFunc, h1, hn', hb]
    rw [this, Oper.upon_enter]
    refine h4.mono fun e w' he => ?_
    obtain ⟨v, rfl, hR⟩ := he
    exact hn v w' hR
  · rw [h1]
    exact hn v w' h2

theorem fill_length (place : Nat → Option (Nat × Nat)) : ∀ {xs : List (Nat × AVal)} {cells r : List AVal}, fillA place cells xs = some r → r.length = cells.length
  | [], cells, r, h => by simp only [fillA, Option.some.injEq] at h; subst h; rfl
  | (i, x) :: xs, cells, r, h => by
    simp only [fillA] at h
    split at h
    · cases h
    · split at h
      · rw [fill_length place h, setAt_length]
      · cases h

theorem VRs_rep {φ : PMap} {z : List AVal} {u : Array Value} (hz : VRs φ z u.toList) (hne : u.size ≠ 0) (m : Nat) : VRs φ (repCells z m) ((Array.range m).map (u[· % u.size]!)).toList := by
  have hl := VRs_length hz
  simp only [Array.length_toList] at hl
  refine VRs_of_get (by simp [repCells]) fun j hj => ?_
  have hj' : j < m := by simpa [repCells] using hj
  have hlt : j % u.size < u.size := Nat.mod_lt _ (by omega)
  have h1 := VRs_get hz (j % z.length) default (by rw [← hl]; exact hlt)
  have e1 : (repCells z m).getD j .dead = z.getD (j % z.length) .dead := by simp [repCells, hj']
  have e2 : (((Array.range m).map (u[· % u.size]!)).toList).getD j default = u.toList.getD (j % z.length) default := by
    rw [← hl]
    simp [hj', hlt]
  rw [e1, e2]
  exact h1

theorem eop_ok {P : Program} {w₀ w : World} {φ : PMap} {h : AHeap} {n : Nat} {s : Slots} {a : Act} (o : Oper) {K : AVal → AHeap → Prop} (he : eop P w₀ h s o.op K) (hr : HRel w₀ φ h w) (hs : SRel φ n s a)
    {next : Act → World → Prop} {Q : Exit → Act → World → Prop} (hn : ∀ ψ x h' v w', φ.le ψ → HRel w₀ ψ h' w' → VR ψ x v → K x h' → next (a.put o.dst v) w') : o.wp P a w next Q := by
  have plain : (pop P w₀ h s o.op).pre ∧ K (pop P w₀ h s o.op).val h → o.wp P a w next Q := fun ⟨h1, h2⟩ => by
    obtain ⟨r, e1, e2⟩ := pop_ok o h1 hr hs
    exact wp_value (e1 w (Same.refl w)) (hn φ _ h r w φ.le_refl hr e2 h2)
  obtain ⟨dst, op, type, pos, after, guard⟩ := o
  cases op <;> simp only [eop] at he <;> first
    | exact plain he
    | skip
  case alloc e =>
    split at he <;> first | exact he.elim | skip
    rename_i z hz
    obtain ⟨k, hk, hφ, hkt⟩ := hr.freshN
    obtain ⟨e1, e2⟩ := hr.alloc k hk hφ (z.cells.toList.map absS) z.cells e 0 0 (by rw [List.length_map, List.take_length]; exact VRs_absS φ z.cells.toList) no_frz (fun t ht => by rw [hkt] at ht; cases ht)
    refine wp_value (v := .pointer (some ⟨w.heap.size, 0, none⟩)) (w' := w.alloc (.cells z.cells e)) ?_ (hn _ _ _ _ _ e1 e2 (VR_new _ _ _) (he k hk))
    simp [execOp, Instr.alloc, run_zero' hz, newVar, newRow]
  case box e x =>
    obtain ⟨hl, he⟩ := he
    obtain ⟨k, hk, hφ, hkt⟩ := hr.freshN
    have hx := VRs_cells (hs.ev x) hl
    have hlen := VRs_length hx
    obtain ⟨e1, e2⟩ := hr.alloc k hk hφ (ev s x).cells (a.eval x).cells e 0 0 (by rw [← hlen, List.take_length]; exact hx) no_frz (fun t ht => by rw [hkt] at ht; cases ht)
    refine wp_value (v := .pointer (some ⟨w.heap.size, 0, none⟩)) (w' := w.alloc (.cells (a.eval x).cells e)) ?_ (hn _ _ _ _ _ e1 e2 (VR_new _ _ _) (he k hk))
    simp [execOp, Instr.box, newVar, newRow]
  case buildSlice t m parts =>
    split at he <;> first | exact he.elim | skip
    rename_i cs hb
    unfold buildSliceA at hb
    split at hb <;> first | (cases hb; done) | skip
    rename_i e ht
    split at hb <;> first | (cases hb; done) | skip
    rename_i es z hes hz
    split at hb <;> first | (cases hb; done) | skip
    rename_i hc
    obtain ⟨c1, c2, c3⟩ := hc
    have hzs : VRs φ (z.cells.toList.map absS) z.cells.toList := VRs_absS φ _
    obtain ⟨r, f1, f2⟩ := fill_ok (φ := φ) (fun i => some (i * es, es)) (vs := (parts.map fun (i, x) => (i, a.eval x)).toList) (us := (Array.range (m * es)).map (z.cells[· % z.cells.size]!)) (by simpa using hs.evP parts.toList) (VRs_rep hzs (by omega) (m * es)) hb
    have hlen := VRs_length f2
    simp only [Array.length_toList] at hlen
    have hcl : cs.length = m * es := by rw [fill_length _ hb]; simp [repCells]
    obtain ⟨k, hk, hφ, hkt⟩ := hr.freshN
    obtain ⟨e1, e2⟩ := hr.alloc k hk hφ cs r e 0 0 (by rw [← hlen, ← Array.length_toList, List.take_length]; exact f2) no_frz (fun t ht => by rw [hkt] at ht; cases ht)
    refine wp_value (v := .slice (some ⟨w.heap.size, 0, none⟩) m m) (w' := w.alloc (.cells r e)) ?_ (hn _ _ _ _ _ e1 e2 ?_ (he k hk))
    · have hbig : ¬ (m * es > 2 ^ 24) := by omega
      have hb' : ¬ (16777216 < m * es) := by omega
      by_cases hz0 : m * es = 0
      · have hr0 : r = #[] := Array.eq_empty_of_size_eq_zero (by omega)
        have harr : ((Array.range (m * es)).map (z.cells[· % z.cells.size]!)) = #[] := by rw [hz0]; simp
        rw [harr] at f1
        simp at f1
        simp [execOp, Instr.buildSlice, run_underlying' ht, run_sizeOf' hes, hz0, Array.range_zero', f1, newRow]
      · simp [execOp, Instr.buildSlice, run_underlying' ht, run_sizeOf' hes, hz0, hb', run_zero' hz]
        simp at f1
        simp [f1, newRow]
    · simp only [VR]
      exact ⟨_, rfl, fun _ => by simp [locAddr, PMap.upd]⟩
  case store t x v =>
    unfold eStore at he
    split at he <;> first | exact he.elim | skip
    rename_i k o' hx
    split at he <;> first | exact he.elim | skip
    rename_i b m hb hm
    obtain ⟨⟨g1, g2, g3, g4, g5⟩, hK⟩ := he
    have hx' := hs.ev x
    rw [hx] at hx'
    simp only [VR] at hx'
    obtain ⟨ad, ha, hx'⟩ := hx'
    obtain ⟨p, hp, _, _⟩ := hr.own k b hb
    simp only [locAddr, hp, Option.map_some, Option.some.injEq] at ha
    subst ha
    have hv := VRs_cells (hs.ev v) g1
    have hlen := VRs_length hv
    simp only [Array.length_toList] at hlen
    obtain ⟨w', f1, f2⟩ := own_write (P := P) hr hb hp hv g5 g3 g4
    refine wp_skip' (w' := w') ?_ (hn φ _ _ _ _ φ.le_refl f2 (VR_undef φ) hK)
    have hsz : ¬ (a.eval v).cells.size ≠ m := by omega
    simp [execOp, hx', Instr.storeAt, Instr.sureAddr, storeVar, run_sizeOf' hm, f1]
    omega
  case makeSlice t m c =>
    unfold eMake at he
    split at he <;> first | exact he.elim | skip
    rename_i e len cap ht hlen hcap
    split at he <;> first | exact he.elim | skip
    rename_i es by' z hes hby hz
    obtain ⟨⟨g1, g2, g3, g4, g5, g6⟩, he⟩ := he
    have i1 : ∃ k, a.eval m = .int k len := by
      have := hs.ev m
      revert hlen this
      cases ev s m <;> simp [intA, VR]
      intro e1 e2
      subst e1
      exact ⟨_, e2⟩
    have i2 : ∃ k, a.eval c = .int k cap := by
      have := hs.ev c
      revert hcap this
      cases ev s c <;> simp [intA, VR]
      intro e1 e2
      subst e1
      exact ⟨_, e2⟩
    obtain ⟨k1, i1⟩ := i1
    obtain ⟨k2, i2⟩ := i2
    simp only [szOf, Option.map_eq_some_iff] at hes
    obtain ⟨ii, hi, hes⟩ := hes
    simp only [byOf, hi, Option.map_some, Option.some.injEq] at hby
    simp only [zeOf, hi, Option.bind_some] at hz
    subst hby
    have hmake := run_make (P := P) w t e ii z ht hi hz k1 k2 len cap g1 g2 g3 g4
    rw [hes] at hmake
    have hzs : VRs φ (z.cells.toList.map absS) z.cells.toList := VRs_absS φ _
    have hrep := VRs_rep hzs (by omega) (cap.toNat * es)
    obtain ⟨k, hk, hφ, hkt⟩ := hr.freshN
    obtain ⟨e1, e2⟩ := hr.alloc k hk hφ (repCells (z.cells.toList.map absS) (cap.toNat * es)) (madeCells z.cells (cap.toNat * es)) e 0 0 (by
      have hl := VRs_length hrep
      rw [← hl]
      unfold madeCells
      rw [List.take_length]
      exact hrep) no_frz (fun t ht => by rw [hkt] at ht; cases ht)
    refine wp_value (v := .slice (some ⟨w.heap.size, 0, none⟩) len.toNat cap.toNat) (w' := w.alloc (.cells (madeCells z.cells (cap.toNat * es)) e)) ?_ (hn _ _ _ _ _ e1 e2 ?_ (he k hk))
    · simp only [execOp, i1, i2]
      exact run_value hmake
    · simp only [VR]
      exact ⟨_, rfl, fun _ => by simp [locAddr, PMap.upd]⟩
  case convert src dst' x =>
    split at he
    · rename_i b hb
      split at he
      · rename_i hc
        obtain ⟨g1, he⟩ := he
        unfold eStrBytes at hc
        split at hc <;> first | (cases hc; done) | skip
        rename_i e h1 h2
        split at hc <;> first | (cases hc; done) | skip
        rename_i h3
        have hx := hs.ev x
        rw [hb] at hx
        simp only [VR] at hx
        obtain ⟨k, hk, hφ, hkt⟩ := hr.freshN
        have hcap : b.length ≤ grownCap w b.length 0 e := by
          simp only [grownCap, Question.cut]
          omega
        have hrun := run_bytes_of_string (P := P) w src dst' e ⟨⟨b⟩⟩ h1 h2 h3
        rw [bsize] at hrun
        generalize hG : grownCap w b.length 0 e = G at *
        have hrow : (bytesRow ⟨⟨b⟩⟩ G).toList = (b.map fun c => Value.int .u8 c.toNat) ++ List.replicate (G - b.length) (.int .u8 0) := by
          simp [bytesRow, bsize]
        have hsize : (bytesRow ⟨⟨b⟩⟩ G).size = G := by
          rw [← Array.length_toList, hrow]
          simp
          omega
        rw [hsize] at hrun
        have hcells : (byteCells b).length = b.length := byteCells_length b
        obtain ⟨e1, e2⟩ := hr.drew.alloc k hk hφ (byteCells b) (bytesRow ⟨⟨b⟩⟩ G) e G (G + 1) (by
          rw [hcells, hrow, List.take_append_of_le_length (by simp)]
          rw [List.take_of_length_le (by simp)]
          exact VRs_bytes φ b) (fun i h1 h2 => by rw [hsize]; exact h1) (fun t ht => by rw [hkt] at ht; cases ht)
        refine wp_value (v := .slice (some ⟨w.heap.size, 0, none⟩) b.length G) (w' := w.drew.alloc (.cells (bytesRow ⟨⟨b⟩⟩ G) e (G, G + 1))) ?_ (hn _ _ _ _ _ e1 e2 ?_ (he k hk))
        · simp only [execOp, hx]
          exact run_value hrun
        · simp only [VR]
          exact ⟨k, _, G, ⟨w.heap.size, 0, none⟩, rfl, PMap.upd_same _ _ _, rfl, hcap, fun _ => ⟨rfl, by simp [hsize]⟩⟩
      · exact plain he
    · rename_i k o m c hx
      split at he
      · rename_i hc
        obtain ⟨g1, he⟩ := he
        obtain ⟨g0, g1⟩ := g1
        split at g1 <;> first | exact g1.elim | skip
        rename_i b hb
        simp only [eSame, Bool.and_eq_true, beq_iff_eq] at hc
        obtain ⟨rfl, hc⟩ := hc
        split at hc <;> first | (cases hc; done) | skip
        rename_i e h1
        split at hc <;> first | (cases hc; done) | skip
        rename_i h2
        have hv := hs.ev x
        rw [hx] at hv
        obtain ⟨ad, cap, hval, _⟩ := VR_slice_addr hv
        obtain ⟨q, hq, _, _⟩ := hr.own k b hb
        obtain ⟨w', f1, f2⟩ := hr.mark (P := P) hb hq g1 ad (VR_own_blk hv hval hq g0)
        refine wp_value (v := a.eval x) (w' := w') ?_ (hn φ _ _ _ _ φ.le_refl f2 hv he)
        have hcv : (convert src src (.slice (some ad) m cap)).run P w = .ok (.slice (some ad) m cap) w' := by
          simp [convert, run_underlying' h1, run_underlying' h2, f1]
        simp only [execOp]
        rw [hval]
        exact run_value hcv
      · exact plain he
    · exact plain he
  case call c =>
    obtain ⟨callee, args, ats⟩ := c
    have hv := hs.evs args.toList
    have ea : args.map a.eval = (args.toList.map a.eval).toArray := map_toArray _ _
    have run : ∀ (b : Builtin) (r : Value) (w' : World), callee = .builtin b → (builtin b ats type (args.map fun | .const _ => true | _ => false) (args.map a.eval)).run P w = .ok (.value r) w' →
        (execOp a.eval ⟨dst, .call ⟨callee, args, ats⟩, type, pos, after, guard⟩).run P w = .ok (.value r) w' := by
      intro b r w' hb hr'
      subst hb
      simp only [execOp, resolve, Sem.run_bind, Sem.run_pure, Result.andThen_ok, invoke]
      exact hr'
    split at he
    · rename_i hb
      simp only at hb he
      split at he <;> first | exact he.elim | skip
      rename_i sa xa hsx
      rw [hsx] at hv
      simp only [VRs] at hv
      obtain ⟨sv, _, hargs, hsv, xv, _, rfl, hxv, rfl⟩ := hv
      have app : ∀ (r : Value) (w' : World), (Builtin.append_ ats type #[sv, xv]).run P w = .ok r w' → (execOp a.eval ⟨dst, .call ⟨callee, args, ats⟩, type, pos, after, guard⟩).run P w = .ok (.value r) w' := fun r w' hr' =>
        run .append r w' hb (by rw [ea, hargs]; exact run_value hr')
      unfold eAppend at he
      split at he <;> first | exact he.elim | skip
      rename_i t u ht0 hu0
      split at he <;> first | exact he.elim | skip
      rename_i e d ht hu
      obtain ⟨hd, he⟩ := he
      split at he <;> first | exact he.elim | skip
      rename_i es by' z m hes hby hz hm
      obtain ⟨⟨c1, c2⟩, c3, he⟩ := he
      simp only [szOf, Option.map_eq_some_iff] at hes
      obtain ⟨ii, hi, hes⟩ := hes
      simp only [byOf, hi, Option.map_some, Option.some.injEq] at hby
      simp only [zeOf, hi, Option.bind_some] at hz
      obtain ⟨news, n1, n2, n3, n4⟩ := src_cells (P := P) hm (Nat.le_refl _) c3 hr hxv c1
      have hlen := src_len (P := P) hm hxv w
      have hsame : ∀ (ad : Addr) (u : Value), w.cell? ad = some u → w.drew.cell? ad = some u := fun _ _ h => h
      have hgc : ∀ need old, need < 4611686018427387904 → need ≤ grownCap w need old e := fun need old _ => by
        simp only [grownCap, Question.cut]
        omega
      have newgood : ∀ (need old : Nat) (xs : List AVal) (vs : List Value), VRs φ xs vs → need < 4611686018427387904 → vs.length = need * es → (∀ k, h k = none → (e < 4096 → tyOf k = some e) → K (.slice (.own k) 0 need (.grow es)) (h.set k ⟨xs, 0⟩)) →
          (Builtin.append_ ats type #[sv, xv]).run P w = .ok (.slice (some ⟨w.heap.size, 0, none⟩) need (grownCap w need old e)) (w.drew.alloc (.cells (vs.toArray ++ Builtin.zeroCells z.cells (grownCap w need old e - need)) e)) →
          Oper.wp P ⟨dst, .call ⟨callee, args, ats⟩, type, pos, after, guard⟩ a w next Q := by
        intro need old xs vs hxs hlt hvl hK happ
        obtain ⟨k, hk, hφ, hke, hkt⟩ := hr.freshE e
        have hxl := VRs_length hxs
        have hG := hgc need old hlt
        generalize grownCap w need old e = G at *
        obtain ⟨e1, e2⟩ := hr.drew.alloc k hk hφ xs (vs.toArray ++ Builtin.zeroCells z.cells (G - need)) e 0 0 (by
          rw [← hxl]
          simpa [List.take_append] using hxs) no_frz hkt
        refine wp_value (app _ _ happ) (hn _ _ _ _ _ e1 e2 ?_ (hK k hk hke))
        simp only [VR]
        refine ⟨k, _, G, ⟨w.heap.size, 0, none⟩, rfl, PMap.upd_same _ _ _, rfl, hG, fun _ => ⟨rfl, ?_⟩⟩
        simp only [Array.size_append, List.size_toArray, size_zeroCells, c2, hvl]
        rw [Nat.zero_add, ← Nat.add_mul]
        congr 1
        omega
      split at he
      · simp only [VR] at hsv
        subst hsv
        by_cases hm0 : m = 0
        · subst hm0
          have hK := he.1 rfl
          refine wp_value (app (.slice none 0 0) w ?_) (hn φ _ _ _ _ φ.le_refl hr (by simp only [VR]) hK)
          have hd' : (∀ k : IntKind, ¬ d = .int k) := hd
          have hf0 : news = [] := List.eq_nil_of_length_eq_zero (by omega)
          have hnw := n1 w (fun _ _ h => h)
          rw [← hes, hf0] at hnw
          simp only [Builtin.append_]
          simp [ht0, hu0, run_underlying' ht, run_underlying' hu, sizeOf, typeInfo, hi, hlen, hnw]
        · obtain ⟨⟨b1, b2⟩, hK⟩ := he.2 hm0
          refine newgood m 0 _ news n2 b2 n3 hK ?_
          have := run_append_out (P := P) w ats t u type e ht0 hu0 ii z d ht hu hd hi hz (.slice none 0 0) xv none 0 0 m [] news rfl hlen (by simp [Builtin.firstCells]) (by rw [hes]; exact n1 _ hsame) (by omega) (by rw [hby]; simpa using b1) (by omega)
          simpa using this
      · rename_i l o len g
        obtain ⟨rfl, he⟩ := he
        split at he <;> first | exact he.elim | skip
        rename_i k
        split at he <;> first | exact he.elim | skip
        rename_i b hb
        obtain ⟨⟨b1, b2, b3, b4, b5, b6⟩, hK⟩ := he
        simp only [VR] at hsv
        obtain ⟨k0, p, c, ad, hk0, hp, rfl, hle, hc⟩ := hsv
        cases hk0
        obtain ⟨k', hk', hφ', hty'⟩ : ∃ k', h k' = none ∧ φ k' = none ∧ tyOf k' = if o = 0 then tyOf k else none := by
          split
          · exact hr.freshT k
          · exact hr.freshN
        have hkt' : o = 0 → tyOf k = some e → tyOf k' = some e := fun h0 h1 => by rw [hty', if_pos h0, h1]
        by_cases hroom : len + m ≤ c
        · obtain ⟨q, hq, _, ok⟩ := hr.own k b hb
          have hqp : q = p := by rw [hp] at hq; exact (Option.some.inj hq).symm
          subst hqp
          obtain ⟨cs, _, _, _, _, hrow2, hrow3, _⟩ := ok.row
          by_cases hc0 : c = 0
          · subst hc0
            obtain rfl : len = 0 := by omega
            obtain rfl : m = 0 := by omega
            have hnews : news = [] := List.eq_nil_of_length_eq_zero (by omega)
            obtain ⟨w', f1, f2, f3⟩ := own_extend (P := P) hr hb hp (o := o) (xs := srcCells w₀ h g 0 xa) (vs := []) (by rw [hnews] at n2; exact n2) b4 (by omega) (by rw [n4]; omega) b6 k' hk' hφ' hty'
            have hw : w' = w := by
              simp only [storeCells, Sem.run_pure, Result.ok.injEq, true_and] at f1
              exact f1.symm
            subst hw
            refine wp_value (app (.slice (some ad) 0 0) w' ?_) (hn _ _ _ _ _ f2 f3 ?_ (hK k' hk' hkt'))
            · have := run_append_in (P := P) w' w' ats t u type e ht0 hu0 ii d ht hu hd hi ad 0 0 0 xv [] hlen (by rw [hes, ← hnews]; exact n1 _ (fun _ _ h => h)) (by omega) (by simp [storeCells])
              simpa using this
            · simp only [VR]
              exact ⟨k', _, 0, ad, rfl, PMap.upd_same _ _ _, rfl, by omega, fun hne => absurd rfl hne⟩
          · obtain ⟨g1, g2⟩ := hc hc0
            have hfit : b.cells.length + (srcCells w₀ h g m xa).length ≤ q.room := by
              rw [n4, ← b1, ← g2, Nat.add_assoc, ← Nat.add_mul]
              exact Nat.add_le_add_left (Nat.mul_le_mul_right _ hroom) _
            obtain ⟨w', f1, f2, f3⟩ := own_extend (P := P) hr hb hp (o := o) n2 b4 (by omega) hfit b6 k' hk' hφ' hty'
            refine wp_value (app (.slice (some ad) (len + m) c) w' ?_) (hn _ _ _ _ _ f2 f3 ?_ (hK k' hk' hkt'))
            · refine run_append_in (P := P) w w' ats t u type e ht0 hu0 ii d ht hu hd hi ad len c m xv news hlen (by rw [hes]; exact n1 _ (fun _ _ h => h)) hroom ?_
              rw [hes]
              have : ad.add (len * g) = ⟨q.blk, q.off + b.cells.length, none⟩ := by
                have e0 : locAddr φ (.own k) o = some ad := by simp [locAddr, hp, g1]
                have e9 := locAddr_add (j := len * g) e0
                rw [b1] at e9
                simp only [locAddr, hp, Option.map_some, Option.some.injEq] at e9
                exact e9.symm
              rw [this]
              exact f1
            · simp only [VR]
              refine ⟨k', _, c, ad, rfl, PMap.upd_same _ _ _, rfl, hroom, fun _ => ⟨by simpa using g1, ?_⟩⟩
              simp only
              omega
        · obtain ⟨q, hq, _, ok⟩ := hr.own k b hb
          have hqp : q = p := by rw [hp] at hq; exact (Option.some.inj hq).symm
          subst hqp
          obtain ⟨cs, _, _, _, hrow1, hrow2, hrow3, hrow4, hrow5, _⟩ := ok.row
          -- the old cells
          have holds : ∃ olds : List Value, olds.length = len * g ∧ VRs φ (b.cells.drop o) olds ∧ (Builtin.firstCells g len (.slice (some ad) len c)).run P w.drew = .ok olds.toArray w.drew := by
            refine ⟨((cs.toList.drop q.off).take b.cells.length).drop o, by simp; omega, VRs_drop o hrow5, ?_⟩
            by_cases hl0 : len = 0
            · subst hl0
              have e9 : ((cs.toList.drop q.off).take b.cells.length).drop o = [] := List.eq_nil_of_length_eq_zero (by simp; omega)
              rw [e9]
              simp [Builtin.firstCells, loadCells, loadCellsFrom]
            · obtain ⟨g1, g2⟩ := hc (by omega)
              subst g1
              refine run_firstCells_some (P := P) w.drew g len _ len c _ (by simp; omega) ?_
              intro j v hj
              have hj1 : j < b.cells.length - o := by
                rcases Nat.lt_or_ge j (b.cells.length - o) with hx | hx
                · exact hx
                · rw [List.getElem?_eq_none (by simp; omega)] at hj; cases hj
              rw [List.getElem?_drop, List.getElem?_take, if_pos (by omega), List.getElem?_drop] at hj
              have e8 : (⟨q.blk, q.off + o, none⟩ : Addr).add j = ⟨q.blk, q.off + o + j, none⟩ := by
                unfold Addr.add
                by_cases hi : j = 0 <;> simp [hi]
              rw [e8]
              show w.cell? _ = _
              simp only [World.cell?, hrow1]
              simp only [Option.isSome_none, Bool.false_eq_true, if_false]
              rw [← hj]
              simp [Nat.add_assoc]
          obtain ⟨olds, ho1, ho2, ho3⟩ := holds
          obtain ⟨k2, hk2, hφ2, hke2, hkt2⟩ := hr.freshE e
          have hxs := VRs_append ho2 n2
          have hG := hgc (len + m) c b3
          have happ := run_append_out (P := P) w ats t u type e ht0 hu0 ii z d ht hu hd hi hz (.slice (some ad) len c) xv (some ad) len c m olds news rfl hlen (by rw [hes]; exact ho3) (by rw [hes]; exact n1 _ hsame) (by omega) (by rw [hby]; exact b2) b3
          generalize grownCap w (len + m) c e = G at *
          have hkk : k2 ≠ k := fun e => by subst e; rw [hb] at hk2; cases hk2
          have hrd : HRel w₀ φ (h.del k) w.drew := hr.drew.forget fun j b' hj => by
            by_cases e9 : j = k
            · subst e9; simp [AHeap.del] at hj
            · simpa [AHeap.del, e9] using hj
          have hxl := VRs_length hxs
          obtain ⟨e1, e2⟩ := hrd.alloc k2 (by simp [AHeap.del, hk2]) hφ2 (b.cells.drop o ++ srcCells w₀ h g m xa) ((olds ++ news).toArray ++ Builtin.zeroCells z.cells (G - (len + m))) e 0 0 (by
            rw [← hxl, Array.toList_append]
            simp only [List.take_left]
            exact hxs) no_frz hkt2
          have e3 : HRel w₀ (φ.upd k2 ⟨w.drew.heap.size, 0, ((olds ++ news).toArray ++ Builtin.zeroCells z.cells (G - (len + m))).size⟩) ((h.del k).set k2 ⟨b.cells.drop o ++ srcCells w₀ h g m xa, b.frz - o⟩) (w.drew.alloc (.cells ((olds ++ news).toArray ++ Builtin.zeroCells z.cells (G - (len + m))) e)) := by
            refine ⟨e2.below, fun j b' hj => ?_, ?_, e2.lt, e2.fin, e2.typ⟩
            · by_cases e9 : j = k2
              · subst e9
                rw [AHeap.set_same] at hj
                simp only [Option.some.injEq] at hj
                subst hj
                obtain ⟨p9, hp9, hp8, ok9⟩ := e2.own j _ (AHeap.set_same _ _ _)
                refine ⟨p9, hp9, hp8, ?_⟩
                obtain ⟨cs9, x1, x2, x3, y1, y2, y3, y4, y5, y6⟩ := ok9.row
                refine ⟨cs9, x1, x2, x3, y1, y2, y3, ?_, y5, y6.1, fun i i1 i2 => ?_⟩
                · simp only [List.length_append, List.length_drop]
                  omega
                · have := y6.2 i i1 i2
                  simp only at this ⊢
                  omega
              · rw [AHeap.set_ne _ _ e9] at hj
                exact e2.own j b' (by rw [AHeap.set_ne _ _ e9]; exact hj)
            · intro j j' b1 b2 p1 p2 g1 g2
              have conv : ∀ i bb, ((h.del k).set k2 ⟨b.cells.drop o ++ srcCells w₀ h g m xa, b.frz - o⟩ : AHeap) i = some bb → ∃ bb', ((h.del k).set k2 ⟨b.cells.drop o ++ srcCells w₀ h g m xa, 0⟩ : AHeap) i = some bb' := fun i bb hi => by
                by_cases e9 : i = k2
                · subst e9; exact ⟨_, AHeap.set_same _ _ _⟩
                · rw [AHeap.set_ne _ _ e9] at hi ⊢; exact ⟨bb, hi⟩
              obtain ⟨b1', g1'⟩ := conv j b1 g1
              obtain ⟨b2', g2'⟩ := conv j' b2 g2
              exact e2.inj j j' b1' b2' p1 p2 g1' g2'
          refine wp_value (app _ _ happ) (hn _ _ _ _ _ e1 e3 ?_ (hK k2 hk2 fun _ h1 => hke2 (tyOf_lt h1)))
          simp only [VR]
          refine ⟨k2, _, G, ⟨w.heap.size, 0, none⟩, rfl, PMap.upd_same _ _ _, rfl, hG, fun _ => ⟨rfl, ?_⟩⟩
          simp only [Array.size_append, List.size_toArray, size_zeroCells, c2, List.length_append, ho1, n3]
          rw [Nat.zero_add, ← Nat.add_mul, ← Nat.add_mul]
          congr 1
          omega
      · rename_i l o len c
        simp only [VR] at hsv
        obtain ⟨ad, rfl, hadd⟩ := hsv
        by_cases hroom : len + m ≤ c
        · rcases he.1 hroom with ⟨rfl, hK⟩ | ⟨hm0, hK⟩
          · refine wp_value (app (.slice (some ad) len c) w ?_) (hn φ _ _ _ _ φ.le_refl hr (by simp only [VR]; exact ⟨ad, rfl, hadd⟩) hK)
            have hnews : news = [] := List.eq_nil_of_length_eq_zero (by omega)
            have := run_append_in (P := P) w w ats t u type e ht0 hu0 ii d ht hu hd hi ad len c 0 xv [] hlen (by rw [hes, ← hnews]; exact n1 _ (fun _ _ h => h)) hroom (by simp [storeCells])
            simpa using this
          · split at hK <;> first | exact hK.elim | skip
            rename_i k
            split at hK <;> first | exact hK.elim | skip
            rename_i b hb
            obtain ⟨⟨b1, b2, b3⟩, hK⟩ := hK
            obtain ⟨q, hq, _, ok⟩ := hr.own k b hb
            have hloc := hadd (.inl (by omega))
            have hoa := locAddr_add (j := len * es) hloc
            simp only [locAddr, hq, Option.map_some, Option.some.injEq] at hoa hloc
            obtain ⟨w', f1, f2⟩ := own_write (P := P) hr hb hq (o := o + len * es) n2 b3 (by rw [n4]; omega) b2
            refine wp_value (app (.slice (some ad) (len + m) c) w' ?_) (hn φ _ _ _ _ φ.le_refl f2 ?_ hK)
            · refine run_append_in (P := P) w w' ats t u type e ht0 hu0 ii d ht hu hd hi ad len c m xv news hlen (by rw [hes]; exact n1 _ (fun _ _ h => h)) hroom ?_
              rw [hes, ← hoa]
              exact f1
            · simp only [VR]
              exact ⟨ad, rfl, fun _ => by simp [locAddr, hq, ← hloc]⟩
        · obtain ⟨⟨b1, b2, b3⟩, hK⟩ := he.2 (by omega)
          obtain ⟨olds, ho1, ho2, _, ho4⟩ := loadCells_ok (P := P) (l := l) (o := o) (n := len * es) (a := ad) hr (fun hne => hadd (.inr (by intro e9; apply hne; rw [e9, Nat.zero_mul]))) b1
          have hxs := VRs_append ho2 n2
          have happ := run_append_out (P := P) w ats t u type e ht0 hu0 ii z d ht hu hd hi hz (.slice (some ad) len c) xv (some ad) len c m olds news rfl hlen
            (by rw [hes]; exact run_firstCells_some (P := P) w.drew es len ad len c olds ho1 (fun j v hj => ho4 j v hj)) (by rw [hes]; exact n1 _ hsame) (by omega) (by rw [hby]; exact b2) b3
          exact newgood (len + m) c _ (olds ++ news) hxs b3 (by rw [List.length_append, ho1, n3, ← Nat.add_mul]) hK happ
      · exact he.elim
    · rename_i hb
      simp only at hb he
      split at he <;> first | exact he.elim | skip
      rename_i da xa hsx
      rw [hsx] at hv
      simp only [VRs] at hv
      obtain ⟨dv, _, hargs, hdv, xv, _, rfl, hxv, rfl⟩ := hv
      have app : ∀ (r : Value) (w' : World), (Builtin.copy_ ats type #[dv, xv]).run P w = .ok r w' → (execOp a.eval ⟨dst, .call ⟨callee, args, ats⟩, type, pos, after, guard⟩).run P w = .ok (.value r) w' := fun r w' hr' =>
        run .copy r w' hb (by rw [ea, hargs]; exact run_value hr')
      unfold eCopy at he
      split at he <;> first | exact he.elim | skip
      rename_i t ht0
      split at he <;> first | exact he.elim | skip
      rename_i e ht
      split at he <;> first | exact he.elim | skip
      rename_i es m hes hm
      obtain ⟨c1, he⟩ := he
      have hlen := src_len (P := P) hm hxv w
      have copied : ∀ (base : Option Addr) (dLen dCap k : Nat) (news : List Value) (w' : World), dv = .slice base dLen dCap → Nat.min m dLen = k → (Builtin.firstCells es k xv).run P w = .ok news.toArray w →
          (base = none ∧ w' = w ∨ ∃ ad, base = some ad ∧ (storeCells ad news).run P w = .ok () w') → (Builtin.copy_ ats type #[dv, xv]).run P w = .ok (.int .i64 (k : Nat)) w' := by
        intro base dLen dCap k news w' hd hk hf hst
        subst hd
        rcases hst with ⟨rfl, rfl⟩ | ⟨ad, rfl, hst⟩
        · simp [Builtin.copy_, ht0, run_underlying' ht, hlen, run_sizeOf' hes, hk, hf, goInt]
        · simp [Builtin.copy_, ht0, run_underlying' ht, hlen, run_sizeOf' hes, hk, hf, hst, goInt]
      split at he <;> first | exact he.elim | skip
      · obtain ⟨c3, hK⟩ := he
        simp only [VR] at hdv
        subst hdv
        obtain ⟨news, n1, n2, n3, n4⟩ := src_cells (P := P) hm (Nat.zero_le m) c3 hr hxv c1
        refine wp_value (app _ w (copied none 0 0 0 news w rfl (by simp [Nat.min]) (n1 w (fun _ _ h => h)) (.inl ⟨rfl, rfl⟩))) (hn φ _ _ _ _ φ.le_refl hr (by simp [VR]) hK)
      · rename_i l o len c
        obtain ⟨c3, he0, he1⟩ := he
        obtain ⟨ad, cap, rfl, ha⟩ := VR_slice_addr hdv
        obtain ⟨news, n1, n2, n3, n4⟩ := src_cells (P := P) hm (Nat.min_le_left m len) c3 hr hxv c1
        by_cases hz : min m len = 0
        · have hnews : news = [] := List.eq_nil_of_length_eq_zero (by rw [n3, hz, Nat.zero_mul])
          refine wp_value (app _ w (copied (some ad) len cap 0 [] w rfl hz (by rw [← hnews]; have := n1 w (fun _ _ h => h); rw [hz] at this; exact this) (.inr ⟨ad, rfl, by simp [storeCells]⟩))) (hn φ _ _ _ _ φ.le_refl hr (by simp [VR]) (he0 hz))
        · have hK := he1 hz
          split at hK <;> first | exact hK.elim | skip
          rename_i k
          split at hK <;> first | exact hK.elim | skip
          rename_i b hb
          obtain ⟨⟨b1, b2, b3⟩, hK⟩ := hK
          obtain ⟨q, hq, _, ok⟩ := hr.own k b hb
          have hloc := ha (by omega)
          simp only [locAddr, hq, Option.map_some, Option.some.injEq] at hloc
          obtain ⟨w', f1, f2⟩ := own_write (P := P) hr hb hq (o := o) n2 b3 (by rw [n4]; omega) b2
          rw [hloc] at f1
          exact wp_value (app _ w' (copied (some ad) len cap (min m len) news w' rfl rfl (n1 w (fun _ _ h => h)) (.inr ⟨ad, rfl, f1⟩))) (hn φ _ _ _ _ φ.le_refl f2 (by simp [VR]) hK)
    · rename_i f hb
      simp only at hb he
      subst hb
      split at he <;> first | exact he.elim | skip
      rename_i fid cap hf
      have hfv := hs.ev f
      rw [hf] at hfv
      simp only [VR] at hfv
      obtain ⟨vs, hfe, hcap⟩ := hfv
      have hland := he φ (args.toList.map a.eval ++ vs) w hr (VRs_append hv hcap)
      refine wp_lands (f := fid) (vals := (args.toList.map a.eval ++ vs).toArray) ?_ hland fun v w' ⟨ψ, x, h', e1, e2, e3, e4⟩ => hn ψ x h' v w' e1 e2 e3 e4
      simp only [execOp, resolve, hfe, Deferred.ofValue, Sem.run_bind, Sem.run_pure, Result.andThen_ok, invoke]
      rw [ea]
      simp
    · exact plain he

end Go.AM

/-
  An assertion layer over the model's wp, part H: the operations of a statement one behind the other, statements, loops, functions.
  Conditions: none. Nothing here is about a particular program.
-/
namespace Go.AM
open Go.RowKit (Below)

/-! ### The operations of a statement, in the order of the text -/
def nthDst : List Oper → Nat → Option Tmp
  | [], _ => none
  | o :: _, 0 => o.dst
  | _ :: r, j + 1 => nthDst r j

theorem nthDst_eq : ∀ (l : List Oper) (j : Nat), nthDst l j = (l[j]?).bind (·.dst)
  | [], j => by simp [nthDst]
  | o :: r, 0 => by simp [nthDst]
  | o :: r, j + 1 => by simp [nthDst, nthDst_eq r j]

def putD (s : Slots) : Option Tmp → AVal → Slots
  | none, _ => s
  | some d, x => s.put d x

def guardB : AVal → Bool → Bool
  | .bool b, want => b == want
  | _, _ => false

def gKnown : AVal → Bool
  | .bool _ => true
  | .tuple [] => true
  | _ => false

def condV (g : Bool) (v : AVal) : AVal := bif g then v else .tuple []

def pureOp (P : Program) : Op → Bool
  | .alloc _ => false
  | .box _ _ => false
  | .buildSlice _ _ _ => false
  | .store _ _ _ => false
  | .makeSlice _ _ _ => false
  | .convert src dst _ => !eStrBytes P src dst && !eSame P src dst
  | .call c => match c.callee with
    | .builtin .append => false
    | .builtin .copy => false
    | .builtin _ => true
    | _ => false
  | _ => true

theorem eop_pure {P : Program} {w₀ : World} {h : AHeap} {s : Slots} {op : Op} {K : AVal → AHeap → Prop} (hp : pureOp P op = true) : eop P w₀ h s op K ↔ (pop P w₀ h s op).pre ∧ K (pop P w₀ h s op).val h := by
  cases op <;> simp only [pureOp] at hp <;> first
    | (cases hp; done)
    | exact Iff.rfl
    | skip
  case convert src dst x =>
    simp only [Bool.and_eq_true, Bool.not_eq_true'] at hp
    simp only [eop, hp.1, hp.2, Bool.false_eq_true, if_false]
    split <;> exact Iff.rfl
  case call c =>
    obtain ⟨callee, args, ts⟩ := c
    cases callee with
    | value f => simp at hp
    | invoke r m => simp [eop]
    | builtin b => cases b <;> first | (simp at hp; done) | exact Iff.rfl

def aOps (P : Program) (w₀ : World) (ops : List Oper) : List Oper → Slots → AHeap → (Slots → AHeap → Prop) → Prop
  | [], s, h, K => K s h
  | o :: rest, s, h, K =>
    match o.guard with
    | none => eop P w₀ h s o.op fun x h' => aOps P w₀ ops rest (putD s o.dst x) h' K
    | some (j, want) => match nthDst ops j with
      | none => aOps P w₀ ops rest (putD s o.dst (.tuple [])) h K
      | some d => gKnown (s.get d) = true ∧
        if pureOp P o.op = true then
          (guardB (s.get d) want = true → (pop P w₀ h s o.op).pre) ∧ aOps P w₀ ops rest (putD s o.dst (condV (guardB (s.get d) want) (pop P w₀ h s o.op).val)) h K
        else
          (guardB (s.get d) want = true → eop P w₀ h s o.op fun x h' => aOps P w₀ ops rest (putD s o.dst x) h' K) ∧
          (guardB (s.get d) want = false → aOps P w₀ ops rest (putD s o.dst (.tuple [])) h K)

def dstsOk (n : Nat) : List Oper → Bool
  | [] => true
  | o :: r => (match o.dst with | some d => decide (d < n) | none => true) && dstsOk n r

theorem SRel.putD {φ : PMap} {n : Nat} {s : Slots} {a : Act} (h : SRel φ n s a) {d : Option Tmp} (hd : (match d with | some d => decide (d < n) | none => true) = true) {x : AVal} {v : Value} (hv : VR φ x v) :
    SRel φ n (putD s d x) (a.put d v) := by
  cases d with
  | none => exact h
  | some d => exact h.put d (by simpa using hd) hv

theorem guard_ok {φ : PMap} {n : Nat} {s : Slots} {a : Act} (hs : SRel φ n s a) (ops : List Oper) (j d : Nat) (hd : nthDst ops j = some d) (hn : d < n) (hk : gKnown (s.get d) = true) (want : Bool) :
    (yielded ops.toArray a.tmps j == some want) = guardB (s.get d) want := by
  have hv := hs.val d
  have hdst : ((ops.toArray[j]?).bind (·.dst)) = some d := by
    rw [← hd, nthDst_eq]
    simp
  have hget : a.tmps[d]? = some (a.tmps.getD d undef) := by
    have : d < a.tmps.size := by rw [hs.size]; exact hn
    simp [this]
  unfold yielded
  rw [hdst]
  simp only [Option.bind_some, hget]
  generalize a.tmps.getD d undef = v at hv
  unfold gKnown at hk
  split at hk
  · rename_i b hb
    rw [hb] at hv ⊢
    simp only [VR] at hv
    subst hv
    simp only [guardB]
    cases b <;> cases want <;> rfl
  · rename_i hb
    rw [hb] at hv ⊢
    simp only [VR, VRs] at hv
    obtain ⟨vs, rfl, rfl⟩ := hv
    simp [guardB]
  · cases hk

theorem aOps_ok {P : Program} {w₀ : World} (ops : List Oper) (n : Nat) (hall : dstsOk n ops = true) : ∀ (l : List Oper) (i : Nat) (φ : PMap) (s : Slots) (h : AHeap) (a : Act) (w : World) (K : Slots → AHeap → Prop) (Q : Exit → Act → World → Prop),
    (∀ j, l[j]? = ops[i + j]?) → dstsOk n l = true → aOps P w₀ ops l s h K → HRel w₀ φ h w → SRel φ n s a →
    (∀ ψ s' h' a' w', φ.le ψ → HRel w₀ ψ h' w' → SRel ψ n s' a' → K s' h' → Q .normal a' w') → wpOps P ops.toArray Q (List.range' i l.length) a w
  | [], i, φ, s, h, a, w, K, Q, _, _, ha, hr, hs, hq => hq φ s h a w φ.le_refl hr hs ha
  | o :: l, i, φ, s, h, a, w, K, Q, hl, hd, ha, hr, hs, hq => by
    have ho : ops.toArray[i]? = some o := by
      have := hl 0
      simp only [List.getElem?_cons_zero, Nat.add_zero] at this
      simp [← this]
    simp only [dstsOk, Bool.and_eq_true] at hd
    have hrest : ∀ j, l[j]? = ops[i + 1 + j]? := fun j => by
      have := hl (j + 1)
      simp only [List.getElem?_cons_succ] at this
      rw [this]
      congr 1
      omega
    have ih := fun φ s h a w Q => aOps_ok (P := P) (w₀ := w₀) ops n hall l (i + 1) φ s h a w K Q hrest hd.2
    have run : ∀ (K' : AVal → AHeap → Prop), eop P w₀ h s o.op K' → (∀ x h', K' x h' → aOps P w₀ ops l (putD s o.dst x) h' K) → o.wp P a w (wpOps P ops.toArray Q (List.range' (i + 1) l.length)) Q := fun K' he hk =>
      eop_ok o he hr hs fun ψ x h' v w' e1 e2 e3 e4 => ih ψ _ h' _ w' Q (hk x h' e4) e2 ((hs.mono e1).putD hd.1 e3) fun χ s' h'' a' w'' f1 f2 f3 f4 => hq χ s' h'' a' w'' (PMap.le_trans e1 f1) f2 f3 f4
    have skip : aOps P w₀ ops l (putD s o.dst (.tuple [])) h K → wpOps P ops.toArray Q (List.range' (i + 1) l.length) (a.put o.dst undef) w := fun hk =>
      ih φ _ h _ w Q hk hr (hs.putD hd.1 (VR_undef φ)) hq
    simp only [List.length_cons, List.range'_succ, wpOps, ho]
    simp only [aOps] at ha
    cases hg : o.guard with
    | none =>
      simp only [hg] at ha
      have hw : Region.wanted o (yielded ops.toArray a.tmps) = true := by simp [Region.wanted, hg]
      rw [if_pos hw]
      exact .inl (run _ ha fun _ _ hk => hk)
    | some gw =>
      obtain ⟨j, want⟩ := gw
      simp only [hg] at ha
      have hwanted : Region.wanted o (yielded ops.toArray a.tmps) = (yielded ops.toArray a.tmps j == some want) := by simp [Region.wanted, hg]
      cases hj : nthDst ops j with
      | none =>
        simp only [hj] at ha
        have hn : (ops.toArray[j]?).bind (·.dst) = none := by
          rw [← hj, nthDst_eq]
          simp
        have hw : Region.wanted o (yielded ops.toArray a.tmps) = false := by
          rw [hwanted]
          simp only [yielded, hn]
          rfl
        rw [if_neg (by simp [hw])]
        exact skip ha
      | some d =>
        simp only [hj] at ha
        obtain ⟨hk, ha⟩ := ha
        have hdn : d < n := by
          have : ∀ (l : List Oper) (j d : Nat), dstsOk n l = true → nthDst l j = some d → d < n := by
            intro l
            induction l with
            | nil => intro j d _ h; simp [nthDst] at h
            | cons o r ih =>
              intro j d h1 h2
              simp only [dstsOk, Bool.and_eq_true] at h1
              cases j with
              | zero => simp only [nthDst] at h2; rw [h2] at h1; simpa using h1.1
              | succ j => exact ih j d h1.2 h2
          exact this ops j d hall hj
        have hgd := guard_ok hs ops j d hj hdn hk want
        rw [hwanted, hgd]
        split at ha
        · rename_i hp
          obtain ⟨h1, h2⟩ := ha
          cases hb : guardB (s.get d) want with
          | true =>
            simp only [hb, condV, cond_true] at h2
            simp only [if_true]
            exact .inl (run (fun x h' => x = (pop P w₀ h s o.op).val ∧ h' = h) ((eop_pure hp).2 ⟨h1 hb, rfl, rfl⟩) fun x h' ⟨e1, e2⟩ => by subst e1 e2; exact h2)
          | false =>
            simp only [hb, condV, cond_false] at h2
            simp only [Bool.false_eq_true, if_false]
            exact skip h2
        · obtain ⟨h1, h2⟩ := ha
          cases hb : guardB (s.get d) want with
          | true =>
            simp only [if_true]
            exact .inl (run _ (h1 hb) fun _ _ hk => hk)
          | false =>
            simp only [Bool.false_eq_true, if_false]
            exact skip (h2 hb)

/-! ### Statements -/
def Awp (P : Program) (w₀ : World) (n : Nat) (c : Code) (Q : Exit → Slots → AHeap → Prop) (s : Slots) (h : AHeap) : Prop :=
  ∀ (φ : PMap) (a : Act) (w : World), HRel w₀ φ h w → SRel φ n s a →
    c.wp P (fun e a' w' => ∃ ψ s' h', φ.le ψ ∧ HRel w₀ ψ h' w' ∧ SRel ψ n s' a' ∧ Q e s' h') a w

section
variable {P : Program} {w₀ : World} {n : Nat} {s : Slots} {h : AHeap} {Q : Exit → Slots → AHeap → Prop}

theorem Awp.mono {c : Code} {Q' : Exit → Slots → AHeap → Prop} (hc : Awp P w₀ n c Q s h) (hq : ∀ e s h, Q e s h → Q' e s h) : Awp P w₀ n c Q' s h :=
  fun φ a w hr hs => wp_mono (hc φ a w hr hs) fun _ _ _ ⟨ψ, s', h', e1, e2, e3, e4⟩ => ⟨ψ, s', h', e1, e2, e3, hq _ _ _ e4⟩

/-- Slots and blocks may be forgotten. -/
theorem Awp.weaken {c : Code} {s' : Slots} (hs' : ∀ i, s'.get i = s.get i ∨ s'.get i = .dead) (hc : Awp P w₀ n c Q s' h) : Awp P w₀ n c Q s h :=
  fun φ a w hr hs => hc φ a w hr ⟨hs.size, hs.defers, fun i => by
    rcases hs' i with e | e
    · rw [e]; exact hs.val i
    · rw [e]; simp [VR]⟩

theorem Awp.keep {c : Code} (L : List Nat) (hc : Awp P w₀ n c Q (s.keep L) h) : Awp P w₀ n c Q s h :=
  hc.weaken fun i => by
    rw [Slots.get_keep]
    split
    · exact .inl rfl
    · exact .inr rfl

theorem Awp.forget {c : Code} {h' : AHeap} (hh : ∀ k b, h' k = some b → h k = some b) (hc : Awp P w₀ n c Q s h') : Awp P w₀ n c Q s h :=
  fun φ a w hr hs => hc φ a w (hr.forget hh) hs

theorem awp_skip (hq : Q .normal s h) : Awp P w₀ n .skip Q s h := fun φ _ _ hr hs => wp_skip ⟨φ, s, h, φ.le_refl, hr, hs, hq⟩
theorem awp_exit {id : Nat} (hq : Q (.exit id) s h) : Awp P w₀ n (.exit id) Q s h := fun φ _ _ hr hs => wp_exit ⟨φ, s, h, φ.le_refl, hr, hs, hq⟩
theorem awp_ret (hq : Q .ret s h) : Awp P w₀ n .ret Q s h := fun φ _ _ hr hs => wp_ret ⟨φ, s, h, φ.le_refl, hr, hs, hq⟩

def thenA (K : Slots → AHeap → Prop) (Q : Exit → Slots → AHeap → Prop) : Exit → Slots → AHeap → Prop
  | .normal, s, h => K s h
  | e, s, h => Q e s h

theorem awp_seq {x y : Code} (hx : Awp P w₀ n x (thenA (Awp P w₀ n y Q) Q) s h) : Awp P w₀ n (.seq x y) Q s h :=
  fun φ a w hr hs => wp_seq (wp_mono (hx φ a w hr hs) fun e a' w' ⟨ψ, s', h', e1, e2, e3, e4⟩ => by
    cases e <;> simp only [thenA] at e4 <;> simp only [Exit.then] <;> first
      | exact ⟨ψ, s', h', e1, e2, e3, e4⟩
      | exact wp_mono (e4 ψ a' w' e2 e3) fun _ _ _ ⟨χ, s'', h'', f1, f2, f3, f4⟩ => ⟨χ, s'', h'', PMap.le_trans e1 f1, f2, f3, f4⟩)

theorem awp_cond {c : Operand} {x y : Code} {b : Bool} (hc : ev s c = .bool b) (ht : b = true → Awp P w₀ n x Q s h) (hf : b = false → Awp P w₀ n y Q s h) : Awp P w₀ n (.cond c x y) Q s h :=
  fun φ a w hr hs => by
    have hv := hs.ev c
    rw [hc] at hv
    simp only [VR] at hv
    exact wp_cond_split hv (fun e => ht e φ a w hr hs) (fun e => hf e φ a w hr hs)

def inBlockA (id : Nat) (Q : Exit → Slots → AHeap → Prop) : Exit → Slots → AHeap → Prop
  | .exit id', s, h => if id' = id then Q .normal s h else Q (.exit id') s h
  | e, s, h => Q e s h

theorem awp_block {id : Nat} {c : Code} (hc : Awp P w₀ n c (inBlockA id Q) s h) : Awp P w₀ n (.block id c) Q s h :=
  fun φ a w hr hs => wp_block (wp_mono (hc φ a w hr hs) fun e a' w' ⟨ψ, s', h', e1, e2, e3, e4⟩ => by
    cases e <;> simp only [inBlockA] at e4 <;> simp only [Exit.inBlock] <;> first
      | exact ⟨ψ, s', h', e1, e2, e3, e4⟩
      | (split at e4
         · rename_i hid; rw [if_pos hid]; exact ⟨ψ, s', h', e1, e2, e3, e4⟩
         · rename_i hid; rw [if_neg hid]; exact ⟨ψ, s', h', e1, e2, e3, e4⟩))

theorem awp_region {id : Nat} {l : List Oper} (hd : dstsOk n l = true) (hc : aOps P w₀ l l s h (fun s' h' => Q .normal s' h')) : Awp P w₀ n (.region id l.toArray false) Q s h :=
  fun φ a w hr hs => wp_region (by
    have := aOps_ok (P := P) (w₀ := w₀) l n hd l 0 φ s h a w _ (fun e a' w' => ∃ ψ s' h', φ.le ψ ∧ HRel w₀ ψ h' w' ∧ SRel ψ n s' a' ∧ Q e s' h') (fun j => by simp) hd hc hr hs
      (fun ψ s' h' a' w' e1 e2 e3 e4 => ⟨ψ, s', h', e1, e2, e3, e4⟩)
    rw [List.size_toArray, List.range_eq_range']
    exact this)

/-- A statement and what follows; of the slots only those of L are kept. -/
theorem awp_rseq {id : Nat} {l : List Oper} {y : Code} (L : List Nat) (hd : dstsOk n l = true)
    (hc : ∀ K : Slots → AHeap → Prop, (∀ s h, Awp P w₀ n y Q s h → K s h) → aOps P w₀ l l s h (fun s' h' => K (s'.keep L) h')) : Awp P w₀ n (.seq (.region id l.toArray false) y) Q s h :=
  awp_seq (awp_region hd (hc (fun s h => Awp P w₀ n y Q s h) (fun _ _ hk => hk) |> aOps_mono fun s' h' hk => Awp.keep L hk))
where
  aOps_mono {l ops : List Oper} {s : Slots} {h : AHeap} {K K' : Slots → AHeap → Prop} (hk : ∀ s h, K s h → K' s h) (ha : aOps P w₀ ops l s h K) : aOps P w₀ ops l s h K' := by
    induction l generalizing s h with
    | nil => exact hk _ _ ha
    | cons o l ih =>
      simp only [aOps] at ha ⊢
      split
      · rename_i hg
        simp only [hg] at ha
        exact eop_mono ha fun x h' => ih
      · rename_i j want hg
        simp only [hg] at ha
        split
        · rename_i hj
          simp only [hj] at ha
          exact ih ha
        · rename_i d hj
          simp only [hj] at ha
          refine ⟨ha.1, ?_⟩
          obtain ⟨_, ha⟩ := ha
          split
          · rename_i hp
            rw [if_pos hp] at ha
            exact ⟨ha.1, ih ha.2⟩
          · rename_i hp
            rw [if_neg hp] at ha
            exact ⟨fun hb => eop_mono (ha.1 hb) fun x h' => ih, fun hb => ih (ha.2 hb)⟩

theorem least_exists {p : Nat → Prop} : ∀ k, p k → ∃ j, p j ∧ ∀ i, p i → j ≤ i := by
  intro k
  induction k using Nat.strongRecOn with
  | _ k ih =>
    intro hk
    by_cases hs : ∃ i, i < k ∧ p i
    · obtain ⟨i, h1, h2⟩ := hs
      exact ih i h1 h2
    · exact ⟨k, hk, fun i hi => Nat.le_of_not_lt fun hlt => hs ⟨i, hlt, hi⟩⟩

noncomputable def leastOf (p : Nat → Prop) : Nat := open Classical in if h : ∃ j, p j ∧ ∀ i, p i → j ≤ i then Classical.choose h else 0

theorem leastOf_spec {p : Nat → Prop} (h : ∃ k, p k) : p (leastOf p) ∧ ∀ i, p i → leastOf p ≤ i := by
  obtain ⟨k, hk⟩ := h
  have h' := least_exists k hk
  unfold leastOf
  rw [dif_pos h']
  exact Classical.choose_spec h'

/-- A loop: I holds at each round's head, and m goes down. -/
theorem awp_loop {c : Code} (I : Slots → AHeap → Prop) (m : Slots → AHeap → Nat) (h0 : I s h)
    (round : ∀ s h, I s h → Awp P w₀ n c (thenA (fun s' h' => ∃ s'', (∀ i, s''.get i = s'.get i ∨ s''.get i = .dead) ∧ I s'' h' ∧ m s'' h' < m s h) Q) s h) : Awp P w₀ n (.loop c) Q s h := by
  intro φ a w hr hs
  let S : Act → World → Nat → Prop := fun a' w' k => ∃ φ' s' h', φ.le φ' ∧ HRel w₀ φ' h' w' ∧ SRel φ' n s' a' ∧ I s' h' ∧ m s' h' = k
  refine wp_loop (fun a' w' => ∃ k, S a' w' k) (fun a' w' => leastOf (S a' w')) ⟨_, φ, s, h, φ.le_refl, hr, hs, h0, rfl⟩ fun a' w' hI => ?_
  obtain ⟨⟨φ', s', h', e1, e2, e3, e4, e5⟩, hmin⟩ := leastOf_spec hI
  refine wp_mono (round s' h' e4 φ' a' w' e2 e3) fun e a1 w1 ⟨ψ, s1, h1, f1, f2, f3, f4⟩ => ?_
  cases e <;> simp only [thenA] at f4 <;> simp only [Exit.then] <;> first
    | exact ⟨ψ, s1, h1, PMap.le_trans e1 f1, f2, f3, f4⟩
    | skip
  obtain ⟨s2, hs2, hI2, hlt⟩ := f4
  have hs3 : SRel ψ n s2 a1 := ⟨f3.size, f3.defers, fun i => by
    rcases hs2 i with e | e
    · rw [e]; exact f3.val i
    · rw [e]; simp [VR]⟩
  have hS : S a1 w1 (m s2 h1) := ⟨ψ, s2, h1, PMap.le_trans e1 f1, f2, hs3, hI2, rfl⟩
  refine ⟨⟨_, hS⟩, ?_⟩
  have := (leastOf_spec ⟨_, hS⟩).2 _ hS
  omega
end

end Go.AM

/-
  An assertion layer over the model's wp, part I: statements whose order is open; functions; how a law's proof begins.
  Conditions: none. Nothing here is about a particular program.
-/
namespace Go.AM
open Go.RowKit (Below)

section
variable {P : Program} {w₀ : World} {n : Nat} {s : Slots} {h : AHeap} {Q : Exit → Slots → AHeap → Prop}

/-- A statement alone. -/
theorem awp_r {id : Nat} {l : List Oper} (L : List Nat) (hd : dstsOk n l = true) (hc : aOps P w₀ l l s h (fun s' h' => Q .normal (s'.keep L) h')) : Awp P w₀ n (.region id l.toArray false) Q s h :=
  fun φ a w hr hs => wp_mono (awp_region (Q := fun e s' h' => Q e (if e matches .normal then s'.keep L else s') h') hd hc φ a w hr hs) fun e a' w' ⟨ψ, s', h', e1, e2, e3, e4⟩ => by
    cases e <;> first
      | exact ⟨ψ, s', h', e1, e2, e3, e4⟩
      | exact ⟨ψ, s'.keep L, h', e1, e2, e3.keep L, e4⟩
end

/-! ### Functions -/
def resV (P : Program) (w₀ : World) (s : Slots) (h : AHeap) : ResultVar → PR
  | .tmp t => ⟨True, s.get t⟩
  | .cell a t => pLoad P w₀ h t (s.get a)

def resPre (P : Program) (w₀ : World) (s : Slots) (h : AHeap) : List ResultVar → Prop
  | [] => True
  | r :: rs => (resV P w₀ s h r).pre ∧ resPre P w₀ s h rs

def resOf (P : Program) (w₀ : World) (s : Slots) (h : AHeap) : List ResultVar → AVal
  | [r] => (resV P w₀ s h r).val
  | rs => .tuple (rs.map fun r => (resV P w₀ s h r).val)

/-- Behind a function: what it returns; blocks may be forgotten. -/
def retA (P : Program) (w₀ : World) (rs : List ResultVar) (R : AVal → AHeap → Prop) : Exit → Slots → AHeap → Prop
  | .normal, s, h => resPre P w₀ s h rs ∧ ∃ h', (∀ k b, h' k = some b → h k = some b) ∧ R (resOf P w₀ s h rs) h'
  | .ret, s, h => resPre P w₀ s h rs ∧ ∃ h', (∀ k b, h' k = some b → h k = some b) ∧ R (resOf P w₀ s h rs) h'
  | _, _, _ => False

def initSlots : Nat → List AVal → Slots
  | _, [] => []
  | k, x :: xs => (k, x) :: initSlots (k + 1) xs

theorem initSlots_get (φ : PMap) : ∀ (xs : List AVal) (vs : List Value) (k i : Nat), VRs φ xs vs → (i < k → (initSlots k xs).get i = .dead) ∧ ∀ d, k ≤ i → VR φ ((initSlots k xs).get i) (vs.getD (i - k) d)
  | [], vs, k, i, _ => ⟨fun _ => rfl, fun _ _ => by simp [initSlots, Slots.get, VR]⟩
  | x :: xs, vs, k, i, h => by
    simp only [VRs] at h
    obtain ⟨v, vs', rfl, h1, h2⟩ := h
    obtain ⟨i1, i2⟩ := initSlots_get φ xs vs' (k + 1) i h2
    refine ⟨fun hlt => ?_, fun d hle => ?_⟩
    · simp only [initSlots, Slots.get]
      rw [if_neg (by omega)]
      exact i1 (by omega)
    · simp only [initSlots, Slots.get]
      by_cases e : i = k
      · subst e
        simpa using h1
      · rw [if_neg e]
        have := i2 d (by omega)
        rw [show i - k = (i - (k + 1)) + 1 by omega]
        simpa using this

def resSem (tmps : Array Value) : ResultVar → Sem Value
  | .tmp t => pure (tmps.getD t undef)
  | .cell a t => do loadVar t (← asAddr (tmps.getD a undef))

theorem results_ok {P : Program} {w₀ w : World} {φ : PMap} {n : Nat} {s : Slots} {h : AHeap} {a : Act} (hr : HRel w₀ φ h w) (hs : SRel φ n s a) (fn : Func) (hp : resPre P w₀ s h fn.results.toList) :
    ∃ v, (results fn a.tmps).run P w = .ok v w ∧ VR φ (resOf P w₀ s h fn.results.toList) v := by
  have one : ∀ r, (resV P w₀ s h r).pre → ∃ v, (resSem a.tmps r).run P w = .ok v w ∧ VR φ (resV P w₀ s h r).val v := by
    intro r hr'
    cases r with
    | tmp t => exact ⟨_, rfl, hs.val t⟩
    | cell b t =>
      simp only [resV] at hr' ⊢
      obtain ⟨r, h1, h2⟩ := pLoad_ok hr' hr (hs.val b)
      refine ⟨r, ?_, h2⟩
      have := h1 w (Same.refl w)
      have hv := hs.val b
      unfold pLoad at hr'
      split at hr'
      · rename_i l o hl
        rw [hl] at hv
        simp only [VR] at hv
        obtain ⟨ad, _, e2⟩ := hv
        rw [e2] at this
        simp only [resSem]
        rw [e2]
        simpa [Instr.loadAt, Instr.sureAddr, asAddr] using this
      · exact hr'.elim
  have all : ∀ rs : List ResultVar, resPre P w₀ s h rs → ∃ vs, (rs.mapM (resSem a.tmps)).run P w = .ok vs w ∧ VRs φ (rs.map fun r => (resV P w₀ s h r).val) vs := by
    intro rs
    induction rs with
    | nil => intro _; exact ⟨[], by simp, by simp [VRs]⟩
    | cons r rs ih =>
      intro hp
      simp only [resPre] at hp
      obtain ⟨v, e1, e2⟩ := one r hp.1
      obtain ⟨vs, e3, e4⟩ := ih hp.2
      refine ⟨v :: vs, ?_, by simp only [List.map_cons, VRs]; exact ⟨v, vs, rfl, e2, e4⟩⟩
      rw [List.mapM_cons, Sem.run_bind, e1, Result.andThen_ok, Sem.run_bind, e3]
      rfl
  obtain ⟨vs, e1, e2⟩ := all _ hp
  have hrun : (results fn a.tmps).run P w = .ok (if h : vs.toArray.size = 1 then vs.toArray[0] else .tuple vs.toArray) w := by
    have key : ∀ F : ResultVar → Sem Value, (∀ r, F r = resSem a.tmps r) → (List.mapM F fn.results.toList).run P w = .ok vs w := fun F hF => by
      rw [funext hF]; exact e1
    unfold results
    rw [Array.mapM_eq_mapM_toList]
    simp only [bind_map_left, Sem.run_bind]
    rw [key _ (fun r => by cases r <;> rfl)]
    rfl
  refine ⟨_, hrun, ?_⟩
  have hl := VRs_length e2
  simp only [List.length_map] at hl
  match hrs : fn.results.toList, e2, hl with
  | [], e2, hl =>
    obtain rfl : vs = [] := List.eq_nil_of_length_eq_zero (by simpa using hl)
    simp only [resOf, VR]
    exact ⟨[], by simp, by simp [VRs]⟩
  | [r], e2, hl =>
    simp only [List.map_cons, List.map_nil, VRs] at e2
    obtain ⟨v, _, rfl, h1, rfl⟩ := e2
    simpa [resOf] using h1
  | r :: r' :: rs, e2, hl =>
    have h2 : ¬ vs.toArray.size = 1 := by simp at hl ⊢; omega
    rw [dif_neg h2]
    simp only [resOf, VR]
    exact ⟨vs, rfl, e2⟩

/-- A function's contract, from its text. -/
theorem acall_intro {P : Program} {w₀ : World} {f : FuncId} {args : List AVal} {h : AHeap} {R : AVal → AHeap → Prop} {fn : Func} {c : Code} {rs : List ResultVar} {n : Nat} (hf : P.funcs[f]? = some fn)
    (hname : (fn.name == "runtime.NumGoroutine") = false) (hb : fn.body = some c) (hn : fn.ntmps = n) (hrs : fn.results = rs.toArray) (hargs : args.length ≤ n)
    (hc : Awp P w₀ n c (retA P w₀ rs R) (initSlots 0 args) h) : ACall P w₀ f args h R := by
  intro φ vals w hr hv
  refine .inl ⟨fn, hf, hname, by rw [hb]; rfl, ?_⟩
  have hl := VRs_length hv
  refine calls_of_wp hf hb (wp_mono (hc φ _ w hr ⟨?_, rfl, fun i => ?_⟩) fun e a' w' ⟨ψ, s', h', e1, e2, e3, e4⟩ => ?_)
  · simp [hn]
    omega
  · have := (initSlots_get φ args vals 0 i hv).2 undef (Nat.zero_le i)
    by_cases hi : i < vals.length
    · have e : (vals.toArray ++ Array.replicate (fn.ntmps - vals.toArray.size) undef).getD i undef = vals.getD i undef := by
        simp [Array.getD_eq_getD_getElem?, Array.getElem?_append, hi, List.getD]
      rw [e]
      simpa using this
    · have e : (vals.toArray ++ Array.replicate (fn.ntmps - vals.toArray.size) undef).getD i undef = undef := by
        simp [Array.getD_eq_getD_getElem?, Array.getElem?_append, hi, Array.getElem?_replicate]
        split <;> simp
      rw [e]
      have e2 : vals.getD (i - 0) undef = undef := by simp [List.getD, List.getElem?_eq_none (Nat.le_of_not_lt hi)]
      rw [e2] at this
      exact this
  · cases e <;> simp only [retA] at e4 <;> first
      | exact e4.elim
      | skip
    all_goals
      obtain ⟨hp, h'', hsub, hR⟩ := e4
      have hrs' : rs = fn.results.toList := by rw [hrs]
      rw [hrs'] at hp hR
      obtain ⟨v, f1, f2⟩ := results_ok e2 e3 fn hp
      exact ⟨e3.defers, v, f1, v, rfl, ψ, _, h'', e1, e2.forget hsub, f2, hR⟩

/-- How a law's walk comes out of its contract. -/
theorem law_of_acall {P : Program} {f : FuncId} {args : List AVal} {vals : List Value} {w : World} (hv : VRs (fun _ => none) args vals)
    (hc : ACall P w f args (fun _ => none) (fun x _ => x = .bool true)) (hcalls : ∃ fn, P.funcs[f]? = some fn ∧ fn.body.isSome = true) :
    Calls P f vals.toArray w fun e w' => e = .returned (.bool true) ∧ Below w.heap.size w w' := by
  rcases hc _ vals w (HRel.start w) hv with ⟨fn, _, _, _, h4⟩ | ⟨v, w', h1, ⟨ψ, x, h', e1, e2, e3, e4⟩⟩
  · refine h4.mono fun e w' ⟨v, he, ψ, x, h', e1, e2, e3, e4⟩ => ?_
    subst he e4
    simp only [VR] at e3
    subst e3
    exact ⟨rfl, e2.below⟩
  · exfalso
    obtain ⟨fn, g1, g2⟩ := hcalls
    have hb : ¬ fn.body = none := fun e => by rw [e] at g2; cases g2
    simp only [callFunc, Sem.run_bind, run_program, Result.andThen_ok, g1] at h1
    split at h1
    · simp at h1
    · simp [hb] at h1

end Go.AM

/-
  An assertion layer over the model's wp, part J: lemmas for walking a text.
  Conditions: none. Nothing here is about a particular program.
-/
namespace Go.AM

section
variable {P : Program} {w₀ : World} {ops rest : List Oper} {s : Slots} {h : AHeap} {K : Slots → AHeap → Prop}

theorem aOps_nil : aOps P w₀ ops [] s h K = K s h := rfl

/-- A reading operation that is guarded. -/
theorem aOps_g {dst : Option Tmp} {op : Op} {ty : TypeId} {pos : String} {af : Array Edge} {j d : Nat} {want : Bool} (hj : nthDst ops j = some d) (hp : pureOp P op = true) :
    aOps P w₀ ops (⟨dst, op, ty, pos, af, some (j, want)⟩ :: rest) s h K =
      (gKnown (s.get d) = true ∧ (guardB (s.get d) want = true → (pop P w₀ h s op).pre) ∧ aOps P w₀ ops rest (putD s dst (condV (guardB (s.get d) want) (pop P w₀ h s op).val)) h K) := by
  simp only [aOps, hj, hp, if_true]

/-- Another operation. -/
theorem aOps_e {dst : Option Tmp} {op : Op} {ty : TypeId} {pos : String} {af : Array Edge} :
    aOps P w₀ ops (⟨dst, op, ty, pos, af, none⟩ :: rest) s h K = eop P w₀ h s op fun x h' => aOps P w₀ ops rest (putD s dst x) h' K := rfl

/-- A reading operation that is not guarded. -/
theorem aOps_p {dst : Option Tmp} {op : Op} {ty : TypeId} {pos : String} {af : Array Edge} (hp : pureOp P op = true) :
    aOps P w₀ ops (⟨dst, op, ty, pos, af, none⟩ :: rest) s h K = ((pop P w₀ h s op).pre ∧ aOps P w₀ ops rest (putD s dst (pop P w₀ h s op).val) h K) := by
  rw [aOps_e]
  exact propext (eop_pure hp)

/-- Another operation that is guarded: the way on which it runs, and the other. -/
theorem aOps_ge {dst : Option Tmp} {op : Op} {ty : TypeId} {pos : String} {af : Array Edge} {j d : Nat} {want : Bool} (hj : nthDst ops j = some d) (hp : pureOp P op = false) (hk : gKnown (s.get d) = true)
    (h1 : guardB (s.get d) want = true → aOps P w₀ ops (⟨dst, op, ty, pos, af, none⟩ :: rest) s h K) (h2 : guardB (s.get d) want = false → aOps P w₀ ops rest (putD s dst (.tuple [])) h K) :
    aOps P w₀ ops (⟨dst, op, ty, pos, af, some (j, want)⟩ :: rest) s h K := by
  simp only [aOps, hj, hp]
  exact ⟨hk, h1, h2⟩

/-- A call. -/
theorem aOps_call {dst : Option Tmp} {fo : Operand} {args : Array Operand} {ts : Array TypeId} {ty : TypeId} {pos : String} {af : Array Edge} {f : FuncId} {cap xs : List AVal} {R : AVal → AHeap → Prop}
    (hf : ev s fo = .func f cap) (hx : evs s args.toList ++ cap = xs) (hc : ACall P w₀ f xs h R) (hk : ∀ x h', R x h' → aOps P w₀ ops rest (putD s dst x) h' K) :
    aOps P w₀ ops (⟨dst, .call ⟨.value fo, args, ts⟩, ty, pos, af, none⟩ :: rest) s h K := by
  rw [aOps_e]
  simp only [eop, hf, hx]
  exact hc.mono hk
end

theorem pickV_cond_l (c : Bool) (v w : AVal) : pickV c (condV c v) w = pickV c v w := by cases c <;> cases v <;> cases w <;> simp [pickV, condV]
theorem pickV_cond_r (c : Bool) (v w : AVal) : pickV c v (condV (!c) w) = pickV c v w := by cases c <;> cases v <;> cases w <;> simp [pickV, condV]
theorem guardB_bool_true (b : Bool) : guardB (.bool b) true = b := by cases b <;> rfl
theorem guardB_bool_false (b : Bool) : guardB (.bool b) false = !b := by cases b <;> rfl
theorem guardB_cond (g b : Bool) (want : Bool) : guardB (condV g (.bool b)) want = (g && guardB (.bool b) want) := by cases g <;> cases b <;> cases want <;> rfl
theorem gKnown_bool (b : Bool) : gKnown (.bool b) = true := rfl
theorem gKnown_cond (g b : Bool) : gKnown (condV g (.bool b)) = true := by cases g <;> rfl
theorem condV_true (v : AVal) : condV true v = v := rfl
theorem condV_false (v : AVal) : condV false v = .tuple [] := rfl

theorem wrap_i64 {n : Int} (h0 : -9223372036854775808 ≤ n) (h1 : n ≤ 9223372036854775807) : IntKind.i64.wrap n = n := by
  rw [IntKind.wrap_i64]; omega
theorem wrap_u8 {n : Int} (h0 : 0 ≤ n) (h1 : n ≤ 255) : IntKind.u8.wrap n = n := by
  unfold IntKind.wrap
  simp [IntKind.bits, IntKind.signed]
  omega

section
variable {P : Program}
theorem pu_move (x : Operand) : pureOp P (.move x) = true := rfl
theorem pu_assign (x : Operand) : pureOp P (.assign x) = true := rfl
theorem pu_pick (c a b : Operand) : pureOp P (.pick c a b) = true := rfl
theorem pu_binOp (o : BinOp) (t : TypeId) (x y : Operand) (u : TypeId) : pureOp P (.binOp o t x y u) = true := rfl
theorem pu_unOp (o : UnOp) (t : TypeId) (x : Operand) : pureOp P (.unOp o t x) = true := rfl
theorem pu_load (t : TypeId) (x : Operand) : pureOp P (.load t x) = true := rfl
theorem pu_fieldAddr (t : TypeId) (x : Operand) (f : Nat) : pureOp P (.fieldAddr t x f) = true := rfl
theorem pu_index (t : TypeId) (x i : Operand) : pureOp P (.index t x i) = true := rfl
theorem pu_indexAddr (t : TypeId) (x i : Operand) : pureOp P (.indexAddr t x i) = true := rfl
theorem pu_slice (t : TypeId) (x : Operand) (a b c : Option Operand) : pureOp P (.slice t x a b c) = true := rfl
theorem pu_extract (x : Operand) (i : Nat) : pureOp P (.extract x i) = true := rfl
theorem pu_nilCheck (x : Operand) : pureOp P (.nilCheck x) = true := rfl
theorem pu_build (t : TypeId) (p : Array (Nat × Operand)) : pureOp P (.build t p) = true := rfl
theorem pu_len (a : Array Operand) (t : Array TypeId) : pureOp P (.call ⟨.builtin .len, a, t⟩) = true := rfl
theorem pu_max (a : Array Operand) (t : Array TypeId) : pureOp P (.call ⟨.builtin .max, a, t⟩) = true := rfl
theorem pu_min (a : Array Operand) (t : Array TypeId) : pureOp P (.call ⟨.builtin .min, a, t⟩) = true := rfl
theorem pu_convert (s d : TypeId) (x : Operand) (h : (!eStrBytes P s d && !eSame P s d) = true) : pureOp P (.convert s d x) = true := h
end


/-! ### Each reading operation, bare and guarded -/
section
variable {P : Program} {w₀ : World} {ops rest : List Oper} {s : Slots} {h : AHeap} {K : Slots → AHeap → Prop} {dst : Option Tmp} {ty : TypeId} {pos : String} {af : Array Edge}
theorem ap_move (x : Operand) :
    aOps P w₀ ops (⟨dst, .move x, ty, pos, af, none⟩ :: rest) s h K = ((pop P w₀ h s (.move x)).pre ∧ aOps P w₀ ops rest (putD s dst (pop P w₀ h s (.move x)).val) h K) := aOps_p (pu_move x)
theorem ap_assign (x : Operand) :
    aOps P w₀ ops (⟨dst, .assign x, ty, pos, af, none⟩ :: rest) s h K = ((pop P w₀ h s (.assign x)).pre ∧ aOps P w₀ ops rest (putD s dst (pop P w₀ h s (.assign x)).val) h K) := aOps_p (pu_assign x)
theorem ap_pick (c a b : Operand) :
    aOps P w₀ ops (⟨dst, .pick c a b, ty, pos, af, none⟩ :: rest) s h K = ((pop P w₀ h s (.pick c a b)).pre ∧ aOps P w₀ ops rest (putD s dst (pop P w₀ h s (.pick c a b)).val) h K) := aOps_p (pu_pick c a b)
theorem ap_binOp (o : BinOp) (t : TypeId) (x y : Operand) (u : TypeId) :
    aOps P w₀ ops (⟨dst, .binOp o t x y u, ty, pos, af, none⟩ :: rest) s h K = ((pop P w₀ h s (.binOp o t x y u)).pre ∧ aOps P w₀ ops rest (putD s dst (pop P w₀ h s (.binOp o t x y u)).val) h K) := aOps_p (pu_binOp o t x y u)
theorem ap_unOp (o : UnOp) (t : TypeId) (x : Operand) :
    aOps P w₀ ops (⟨dst, .unOp o t x, ty, pos, af, none⟩ :: rest) s h K = ((pop P w₀ h s (.unOp o t x)).pre ∧ aOps P w₀ ops rest (putD s dst (pop P w₀ h s (.unOp o t x)).val) h K) := aOps_p (pu_unOp o t x)
theorem ap_load (t : TypeId) (x : Operand) :
    aOps P w₀ ops (⟨dst, .load t x, ty, pos, af, none⟩ :: rest) s h K = ((pop P w₀ h s (.load t x)).pre ∧ aOps P w₀ ops rest (putD s dst (pop P w₀ h s (.load t x)).val) h K) := aOps_p (pu_load t x)
theorem ap_fieldAddr (t : TypeId) (x : Operand) (f : Nat) :
    aOps P w₀ ops (⟨dst, .fieldAddr t x f, ty, pos, af, none⟩ :: rest) s h K = ((pop P w₀ h s (.fieldAddr t x f)).pre ∧ aOps P w₀ ops rest (putD s dst (pop P w₀ h s (.fieldAddr t x f)).val) h K) := aOps_p (pu_fieldAddr t x f)
theorem ap_index (t : TypeId) (x i : Operand) :
    aOps P w₀ ops (⟨dst, .index t x i, ty, pos, af, none⟩ :: rest) s h K = ((pop P w₀ h s (.index t x i)).pre ∧ aOps P w₀ ops rest (putD s dst (pop P w₀ h s (.index t x i)).val) h K) := aOps_p (pu_index t x i)
theorem ap_indexAddr (t : TypeId) (x i : Operand) :
    aOps P w₀ ops (⟨dst, .indexAddr t x i, ty, pos, af, none⟩ :: rest) s h K = ((pop P w₀ h s (.indexAddr t x i)).pre ∧ aOps P w₀ ops rest (putD s dst (pop P w₀ h s (.indexAddr t x i)).val) h K) := aOps_p (pu_indexAddr t x i)
theorem ap_slice (t : TypeId) (x : Operand) (a b c : Option Operand) :
    aOps P w₀ ops (⟨dst, .slice t x a b c, ty, pos, af, none⟩ :: rest) s h K = ((pop P w₀ h s (.slice t x a b c)).pre ∧ aOps P w₀ ops rest (putD s dst (pop P w₀ h s (.slice t x a b c)).val) h K) := aOps_p (pu_slice t x a b c)
theorem ap_extract (x : Operand) (i : Nat) :
    aOps P w₀ ops (⟨dst, .extract x i, ty, pos, af, none⟩ :: rest) s h K = ((pop P w₀ h s (.extract x i)).pre ∧ aOps P w₀ ops rest (putD s dst (pop P w₀ h s (.extract x i)).val) h K) := aOps_p (pu_extract x i)
theorem ap_nilCheck (x : Operand) :
    aOps P w₀ ops (⟨dst, .nilCheck x, ty, pos, af, none⟩ :: rest) s h K = ((pop P w₀ h s (.nilCheck x)).pre ∧ aOps P w₀ ops rest (putD s dst (pop P w₀ h s (.nilCheck x)).val) h K) := aOps_p (pu_nilCheck x)
theorem ap_build (t : TypeId) (p : Array (Nat × Operand)) :
    aOps P w₀ ops (⟨dst, .build t p, ty, pos, af, none⟩ :: rest) s h K = ((pop P w₀ h s (.build t p)).pre ∧ aOps P w₀ ops rest (putD s dst (pop P w₀ h s (.build t p)).val) h K) := aOps_p (pu_build t p)
theorem ap_len (a : Array Operand) (t : Array TypeId) :
    aOps P w₀ ops (⟨dst, .call ⟨.builtin .len, a, t⟩, ty, pos, af, none⟩ :: rest) s h K = ((pop P w₀ h s (.call ⟨.builtin .len, a, t⟩)).pre ∧ aOps P w₀ ops rest (putD s dst (pop P w₀ h s (.call ⟨.builtin .len, a, t⟩)).val) h K) := aOps_p (pu_len a t)
theorem ap_max (a : Array Operand) (t : Array TypeId) :
    aOps P w₀ ops (⟨dst, .call ⟨.builtin .max, a, t⟩, ty, pos, af, none⟩ :: rest) s h K = ((pop P w₀ h s (.call ⟨.builtin .max, a, t⟩)).pre ∧ aOps P w₀ ops rest (putD s dst (pop P w₀ h s (.call ⟨.builtin .max, a, t⟩)).val) h K) := aOps_p (pu_max a t)
theorem ap_min (a : Array Operand) (t : Array TypeId) :
    aOps P w₀ ops (⟨dst, .call ⟨.builtin .min, a, t⟩, ty, pos, af, none⟩ :: rest) s h K = ((pop P w₀ h s (.call ⟨.builtin .min, a, t⟩)).pre ∧ aOps P w₀ ops rest (putD s dst (pop P w₀ h s (.call ⟨.builtin .min, a, t⟩)).val) h K) := aOps_p (pu_min a t)
end

end Go.AM

/-
  An assertion layer over the model's wp, part K: what each operation gives, in the form in which a walk rewrites.
  Conditions: none. Nothing here is about a particular program.
-/
namespace Go.AM

/-! ### The reading operations behind names -/
def pPick (c a b : AVal) : PR :=
  match c with
  | .bool c => ⟨True, pickV c a b⟩
  | _ => .no
def pBinX (P : Program) (op : BinOp) (t : TypeId) (x y : AVal) : PR :=
  match x, y with
  | .agg xs, .agg ys => pAggEq P op t (.agg xs) (.agg ys)
  | a, b => pBin P op t a b
def pExt (x : AVal) (i : Nat) : PR :=
  match x with
  | .tuple vs => ⟨i < vs.length, vs.getD i .dead⟩
  | _ => .no
def pNil (x : AVal) : PR :=
  match x with
  | .ptr l o => ⟨True, .ptr l o⟩
  | .func f c => ⟨True, .func f c⟩
  | _ => .no
def pBuild (P : Program) (t : TypeId) (ps : List (Nat × AVal)) : PR :=
  match buildA P t ps with
  | some cs => ⟨True, .agg cs⟩
  | none => .no

section
variable {P : Program} {w₀ : World} {h : AHeap} {s : Slots}
theorem pop_move (x : Operand) : pop P w₀ h s (.move x) = ⟨True, ev s x⟩ := rfl
theorem pop_assign (x : Operand) : pop P w₀ h s (.assign x) = ⟨True, ev s x⟩ := rfl
theorem pop_pick (c a b : Operand) : pop P w₀ h s (.pick c a b) = pPick (ev s c) (ev s a) (ev s b) := rfl
theorem pop_binOp (o : BinOp) (t : TypeId) (x y : Operand) (u : TypeId) : pop P w₀ h s (.binOp o t x y u) = bif isNilC y then pIfNil P o t (ev s x) else pBinX P o t (ev s x) (ev s y) := rfl
theorem isNilC_tmp (j : Nat) : isNilC (.tmp j) = false := rfl
theorem isNilC_int (k : IntKind) (n : Int) : isNilC (.const (.int k n)) = false := rfl
theorem isNilC_str (b : ByteArray) : isNilC (.const (.string b)) = false := rfl
theorem pop_unOp (o : UnOp) (t : TypeId) (x : Operand) : pop P w₀ h s (.unOp o t x) = pUn o (ev s x) := rfl
theorem pop_convert (a b : TypeId) (x : Operand) : pop P w₀ h s (.convert a b x) = pConv P w₀ h a b (ev s x) := rfl
theorem pop_load (t : TypeId) (x : Operand) : pop P w₀ h s (.load t x) = pLoad P w₀ h t (ev s x) := rfl
theorem pop_fieldAddr (t : TypeId) (x : Operand) (f : Nat) : pop P w₀ h s (.fieldAddr t x f) = pFieldAddr P t (ev s x) f := rfl
theorem pop_index (t : TypeId) (x i : Operand) : pop P w₀ h s (.index t x i) = pIndex P t (ev s x) (ev s i) := rfl
theorem pop_indexAddr (t : TypeId) (x i : Operand) : pop P w₀ h s (.indexAddr t x i) = pIndexAddr P t (ev s x) (ev s i) := rfl
theorem pop_slice (t : TypeId) (x : Operand) (a b c : Option Operand) : pop P w₀ h s (.slice t x a b c) = pSlice P t (ev s x) (evO s a) (evO s b) (evO s c) := rfl
theorem pop_extract (x : Operand) (i : Nat) : pop P w₀ h s (.extract x i) = pExt (ev s x) i := rfl
theorem pop_nilCheck (x : Operand) : pop P w₀ h s (.nilCheck x) = pNil (ev s x) := rfl
theorem pop_build (t : TypeId) (ps : List (Nat × Operand)) : pop P w₀ h s (.build t ps.toArray) = pBuild P t (evP s ps) := rfl
theorem pop_len (x : Operand) (t : TypeId) (ts : List TypeId) : pop P w₀ h s (.call ⟨.builtin .len, [x].toArray, (t :: ts).toArray⟩) = pLen P t (ev s x) := rfl
theorem pop_max (a : List Operand) (t : Array TypeId) : pop P w₀ h s (.call ⟨.builtin .max, a.toArray, t⟩) = pMax (evs s a) := rfl
theorem pop_min (a : List Operand) (t : Array TypeId) : pop P w₀ h s (.call ⟨.builtin .min, a.toArray, t⟩) = pMin (evs s a) := rfl
end

/-! ### At values of a known shape -/
section
variable {P : Program}
theorem pPick_bool (c : Bool) (a b : AVal) : pPick (.bool c) a b = ⟨True, pickV c a b⟩ := rfl

def pIntX (op : BinOp) (k : IntKind) (a b : Int) : PR :=
  match op with
  | .shl => ⟨0 ≤ b, .int k (k.wrap (a * 2 ^ (min b.toNat k.bits)))⟩
  | .shr => ⟨0 ≤ b, .int k (a.fdiv (2 ^ (min b.toNat k.bits)))⟩
  | op => pInt op k a b

theorem pBinX_int (op : BinOp) (t : TypeId) (k : IntKind) (a b : Int) : pBinX P op t (.int k a) (.int k b) = pIntX op k a b := by
  cases op <;> simp [pBinX, pBin, pIntX]
theorem pBinX_str (op : BinOp) (t : TypeId) (a b : List UInt8) : pBinX P op t (.str a) (.str b) = pStr op a b := rfl
theorem pBinX_agg (op : BinOp) (t : TypeId) (a b : List AVal) : pBinX P op t (.agg a) (.agg b) = pAggEq P op t (.agg a) (.agg b) := rfl
theorem pBinX_beq (t : TypeId) (a b : Bool) : pBinX P .eql t (.bool a) (.bool b) = match P.underlying t with | some .bool => ⟨True, .bool (a == b)⟩ | _ => .no := rfl
theorem pI_add (k : IntKind) (a b : Int) : pIntX .add k a b = ⟨True, .int k (k.wrap (a + b))⟩ := rfl
theorem pI_sub (k : IntKind) (a b : Int) : pIntX .sub k a b = ⟨True, .int k (k.wrap (a - b))⟩ := rfl
theorem pI_quo (k : IntKind) (a b : Int) : pIntX .quo k a b = ⟨b ≠ 0, .int k (k.wrap (a.tdiv b))⟩ := rfl
theorem pI_rem (k : IntKind) (a b : Int) : pIntX .rem k a b = ⟨b ≠ 0, .int k (a.tmod b)⟩ := rfl
theorem pI_eql (k : IntKind) (a b : Int) : pIntX .eql k a b = ⟨True, .bool (decide (a = b))⟩ := rfl
theorem pI_neq (k : IntKind) (a b : Int) : pIntX .neq k a b = ⟨True, .bool (!decide (a = b))⟩ := rfl
theorem pI_lss (k : IntKind) (a b : Int) : pIntX .lss k a b = ⟨True, .bool (decide (a < b))⟩ := rfl
theorem pI_gtr (k : IntKind) (a b : Int) : pIntX .gtr k a b = ⟨True, .bool (decide (b < a))⟩ := rfl
theorem pI_geq (k : IntKind) (a b : Int) : pIntX .geq k a b = ⟨True, .bool (decide (b ≤ a))⟩ := rfl
theorem pS_add (a b : List UInt8) : pStr .add a b = ⟨a.length + b.length < 9223372036854775808, .str (a ++ b)⟩ := rfl
theorem pS_eql (a b : List UInt8) : pStr .eql a b = ⟨True, .bool (decide (a = b))⟩ := rfl
theorem pS_neq (a b : List UInt8) : pStr .neq a b = ⟨True, .bool (!decide (a = b))⟩ := rfl
theorem pS_geq (a b : List UInt8) : pStr .geq a b = ⟨True, .bool (!Op.bytesLess a b)⟩ := rfl
theorem pU_not (b : Bool) : pUn .not (.bool b) = ⟨True, .bool (!b)⟩ := rfl
theorem pU_neg (k : IntKind) (n : Int) : pUn .neg (.int k n) = ⟨True, .int k (k.wrap (0 - n))⟩ := rfl
theorem pExt_tuple (vs : List AVal) (i : Nat) : pExt (.tuple vs) i = ⟨i < vs.length, vs.getD i .dead⟩ := rfl
theorem pNil_ptr (l : Loc) (o : Nat) : pNil (.ptr l o) = ⟨True, .ptr l o⟩ := rfl
theorem pNil_func (f : FuncId) (c : List AVal) : pNil (.func f c) = ⟨True, .func f c⟩ := rfl

variable {w₀ : World} {h : AHeap}
theorem pConv_int {t u : TypeId} {d : TypeDesc} {k : IntKind} (ht : P.underlying t = some d) (hu : P.underlying u = some (.int k)) (k' : IntKind) (n : Int) : pConv P w₀ h t u (.int k' n) = ⟨True, .int k (k.wrap n)⟩ := by
  simp only [pConv, ht, hu]
theorem pIndex_str {t : TypeId} (ht : P.underlying t = some .string) (s : List UInt8) (k : IntKind) (n : Int) : pIndex P t (.str s) (.int k n) = ⟨0 ≤ n ∧ n < s.length, .int .u8 (s.getD n.toNat 0).toNat⟩ := by
  simp only [pIndex, ht]
theorem pIndexAddr_slice {t e : TypeId} {es : Nat} (ht : P.underlying t = some (.slice e)) (hs : szOf P e = some es) (l : Loc) (o len : Nat) (c : Cap) (k : IntKind) (n : Int) :
    pIndexAddr P t (.slice l o len c) (.int k n) = ⟨0 ≤ n ∧ n < len, .ptr l (o + n.toNat * es)⟩ := by
  simp only [pIndexAddr, ht, hs]
theorem pIndexAddr_ptr {t e : TypeId} {es len : Nat} (ht : P.underlying t = some (.array len e)) (hs : szOf P e = some es) (l : Loc) (o : Nat) (k : IntKind) (n : Int) :
    pIndexAddr P t (.ptr l o) (.int k n) = ⟨0 ≤ n ∧ n < len, .ptr l (o + n.toNat * es)⟩ := by
  simp only [pIndexAddr, ht, hs]
theorem pLoad_one {t : TypeId} (ha : aggOf P t = some false) (l : Loc) (o : Nat) : pLoad P w₀ h t (.ptr l o) = ⟨(rd w₀ h l o).live = true, rd w₀ h l o⟩ := by
  simp only [pLoad, ha]
theorem pLoad_agg {t : TypeId} {n : Nat} (ha : aggOf P t = some true) (hn : szOf P t = some n) (l : Loc) (o : Nat) : pLoad P w₀ h t (.ptr l o) = ⟨allLive (cellsAt w₀ h l o n) = true, .agg (cellsAt w₀ h l o n)⟩ := by
  simp only [pLoad, ha, hn]
theorem pLen_str {t : TypeId} (ht : P.underlying t = some .string) (s : List UInt8) : pLen P t (.str s) = ⟨True, .int .i64 s.length⟩ := by
  simp only [pLen, ht]
theorem pMax_int (k k' : IntKind) (a b : Int) : pMax [.int k a, .int k' b] = ⟨True, .int k (max a b)⟩ := rfl
theorem pMin_int (k k' : IntKind) (a b : Int) : pMin [.int k a, .int k' b] = ⟨True, .int k (min a b)⟩ := rfl
end

/-! ### Values under a guard, in an operation under the same guard -/
section
variable {P : Program} {w₀ : World} {h : AHeap}
theorem cv_cv (g : Bool) (v : AVal) : condV g (condV g v) = condV g v := by cases g <;> rfl
theorem cv_binl (o : BinOp) (t : TypeId) (g : Bool) (x y : AVal) : condV g (pBinX P o t (condV g x) y).val = condV g (pBinX P o t x y).val := by cases g <;> rfl
theorem cv_binr (o : BinOp) (t : TypeId) (g : Bool) (x y : AVal) : condV g (pBinX P o t x (condV g y)).val = condV g (pBinX P o t x y).val := by cases g <;> rfl
theorem cp_binl (o : BinOp) (t : TypeId) (g : Bool) (x y : AVal) : (g = true → (pBinX P o t (condV g x) y).pre) = (g = true → (pBinX P o t x y).pre) := by cases g <;> simp [condV]
theorem cp_binr (o : BinOp) (t : TypeId) (g : Bool) (x y : AVal) : (g = true → (pBinX P o t x (condV g y)).pre) = (g = true → (pBinX P o t x y).pre) := by cases g <;> simp [condV]
theorem cv_un (o : UnOp) (g : Bool) (x : AVal) : condV g (pUn o (condV g x)).val = condV g (pUn o x).val := by cases g <;> rfl
theorem cp_un (o : UnOp) (g : Bool) (x : AVal) : (g = true → (pUn o (condV g x)).pre) = (g = true → (pUn o x).pre) := by cases g <;> simp [condV]
theorem cv_conv (t u : TypeId) (g : Bool) (x : AVal) : condV g (pConv P w₀ h t u (condV g x)).val = condV g (pConv P w₀ h t u x).val := by cases g <;> rfl
theorem cp_conv (t u : TypeId) (g : Bool) (x : AVal) : (g = true → (pConv P w₀ h t u (condV g x)).pre) = (g = true → (pConv P w₀ h t u x).pre) := by cases g <;> simp [condV]
theorem cv_load (t : TypeId) (g : Bool) (x : AVal) : condV g (pLoad P w₀ h t (condV g x)).val = condV g (pLoad P w₀ h t x).val := by cases g <;> rfl
theorem cp_load (t : TypeId) (g : Bool) (x : AVal) : (g = true → (pLoad P w₀ h t (condV g x)).pre) = (g = true → (pLoad P w₀ h t x).pre) := by cases g <;> simp [condV]
theorem cv_fieldAddr (t : TypeId) (f : Nat) (g : Bool) (x : AVal) : condV g (pFieldAddr P t (condV g x) f).val = condV g (pFieldAddr P t x f).val := by cases g <;> rfl
theorem cp_fieldAddr (t : TypeId) (f : Nat) (g : Bool) (x : AVal) : (g = true → (pFieldAddr P t (condV g x) f).pre) = (g = true → (pFieldAddr P t x f).pre) := by cases g <;> simp [condV]
theorem cv_indexl (t : TypeId) (g : Bool) (x y : AVal) : condV g (pIndex P t (condV g x) y).val = condV g (pIndex P t x y).val := by cases g <;> rfl
theorem cv_indexr (t : TypeId) (g : Bool) (x y : AVal) : condV g (pIndex P t x (condV g y)).val = condV g (pIndex P t x y).val := by cases g <;> rfl
theorem cp_indexl (t : TypeId) (g : Bool) (x y : AVal) : (g = true → (pIndex P t (condV g x) y).pre) = (g = true → (pIndex P t x y).pre) := by cases g <;> simp [condV]
theorem cp_indexr (t : TypeId) (g : Bool) (x y : AVal) : (g = true → (pIndex P t x (condV g y)).pre) = (g = true → (pIndex P t x y).pre) := by cases g <;> simp [condV]
theorem cv_iaddrl (t : TypeId) (g : Bool) (x y : AVal) : condV g (pIndexAddr P t (condV g x) y).val = condV g (pIndexAddr P t x y).val := by cases g <;> rfl
theorem cv_iaddrr (t : TypeId) (g : Bool) (x y : AVal) : condV g (pIndexAddr P t x (condV g y)).val = condV g (pIndexAddr P t x y).val := by cases g <;> rfl
theorem cp_iaddrl (t : TypeId) (g : Bool) (x y : AVal) : (g = true → (pIndexAddr P t (condV g x) y).pre) = (g = true → (pIndexAddr P t x y).pre) := by cases g <;> simp [condV]
theorem cp_iaddrr (t : TypeId) (g : Bool) (x y : AVal) : (g = true → (pIndexAddr P t x (condV g y)).pre) = (g = true → (pIndexAddr P t x y).pre) := by cases g <;> simp [condV]
theorem cv_len (t : TypeId) (g : Bool) (x : AVal) : condV g (pLen P t (condV g x)).val = condV g (pLen P t x).val := by cases g <;> rfl
theorem cp_len (t : TypeId) (g : Bool) (x : AVal) : (g = true → (pLen P t (condV g x)).pre) = (g = true → (pLen P t x).pre) := by cases g <;> simp [condV]
theorem cv_slice (t : TypeId) (lo hi mx : Option AVal) (g : Bool) (x : AVal) : condV g (pSlice P t (condV g x) lo hi mx).val = condV g (pSlice P t x lo hi mx).val := by cases g <;> rfl
theorem cp_slice (t : TypeId) (lo hi mx : Option AVal) (g : Bool) (x : AVal) : (g = true → (pSlice P t (condV g x) lo hi mx).pre) = (g = true → (pSlice P t x lo hi mx).pre) := by cases g <;> simp [condV]
theorem cv_slicelo (t : TypeId) (x : AVal) (hi mx : Option AVal) (g : Bool) (lo : AVal) : condV g (pSlice P t x (some (condV g lo)) hi mx).val = condV g (pSlice P t x (some lo) hi mx).val := by cases g <;> rfl
theorem cp_slicelo (t : TypeId) (x : AVal) (hi mx : Option AVal) (g : Bool) (lo : AVal) : (g = true → (pSlice P t x (some (condV g lo)) hi mx).pre) = (g = true → (pSlice P t x (some lo) hi mx).pre) := by cases g <;> simp [condV]
theorem cv_slicehi (t : TypeId) (x : AVal) (lo mx : Option AVal) (g : Bool) (hi : AVal) : condV g (pSlice P t x lo (some (condV g hi)) mx).val = condV g (pSlice P t x lo (some hi) mx).val := by cases g <;> rfl
theorem cp_slicehi (t : TypeId) (x : AVal) (lo mx : Option AVal) (g : Bool) (hi : AVal) : (g = true → (pSlice P t x lo (some (condV g hi)) mx).pre) = (g = true → (pSlice P t x lo (some hi) mx).pre) := by cases g <;> simp [condV]

theorem pickV_and (c x : Bool) : pickV c (.bool x) (.bool false) = .bool (c && x) := by cases c <;> rfl
theorem pickV_or (c x : Bool) : pickV c (.bool true) (.bool x) = .bool (c || x) := by cases c <;> rfl
end

/-! ### A guarded operation: the slots of the guards stand in `ops` -/
section
variable {P : Program} {w₀ : World} {ops rest : List Oper} {s : Slots} {h : AHeap} {K : Slots → AHeap → Prop} {dst : Option Tmp} {ty : TypeId} {pos : String} {af : Array Edge}

/-- The value of the guard. -/
def gv (s : Slots) (ops : List Oper) (j : Nat) : AVal := match nthDst ops j with | some d => s.get d | none => .dead
def agP (P : Program) (w₀ : World) (ops rest : List Oper) (s : Slots) (h : AHeap) (K : Slots → AHeap → Prop) (dst : Option Tmp) (g : AVal) (want : Bool) (r : PR) : Prop :=
  gKnown g = true ∧ (guardB g want = true → r.pre) ∧ aOps P w₀ ops rest (putD s dst (condV (guardB g want) r.val)) h K

def agQ (P : Program) (w₀ : World) (ops rest : List Oper) (s : Slots) (h : AHeap) (K : Slots → AHeap → Prop) (dst : Option Tmp) (want : Bool) (r : PR) : Option Tmp → Prop
  | none => aOps P w₀ ops rest (putD s dst (.tuple [])) h K
  | some d => agP P w₀ ops rest s h K dst (s.get d) want r
theorem agQ_some {want : Bool} {r : PR} {d : Tmp} : agQ P w₀ ops rest s h K dst want r (some d) = agP P w₀ ops rest s h K dst (s.get d) want r := rfl
theorem agE {op : Op} {j : Nat} {want : Bool} (hp : pureOp P op = true) :
    aOps P w₀ ops (⟨dst, op, ty, pos, af, some (j, want)⟩ :: rest) s h K = agQ P w₀ ops rest s h K dst want (pop P w₀ h s op) (nthDst ops j) := by
  cases hd : nthDst ops j with
  | none => simp only [aOps, hd, agQ]
  | some d => rw [aOps_g hd hp]; rfl
theorem ag_move (x : Operand) {j : Nat} {want : Bool} :
    aOps P w₀ ops (⟨dst, .move x, ty, pos, af, some (j, want)⟩ :: rest) s h K = agQ P w₀ ops rest s h K dst want (pop P w₀ h s (.move x)) (nthDst ops j) := agE (pu_move x)
theorem ag_binOp (o : BinOp) (t : TypeId) (x y : Operand) (u : TypeId) {j : Nat} {want : Bool} :
    aOps P w₀ ops (⟨dst, .binOp o t x y u, ty, pos, af, some (j, want)⟩ :: rest) s h K = agQ P w₀ ops rest s h K dst want (pop P w₀ h s (.binOp o t x y u)) (nthDst ops j) := agE (pu_binOp o t x y u)
theorem ag_load (t : TypeId) (x : Operand) {j : Nat} {want : Bool} :
    aOps P w₀ ops (⟨dst, .load t x, ty, pos, af, some (j, want)⟩ :: rest) s h K = agQ P w₀ ops rest s h K dst want (pop P w₀ h s (.load t x)) (nthDst ops j) := agE (pu_load t x)
theorem ag_fieldAddr (t : TypeId) (x : Operand) (f : Nat) {j : Nat} {want : Bool} :
    aOps P w₀ ops (⟨dst, .fieldAddr t x f, ty, pos, af, some (j, want)⟩ :: rest) s h K = agQ P w₀ ops rest s h K dst want (pop P w₀ h s (.fieldAddr t x f)) (nthDst ops j) := agE (pu_fieldAddr t x f)
theorem ag_index (t : TypeId) (x i : Operand) {j : Nat} {want : Bool} :
    aOps P w₀ ops (⟨dst, .index t x i, ty, pos, af, some (j, want)⟩ :: rest) s h K = agQ P w₀ ops rest s h K dst want (pop P w₀ h s (.index t x i)) (nthDst ops j) := agE (pu_index t x i)
theorem ag_slice (t : TypeId) (x : Operand) (a b c : Option Operand) {j : Nat} {want : Bool} :
    aOps P w₀ ops (⟨dst, .slice t x a b c, ty, pos, af, some (j, want)⟩ :: rest) s h K = agQ P w₀ ops rest s h K dst want (pop P w₀ h s (.slice t x a b c)) (nthDst ops j) := agE (pu_slice t x a b c)
theorem ag_len (a : Array Operand) (t : Array TypeId) {j : Nat} {want : Bool} :
    aOps P w₀ ops (⟨dst, .call ⟨.builtin .len, a, t⟩, ty, pos, af, some (j, want)⟩ :: rest) s h K = agQ P w₀ ops rest s h K dst want (pop P w₀ h s (.call ⟨.builtin .len, a, t⟩)) (nthDst ops j) := agE (pu_len a t)
theorem ag_max (a : Array Operand) (t : Array TypeId) {j : Nat} {want : Bool} :
    aOps P w₀ ops (⟨dst, .call ⟨.builtin .max, a, t⟩, ty, pos, af, some (j, want)⟩ :: rest) s h K = agQ P w₀ ops rest s h K dst want (pop P w₀ h s (.call ⟨.builtin .max, a, t⟩)) (nthDst ops j) := agE (pu_max a t)
/-- A call under a guard whose answer is one value and that leaves the heap. -/
theorem aOps_gcall {fo : Operand} {args : Array Operand} {ts : Array TypeId} {j : Nat} {want : Bool} {f : FuncId} {cap xs : List AVal} {V : AVal} (hk : gKnown (gv s ops j) = true)
    (hf : guardB (gv s ops j) want = true → ev s fo = .func f cap ∧ evs s args.toList ++ cap = xs) (hc : guardB (gv s ops j) want = true → ACall P w₀ f xs h (fun x h' => x = V ∧ h' = h))
    (hr : aOps P w₀ ops rest (putD s dst (condV (guardB (gv s ops j) want) V)) h K) :
    aOps P w₀ ops (⟨dst, .call ⟨.value fo, args, ts⟩, ty, pos, af, some (j, want)⟩ :: rest) s h K := by
  unfold gv at hk hf hc hr
  cases hj : nthDst ops j with
  | none => rw [hj] at hk; cases hk
  | some d =>
    simp only [hj] at hk hf hc hr
    refine aOps_ge hj rfl hk (fun hb => ?_) (fun hb => ?_)
    · refine aOps_call (hf hb).1 (hf hb).2 (hc hb) fun x h' ⟨e1, e2⟩ => ?_
      subst e1 e2
      simpa [hb, condV] using hr
    · simpa [hb, condV] using hr
end


/-! ### Loops and joins, by a ghost value -/
section
variable {P : Program} {w₀ : World} {n : Nat} {s : Slots} {h : AHeap} {Q : Exit → Slots → AHeap → Prop}

theorem keep_get (s : Slots) (L : List Nat) (i : Nat) : (s.keep L).get i = s.get i ∨ (s.keep L).get i = .dead := by
  rw [Slots.get_keep]
  split
  · exact .inl rfl
  · exact .inr rfl

/-- A heap of which the other keeps all. -/
def Sub (h' h : AHeap) : Prop := ∀ k b, h' k = some b → h k = some b
theorem Sub.refl (h : AHeap) : Sub h h := fun _ _ e => e
theorem Sub.trans {a b c : AHeap} (x : Sub a b) (y : Sub b c) : Sub a c := fun k v e => y k v (x k v e)
theorem Sub.set {h : AHeap} {k : Nat} {b : Blk} (hk : h k = none) : Sub h (h.set k b) := fun j c e => by
  by_cases ej : j = k
  · subst ej; rw [hk] at e; cases e
  · rw [AHeap.set_ne _ _ ej]; exact e
theorem Sub.trans_set {h' h : AHeap} {k : Nat} {b : Blk} (hs : Sub h' h) (hk : h' k = none) : Sub h' (h.set k b) := fun j c e => by
  by_cases ej : j = k
  · subst ej; rw [hk] at e; cases e
  · rw [AHeap.set_ne _ _ ej]; exact hs j c e
theorem Sub.none {h' h : AHeap} (hs : Sub h' h) {k : Nat} (hk : h k = none) : h' k = none := by
  cases e : h' k with
  | none => rfl
  | some b => rw [hs k b e] at hk; cases hk

theorem awp_loopG {γ : Type} {c : Code} (L : List Nat) (S : γ → Slots) (H : γ → AHeap) (I : γ → Prop) (m : γ → Nat) (g₀ : γ) (hs : s.keep L = S g₀) (hh : Sub (H g₀) h) (hi : I g₀)
    (round : ∀ g, I g → Awp P w₀ n c (thenA (fun s' h' => ∃ g', s'.keep L = S g' ∧ Sub (H g') h' ∧ I g' ∧ m g' < m g) Q) (S g) (H g)) : Awp P w₀ n (.loop c) Q s h := by
  refine Awp.keep L ?_
  rw [hs]
  refine Awp.forget hh ?_
  refine awp_loop (fun s h => ∃ g, s = S g ∧ (∃ h', h = h' ∧ Sub (H g) h') ∧ I g) (fun s h => leastOf fun k => ∃ g, s = S g ∧ Sub (H g) h ∧ I g ∧ m g = k) ⟨g₀, rfl, ⟨_, rfl, Sub.refl _⟩, hi⟩ fun s1 h1 hI => ?_
  obtain ⟨g1, e1, ⟨_, e2, e2'⟩, e3⟩ := hI
  subst e2
  obtain ⟨⟨g, f1, f2, f3, f4⟩, _⟩ := leastOf_spec (p := fun k => ∃ g, s1 = S g ∧ Sub (H g) h1 ∧ I g ∧ m g = k) ⟨_, g1, e1, e2', e3, rfl⟩
  subst f1
  refine Awp.forget f2 ((round g f3).mono fun e s' h' hq => ?_)
  cases e <;> simp only [thenA] at hq ⊢ <;> first
    | exact hq
    | skip
  obtain ⟨g', q1, q2, q3, q4⟩ := hq
  refine ⟨s'.keep L, fun i => keep_get s' L i, ⟨g', q1, ⟨_, rfl, q2⟩, q3⟩, ?_⟩
  have := (leastOf_spec (p := fun k => ∃ g, s'.keep L = S g ∧ Sub (H g) h' ∧ I g ∧ m g = k) ⟨_, g', q1, q2, q3, rfl⟩).2 _ ⟨g', q1, q2, q3, rfl⟩
  omega

theorem retA_ret {rs : List ResultVar} {R : AVal → AHeap → Prop} (h' : AHeap) (hs : Sub h' h) (hp : resPre P w₀ s h rs) (hr : R (resOf P w₀ s h rs) h') : retA P w₀ rs R .ret s h := ⟨hp, h', hs, hr⟩
theorem resPre_tmp {t : Nat} {rs : List ResultVar} (hp : resPre P w₀ s h rs) : resPre P w₀ s h (.tmp t :: rs) := ⟨trivial, hp⟩
theorem resPre_nil : resPre P w₀ s h [] := trivial
theorem resOf_one (t : Nat) : resOf P w₀ s h [.tmp t] = s.get t := rfl
theorem resOf_two (t u : Nat) : resOf P w₀ s h [.tmp t, .tmp u] = .tuple [s.get t, s.get u] := rfl
theorem resOf_three (t u v : Nat) : resOf P w₀ s h [.tmp t, .tmp u, .tmp v] = .tuple [s.get t, s.get u, s.get v] := rfl
/-- A call whose answer is one value and that leaves the heap. -/
theorem aOps_callV {ops rest : List Oper} {K : Slots → AHeap → Prop} {dst : Option Tmp} {fo : Operand} {args : Array Operand} {ts : Array TypeId} {ty : TypeId} {pos : String} {af : Array Edge} {f : FuncId} {cap xs : List AVal} {V : AVal}
    (hf : ev s fo = .func f cap) (hx : evs s args.toList ++ cap = xs) (hc : ACall P w₀ f xs h (fun x h' => x = V ∧ h' = h)) (hk : aOps P w₀ ops rest (putD s dst V) h K) :
    aOps P w₀ ops (⟨dst, .call ⟨.value fo, args, ts⟩, ty, pos, af, none⟩ :: rest) s h K :=
  aOps_call hf hx hc fun x h' ⟨e1, e2⟩ => by subst e1 e2; exact hk
end


theorem es_to {P : Program} {t u : TypeId} {d : TypeDesc} (hu : P.underlying u = some d) (hd : ∀ e, d ≠ .slice e) : (!eStrBytes P t u && !eSame P t u) = true := by
  have e1 : eStrBytes P t u = false := by
    unfold eStrBytes
    split
    · rename_i e _ h; rw [hu] at h; exact absurd (Option.some.inj h) (hd e)
    · rfl
  have e2 : eSame P t u = false := by
    unfold eSame
    by_cases htu : t = u
    · subst htu
      split
      · rename_i e h; rw [hu] at h; exact absurd (Option.some.inj h) (hd e)
      · simp
    · simp [htu]
  rw [e1, e2]; rfl
theorem es_int {P : Program} {t u : TypeId} {d : TypeDesc} {k : IntKind} (_ : P.underlying t = some d) (hu : P.underlying u = some (.int k)) : (!eStrBytes P t u && !eSame P t u) = true := es_to hu (fun _ => by simp)
theorem es_str {P : Program} {t u : TypeId} {d : TypeDesc} (_ : P.underlying t = some d) (hu : P.underlying u = some .string) : (!eStrBytes P t u && !eSame P t u) = true := es_to hu (fun _ => by simp)

section
variable {P : Program} {w₀ : World} {ops rest : List Oper} {s : Slots} {h : AHeap} {K : Slots → AHeap → Prop} {dst : Option Tmp} {ty : TypeId} {pos : String} {af : Array Edge}
theorem ap_convert (t u : TypeId) (x : Operand) (hs : (!eStrBytes P t u && !eSame P t u) = true) :
    aOps P w₀ ops (⟨dst, .convert t u x, ty, pos, af, none⟩ :: rest) s h K = ((pop P w₀ h s (.convert t u x)).pre ∧ aOps P w₀ ops rest (putD s dst (pop P w₀ h s (.convert t u x)).val) h K) := aOps_p (pu_convert t u x hs)
theorem ag_convert (t u : TypeId) (x : Operand) (hs : (!eStrBytes P t u && !eSame P t u) = true) {j : Nat} {want : Bool} :
    aOps P w₀ ops (⟨dst, .convert t u x, ty, pos, af, some (j, want)⟩ :: rest) s h K = agQ P w₀ ops rest s h K dst want (pop P w₀ h s (.convert t u x)) (nthDst ops j) := agE (pu_convert t u x hs)
end


section
variable {K : Slots → AHeap → Prop} {Q : Exit → Slots → AHeap → Prop} {s : Slots} {h : AHeap}
theorem thenA_ret : thenA K Q .ret s h = Q .ret s h := rfl
theorem thenA_normal : thenA K Q .normal s h = K s h := rfl
theorem inBlockA_normal (i : Nat) : inBlockA i Q .normal s h = Q .normal s h := rfl
theorem inBlockA_ret (i : Nat) : inBlockA i Q .ret s h = Q .ret s h := rfl
end

end Go.AM

/-
  An assertion layer over the model's wp, part L: values that are bytes, and the operations that write, as a walk applies them.
  Conditions: none. Nothing here is about a particular program.
-/
namespace Go.AM

/-! ### A value that holds bytes -/
inductive IsB (w₀ : World) (h : AHeap) : AVal → List UInt8 → Prop
  | nil : IsB w₀ h .nilSlice []
  | mk (l : Loc) (o n : Nat) (c : Cap) (bs : List UInt8) (hn : n = bs.length) (hc : cellsAt w₀ h l o n = byteCells bs) (hcap : match c with | .exact c => n ≤ c | .grow g => g = 1) : IsB w₀ h (.slice l o n c) bs

theorem cellsAt_get (w₀ : World) (h : AHeap) (l : Loc) : ∀ (n o i : Nat), i < n → (cellsAt w₀ h l o n)[i]? = some (rd w₀ h l (o + i))
  | n + 1, o, 0, _ => by simp [cellsAt]
  | n + 1, o, i + 1, hi => by
    simp only [cellsAt, List.getElem?_cons_succ]
    rw [cellsAt_get w₀ h l n (o + 1) i (by omega)]
    congr 2
    omega

theorem cellsAt_own {w₀ : World} {h : AHeap} {k : Nat} {b : Blk} (hk : h k = some b) (o n : Nat) (hn : o + n ≤ b.cells.length) : cellsAt w₀ h (.own k) o n = (b.cells.drop o).take n := by
  apply List.ext_getElem?
  intro i
  by_cases hi : i < n
  · rw [cellsAt_get w₀ h (.own k) n o i hi]
    have : o + i < b.cells.length := by omega
    simp [rd, hk, hi, List.getD, List.getElem?_drop, this]
  · rw [List.getElem?_eq_none (by rw [cellsAt_length]; omega), List.getElem?_eq_none (by simp; omega)]

theorem rd_byte {w₀ : World} {h : AHeap} {l : Loc} {o : Nat} {bs : List UInt8} (hc : cellsAt w₀ h l o bs.length = byteCells bs) (i : Nat) (hi : i < bs.length) : rd w₀ h l (o + i) = .int .u8 (bs.getD i 0).toNat := by
  have := cellsAt_get w₀ h l bs.length o i hi
  rw [hc] at this
  simp only [byteCells, List.getElem?_map, List.getElem?_eq_getElem hi, Option.map_some, Option.some.injEq] at this
  rw [← this]
  simp [List.getD, hi]

/-- The pointer to an element. -/
def elemP : AVal → Nat → AVal
  | .slice l o _ _, i => .ptr l (o + i * 1)
  | _, _ => .dead

/-- A part of a slice of bytes. -/
def subV : AVal → Nat → Nat → AVal
  | .slice l o _ (.exact c), i, j => .slice l (o + i * 1) (j - i) (.exact (c - i))
  | .slice l o _ (.grow g), i, j => .slice l (o + i * 1) (j - i) (.grow g)
  | v, _, _ => v

section
variable {P : Program} {w₀ : World} {h : AHeap} {v : AVal} {bs : List UInt8}

theorem IsB.len (hb : IsB w₀ h v bs) {t e : TypeId} (ht : P.underlying t = some (.slice e)) : pLen P t v = ⟨True, .int .i64 bs.length⟩ := by
  cases hb with
  | nil => simp [pLen, ht]
  | mk l o n c bs hn hc hcap => simp [pLen, ht, hn]

theorem IsB.load (hb : IsB w₀ h v bs) {t : TypeId} (ha : aggOf P t = some false) {i : Nat} (hi : i < bs.length) : pLoad P w₀ h t (elemP v i) = ⟨True, .int .u8 (bs.getD i 0).toNat⟩ := by
  cases hb with
  | nil => simp at hi
  | mk l o n c bs hn hc hcap =>
    subst hn
    simp only [elemP, pLoad, ha, Nat.mul_one, rd_byte hc i hi, AVal.live]

theorem IsB.conv (hb : IsB w₀ h v bs) {t u e : TypeId} (ht : P.underlying t = some (.slice e)) (hu : P.underlying u = some .string) (he : P.underlying e = some (.int .u8)) : pConv P w₀ h t u v = ⟨True, .str bs⟩ := by
  cases hb with
  | nil => simp [pConv, ht, hu, he]
  | mk l o n c bs hn hc hcap =>
    subst hn
    simp only [pConv, ht, hu, he, hc, byteCells_isU8, byteCells_byte]

theorem cellsAt_part (w₀ : World) (h : AHeap) (l : Loc) (o n i j : Nat) (hij : i ≤ j) (hj : j ≤ n) : cellsAt w₀ h l (o + i) (j - i) = ((cellsAt w₀ h l o n).drop i).take (j - i) := by
  apply List.ext_getElem?
  intro q
  by_cases hq : q < j - i
  · rw [cellsAt_get _ _ _ _ _ _ hq, List.getElem?_take, if_pos hq, List.getElem?_drop, cellsAt_get _ _ _ _ _ _ (by omega)]
    congr 2
    omega
  · rw [List.getElem?_eq_none (by rw [cellsAt_length]; omega), List.getElem?_eq_none (by simp; omega)]

theorem IsB.sub (hb : IsB w₀ h v bs) {i j : Nat} (hij : i ≤ j) (hj : j ≤ bs.length) : IsB w₀ h (subV v i j) ((bs.drop i).take (j - i)) := by
  cases hb with
  | nil =>
    simp only [List.length_nil] at hj
    simp only [subV, List.drop_nil, List.take_nil]
    exact .nil
  | mk l o n c bs hn hc hcap =>
    subst hn
    have e1 : cellsAt w₀ h l (o + i * 1) (j - i) = byteCells ((bs.drop i).take (j - i)) := by
      rw [Nat.mul_one, cellsAt_part w₀ h l o bs.length i j hij hj, hc]
      simp [byteCells, List.map_take, List.map_drop]
    cases c with
    | exact c => exact .mk l _ _ _ _ (by simp; omega) e1 (by simp only at hcap ⊢; omega)
    | grow g => exact .mk l _ _ _ _ (by simp; omega) e1 hcap

theorem IsB.slice (hb : IsB w₀ h v bs) {t e : TypeId} (ht : P.underlying t = some (.slice e)) (hs : szOf P e = some 1) (lo hi : Option AVal) {l r : Int} (hl : bndA lo 0 = some l) (hr : bndA hi bs.length = some r)
    (h0 : 0 ≤ l) (h1 : l ≤ r) (h2 : r ≤ bs.length) : pSlice P t v lo hi none = ⟨True, subV v l.toNat r.toNat⟩ := by
  cases hb with
  | nil =>
    simp only [List.length_nil] at h2 hr
    have e1 : l = 0 := by omega
    have e2 : r = 0 := by omega
    subst e1 e2
    simp only [pSlice, ht, hs, hl, hr, subV, and_self]
  | mk lc o n c bs hn hc hcap =>
    subst hn
    have e : (r - l).toNat = r.toNat - l.toNat := by omega
    cases c with
    | exact c =>
      simp only at hcap
      have e3 : ((c : Int) - l).toNat = c - l.toNat := by omega
      have e4 : r ≤ c := by omega
      simp only [pSlice, ht, hs, hl, hr, subV, e, e3, h0, h1, e4, and_self]
    | grow g =>
      simp only at hcap
      subst hcap
      simp only [pSlice, ht, hs, hl, hr, subV, e, h0, h1, h2, and_self]

theorem IsB.mono (hb : IsB w₀ h v bs) {h' : AHeap} (hs : Sub h h') : IsB w₀ h' v bs := by
  cases hb with
  | nil => exact .nil
  | mk l o n c bs hn hc hcap =>
    refine .mk l o n c bs hn ?_ hcap
    subst hn
    cases l with
    | base b =>
      rw [← hc]
      have : ∀ (m o : Nat), cellsAt w₀ h' (.base b) o m = cellsAt w₀ h (.base b) o m := by
        intro m
        induction m with
        | zero => intro o; rfl
        | succ m ih => intro o; simp only [cellsAt, ih]; rfl
      exact this _ _
    | own k =>
      cases hk : h k with
      | some b =>
        rw [← hc]
        have : ∀ (m o : Nat), cellsAt w₀ h' (.own k) o m = cellsAt w₀ h (.own k) o m := by
          intro m
          induction m with
          | zero => intro o; rfl
          | succ m ih => intro o; simp only [cellsAt, ih, rd, hk, hs k b hk]
        exact this _ _
      | none =>
        cases bs with
        | nil => rfl
        | cons b bs =>
          simp only [List.length_cons, cellsAt, rd, hk, byteCells, List.map_cons, List.cons.injEq] at hc
          exact absurd hc.1 (by simp)

/-- A block of bytes of the call's own. -/
theorem IsB.own {k : Nat} {f : Nat} (hk : h k = some ⟨byteCells bs, f⟩) {n : Nat} (hn : n = bs.length) {c : Cap} (hcap : match c with | .exact c => n ≤ c | .grow g => g = 1) : IsB w₀ h (.slice (.own k) 0 n c) bs := by
  refine .mk _ _ _ _ _ hn ?_ hcap
  subst hn
  rw [cellsAt_own hk 0 _ (by simp [byteCells])]
  simp only [List.drop_zero]
  exact List.take_of_length_le (by simp [byteCells])
end

theorem rd_set (w₀ : World) (h : AHeap) (k o : Nat) (b : Blk) : rd w₀ (h.set k b) (.own k) o = b.cells.getD o .dead := by simp [rd, AHeap.set_same]
theorem setAt_byteCells : ∀ (bs : List UInt8) (i : Nat) (n : Int), 0 ≤ n → n ≤ 255 → setAt (byteCells bs) i [.int .u8 n] = byteCells (bs.set i (UInt8.ofNat n.toNat)) := by
  intro bs i n h0 h1
  simp only [setAt, byteCells, List.map_set]
  congr 1
  have : (UInt8.ofNat n.toNat).toNat = n.toNat := by simp; omega
  rw [this]
  congr 1
  omega

/-! ### Operations that write, as a walk applies them -/
section
variable {P : Program} {w₀ : World} {ops rest : List Oper} {s : Slots} {h : AHeap} {K : Slots → AHeap → Prop} {dst : Option Tmp} {ty : TypeId} {pos : String} {af : Array Edge}

/-- A guard of a known value: it runs. -/
theorem aOps_yes {op : Op} {j : Nat} {want : Bool} (hg : gv s ops j = .bool want) (hk : aOps P w₀ ops (⟨dst, op, ty, pos, af, none⟩ :: rest) s h K) :
    aOps P w₀ ops (⟨dst, op, ty, pos, af, some (j, want)⟩ :: rest) s h K := by
  unfold gv at hg
  cases hj : nthDst ops j with
  | none => rw [hj] at hg; cases hg
  | some d =>
    rw [hj] at hg
    simp only at hg
    by_cases hp : pureOp P op = true
    · rw [aOps_g hj hp, hg]
      rw [aOps_p hp] at hk
      have e : guardB (.bool want) want = true := by simp [guardB]
      rw [e]
      exact ⟨rfl, fun _ => hk.1, hk.2⟩
    · refine aOps_ge hj (by simpa using hp) (by rw [hg]; rfl) (fun _ => hk) (fun e => ?_)
      rw [hg] at e
      simp [guardB] at e

/-- A guard of a known value: it does not run. -/
theorem aOps_no {op : Op} {j : Nat} {want b : Bool} (hg : gv s ops j = .bool b) (hb : b = !want) (hk : aOps P w₀ ops rest (putD s dst (.tuple [])) h K) :
    aOps P w₀ ops (⟨dst, op, ty, pos, af, some (j, want)⟩ :: rest) s h K := by
  unfold gv at hg
  subst hb
  cases hj : nthDst ops j with
  | none => rw [hj] at hg; cases hg
  | some d =>
    rw [hj] at hg
    simp only at hg
    have e : guardB (.bool (!want)) want = false := by cases want <;> rfl
    by_cases hp : pureOp P op = true
    · rw [aOps_g hj hp, hg, e]
      exact ⟨rfl, fun e' => (by cases e'), hk⟩
    · refine aOps_ge hj (by simpa using hp) (by rw [hg]; rfl) (fun e' => ?_) (fun _ => hk)
      rw [hg, e] at e'
      cases e'

theorem aOps_store {t : TypeId} {x y : Operand} {k o n : Nat} {b : Blk} {v : AVal} (hx : ev s x = .ptr (.own k) o) (hv : ev s y = v) (hb : h k = some b) (hn : szOf P t = some n) (hl : v.live = true) (hc : v.cells.length = n)
    (ho : o + n ≤ b.cells.length) (hf : b.frz ≤ o) (hs : allScal v.cells = true) (hk : aOps P w₀ ops rest (putD s dst (.tuple [])) (h.set k ⟨setAt b.cells o v.cells, b.frz⟩) K) :
    aOps P w₀ ops (⟨dst, .store t x y, ty, pos, af, none⟩ :: rest) s h K := by
  rw [aOps_e]
  simp only [eop, eStore, hx, hv, hb, hn]
  exact ⟨⟨hl, hc, by omega, hf, hs⟩, hk⟩

/-- A byte is written into a row of bytes. -/
theorem aOps_storeByte {t : TypeId} {x y : Operand} {k o i f : Nat} {n : Int} {bs : List UInt8} {h₀ : AHeap} (hx : ev s x = .ptr (.own k) o) (hv : ev s y = .int .u8 n) (ht : szOf P t = some 1) (hh : h = h₀.set k ⟨byteCells bs, f⟩) (ho : o = i)
    (hi : i < bs.length) (hf : f ≤ i) (h0 : 0 ≤ n) (h1 : n ≤ 255) (hk : aOps P w₀ ops rest (putD s dst (.tuple [])) (h₀.set k ⟨byteCells (bs.set i (UInt8.ofNat n.toNat)), f⟩) K) :
    aOps P w₀ ops (⟨dst, .store t x y, ty, pos, af, none⟩ :: rest) s h K := by
  subst hh ho
  refine aOps_store hx hv (AHeap.set_same _ _ _) ht rfl rfl (by rw [byteCells_length]; omega) hf rfl ?_
  rw [AHeap.set_set]
  simp only [AVal.cells]
  rw [setAt_byteCells bs o n h0 h1]
  exact hk

theorem aOps_makeBytes {t e : TypeId} {x y : Operand} {n : Int} {k₁ k₂ : IntKind} (ht : P.underlying t = some (.slice e)) (hs : szOf P e = some 1) (hb : byOf P e = some 1) (hz : zeOf P e = some (.int .u8 0)) (hx : ev s x = .int k₁ n) (hy : ev s y = .int k₂ n) (h0 : 0 ≤ n) (h1 : n ≤ 281474976710656)
    (hk : ∀ k, h k = none → aOps P w₀ ops rest (putD s dst (.slice (.own k) 0 n.toNat (.exact n.toNat))) (h.set k ⟨byteCells (List.replicate n.toNat 0), 0⟩) K) :
    aOps P w₀ ops (⟨dst, .makeSlice t x y, ty, pos, af, none⟩ :: rest) s h K := by
  rw [aOps_e]
  simp only [eop, eMake, hx, hy, ht, hs, hb, hz, intA]
  refine ⟨⟨h0, by omega, by omega, by omega, rfl, by omega⟩, fun k hk' => ?_⟩
  have e : repCells ((Value.int .u8 0).cells.toList.map absS) (n.toNat * 1) = byteCells (List.replicate n.toNat 0) := by
    have : ((Value.int .u8 0).cells.toList.map absS) = [.int .u8 0] := rfl
    rw [this, repCells_one, Nat.mul_one]
    simp [byteCells]
  rw [e]
  exact hk k hk'
end


/-! ### Contracts of the library, told over the plain model -/
/-- A contract that answers one value and leaves all that was there. -/
theorem acall_of_calls {P : Program} {w₀ : World} {f : FuncId} {fn : Func} {h : AHeap} {args : List AVal} {V : AVal} {vals : List Value} {val : Value} (hf : P.funcs[f]? = some fn) (hname : (fn.name == "runtime.NumGoroutine") = false) (hb : fn.body.isSome = true)
    (hv : ∀ φ vs, VRs φ args vs → vs = vals) (hV : ∀ φ, VR φ V val) (hc : ∀ w, Calls P f vals.toArray w fun e w' => e = .returned val ∧ Go.RowKit.Below w.heap.size w w') :
    ACall P w₀ f args h (fun v h' => v = V ∧ h' = h) := by
  intro φ vs w hr hvs
  obtain rfl := hv φ vs hvs
  refine .inl ⟨fn, hf, hname, hb, (hc w).mono fun e w' ⟨e1, e2⟩ => ⟨val, e1, φ, V, h, φ.le_refl, hr.later e2, hV φ, rfl, rfl⟩⟩

theorem VRs_si {φ : PMap} {s : List UInt8} {n : Int} {k : IntKind} {vs : List Value} (h : VRs φ [.str s, .int k n] vs) : vs = [.string ⟨⟨s⟩⟩, .int k n] := by
  simp only [VRs, VR] at h
  obtain ⟨_, _, rfl, rfl, _, _, rfl, rfl, rfl⟩ := h
  rfl


/-! ### copy and append of bytes -/
/-- What a source of bytes holds. -/
def SrcB (w₀ : World) (h : AHeap) (x : AVal) (src : List UInt8) : Prop :=
  srcLen x = some src.length ∧ ∀ n, n ≤ src.length → srcPre w₀ h 1 n x ∧ srcCells w₀ h 1 n x = byteCells (src.take n)

theorem SrcB.str (w₀ : World) (h : AHeap) (s : List UInt8) : SrcB w₀ h (.str s) s := ⟨rfl, fun _ _ => ⟨rfl, rfl⟩⟩

theorem SrcB.of {w₀ : World} {h : AHeap} {x : AVal} {bs : List UInt8} (hb : IsB w₀ h x bs) : SrcB w₀ h x bs := by
  cases hb with
  | nil => exact ⟨rfl, fun n hn => ⟨trivial, by simp [srcCells, byteCells]⟩⟩
  | mk l o n c bs hn hc hcap =>
    subst hn
    refine ⟨rfl, fun m hm => ?_⟩
    have e : cellsAt w₀ h l o (m * 1) = byteCells (bs.take m) := by
      have := cellsAt_part w₀ h l o bs.length 0 m (Nat.zero_le _) hm
      simp only [Nat.add_zero, Nat.sub_zero, List.drop_zero] at this
      rw [Nat.mul_one, this, hc]
      simp [byteCells, List.map_take]
    simp only [srcPre, srcCells, e]
    exact ⟨allLive_of_u8 (byteCells_isU8 _), trivial⟩

section
variable {P : Program} {w₀ : World} {ops rest : List Oper} {s : Slots} {h : AHeap} {K : Slots → AHeap → Prop} {dst : Option Tmp} {ty : TypeId} {pos : String} {af : Array Edge}

end

end Go.AM

/-
  An assertion layer over the model's wp, part M: slicing, told for each shape of value.
  Conditions: none. Nothing here is about a particular program.
-/
namespace Go.AM

def pSliceS (s : List UInt8) : Option Int → Option Int → PR
  | some l, some h => ⟨0 ≤ l ∧ l ≤ h ∧ h ≤ s.length, .str ((s.drop l.toNat).take (h.toNat - l.toNat))⟩
  | _, _ => .no
theorem bndA_none (d : Nat) : bndA none d = some (d : Int) := rfl
theorem bndA_int (k : IntKind) (n : Int) (d : Nat) : bndA (some (.int k n)) d = some n := rfl
section
variable {P : Program}
theorem pSliceS_str {t : TypeId} (ht : P.underlying t = some .string) (s : List UInt8) (lo hi : Option AVal) : pSlice P t (.str s) lo hi none = pSliceS s (bndA lo 0) (bndA hi s.length) := by
  simp only [pSlice, ht]
  cases bndA lo 0 <;> cases bndA hi s.length <;> rfl
end
end Go.AM

/-
  An assertion layer over the model's wp, part N: append and new rows of bytes, as a walk applies them.
  Conditions: none. Nothing here is about a particular program.
-/
namespace Go.AM

theorem eqNil {α : Type} (s : List α) : (s = []) = (s.length = 0) := by simp

/-- A value of one cell. -/
def Sc : AVal → Prop
  | .agg _ => False
  | .dead => False
  | _ => True
theorem Sc_slice (l : Loc) (o n : Nat) (c : Cap) : Sc (.slice l o n c) = True := eq_true trivial
theorem Sc_nilSlice : Sc .nilSlice = True := eq_true trivial
theorem Sc_nilPtr : Sc .nilPtr = True := eq_true trivial
theorem Sc_ptr (l : Loc) (o : Nat) : Sc (.ptr l o) = True := eq_true trivial
theorem Sc_nilFunc : Sc .nilFunc = True := eq_true trivial
theorem Sc_func (f : FuncId) (c : List AVal) : Sc (.func f c) = True := eq_true trivial
theorem Sc_nilMap : Sc .nilMap = True := eq_true trivial

theorem aOps_box {P : Program} {w₀ : World} {ops rest : List Oper} {s : Slots} {h : AHeap} {K : Slots → AHeap → Prop} {dst : Option Tmp} {ty : TypeId} {pos : String} {af : Array Edge} {e : TypeId} {x : Operand} {v : AVal} {cs : List AVal}
    (hx : ev s x = v) (hl : v.live = true) (hc : v.cells = cs) (hk : ∀ k, h k = none → aOps P w₀ ops rest (putD s dst (.ptr (.own k) 0)) (h.set k ⟨cs, 0⟩) K) :
    aOps P w₀ ops (⟨dst, .box e x, ty, pos, af, none⟩ :: rest) s h K := by
  rw [aOps_e]
  simp only [eop, hx, hc]
  exact ⟨hl, hk⟩

theorem aOps_alloc {P : Program} {w₀ : World} {ops rest : List Oper} {s : Slots} {h : AHeap} {K : Slots → AHeap → Prop} {dst : Option Tmp} {ty : TypeId} {pos : String} {af : Array Edge} {e : TypeId} {z : Value} {cs : List AVal}
    (hz : zeOf P e = some z) (hc : z.cells.toList.map absS = cs) (hk : ∀ k, h k = none → aOps P w₀ ops rest (putD s dst (.ptr (.own k) 0)) (h.set k ⟨cs, 0⟩) K) :
    aOps P w₀ ops (⟨dst, .alloc e, ty, pos, af, none⟩ :: rest) s h K := by
  rw [aOps_e]
  simp only [eop, hz, hc]
  exact hk

/-- New memory that holds bytes, with no room to spare; or nil. -/
def FreshB (h : AHeap) (bs : List UInt8) (v : AVal) (h' : AHeap) : Prop :=
  (bs = [] ∧ v = .nilSlice ∧ h' = h) ∨ ∃ k, h k = none ∧ v = .slice (.own k) 0 bs.length (.exact bs.length) ∧ h' = h.set k ⟨byteCells bs, 0⟩

theorem FreshB.sub {h : AHeap} {bs : List UInt8} {v : AVal} {h' : AHeap} (hf : FreshB h bs v h') : Sub h h' := by
  rcases hf with ⟨rfl, rfl, rfl⟩ | ⟨k, hk, rfl, rfl⟩
  · exact Sub.refl _
  · exact Sub.set hk
theorem FreshB.cap {P : Program} {h : AHeap} {bs : List UInt8} {v : AVal} {h' : AHeap} (hf : FreshB h bs v h') {t e : TypeId} (ht : P.underlying t = some (.slice e)) : pCap P t v = ⟨True, .int .i64 bs.length⟩ := by
  rcases hf with ⟨rfl, rfl, rfl⟩ | ⟨k, hk, rfl, rfl⟩ <;> simp [pCap, ht]

section
variable {P : Program} {w₀ : World} {s : Slots} {h : AHeap}
theorem resV_tmp (t : Nat) : resV P w₀ s h (.tmp t) = ⟨True, s.get t⟩ := rfl
theorem resV_cell (a : Nat) (t : TypeId) : resV P w₀ s h (.cell a t) = pLoad P w₀ h t (s.get a) := rfl
theorem resOfG_one (r : ResultVar) : resOf P w₀ s h [r] = (resV P w₀ s h r).val := rfl
theorem resOfG_two (r u : ResultVar) : resOf P w₀ s h [r, u] = .tuple [(resV P w₀ s h r).val, (resV P w₀ s h u).val] := rfl
theorem resOfG_three (r u v : ResultVar) : resOf P w₀ s h [r, u, v] = .tuple [(resV P w₀ s h r).val, (resV P w₀ s h u).val, (resV P w₀ s h v).val] := rfl
theorem pop_buildL (t : TypeId) (ps : List (Nat × Operand)) : pop P w₀ h s (.build t ps.toArray) = pBuild P t (evP s ps) := rfl
end
theorem rd_own (w₀ : World) {h : AHeap} {k : Nat} {b : Blk} (hk : h k = some b) (o : Nat) : rd w₀ h (.own k) o = b.cells.getD o .dead := by simp [rd, hk]
theorem rd_ne (w₀ : World) (h : AHeap) {j k : Nat} (b : Blk) (hj : j ≠ k) (o : Nat) : rd w₀ (h.set k b) (.own j) o = rd w₀ h (.own j) o := by simp only [rd, AHeap.set_ne h b hj]
theorem AHeap.ne_of {h : AHeap} {j k : Nat} {b : Blk} (hk : h.set j b k = none) : j ≠ k := fun e => by subst e; rw [AHeap.set_same] at hk; cases hk
theorem AHeap.ne_of2 {h : AHeap} {i j k : Nat} {a b : Blk} (hk : (h.set i a).set j b k = none) : i ≠ k := fun e => by
  subst e
  by_cases e' : i = j
  · subst e'; rw [AHeap.set_same] at hk; cases hk
  · rw [AHeap.set_ne _ _ e', AHeap.set_same] at hk; cases hk
theorem rd_any (w₀ : World) (h : AHeap) (k o : Nat) (cs : List AVal) (f : Nat) : rd w₀ (h.set k ⟨cs, f⟩) (.own k) o = cs.getD o .dead := rd_set w₀ h k o ⟨cs, f⟩

theorem Sub.two {h : AHeap} {k k' : Nat} {b b' c' : Blk} (hk : h k = Option.none) (hk' : h.set k b k' = Option.none) : Sub h ((h.set k b').set k' c') := fun j d e => by
  have h1 : j ≠ k := fun e' => by subst e'; rw [hk] at e; cases e
  have h2 : j ≠ k' := fun e' => by
    subst e'
    rw [AHeap.set_ne _ _ h1, e] at hk'
    cases hk'
  rw [AHeap.set_ne _ _ h2, AHeap.set_ne _ _ h1]; exact e

section
variable {P : Program} {w₀ : World} {ops rest : List Oper} {s : Slots} {h : AHeap} {K : Slots → AHeap → Prop} {dst : Option Tmp} {ty : TypeId} {pos : String} {af : Array Edge}

theorem aOps_buildSlice {t : TypeId} {n : Nat} {ps : List (Nat × Operand)} {cs : List AVal} (hb : buildSliceA P t n (evP s ps) = some cs)
    (hk : ∀ k, h k = none → aOps P w₀ ops rest (putD s dst (.slice (.own k) 0 n (.exact n))) (h.set k ⟨cs, 0⟩) K) :
    aOps P w₀ ops (⟨dst, .buildSlice t n ps.toArray, ty, pos, af, none⟩ :: rest) s h K := by
  rw [aOps_e]
  simp only [eop, hb]
  exact hk

end

theorem pickV_cond_rn (c : Bool) (v w : AVal) : pickV (!c) v (condV c w) = pickV (!c) v w := by cases c <;> cases v <;> cases w <;> simp [pickV, condV]

theorem pickV_true (a b : AVal) : pickV true a b = a := by cases a <;> cases b <;> rfl
theorem pickV_false (a b : AVal) : pickV false a b = b := by cases a <;> cases b <;> rfl
theorem cp_nest1 (g c : Bool) (x y : AVal) : condV g (pickV c (condV (g && c) x) y) = condV g (pickV c x y) := by cases g <;> cases c <;> cases x <;> cases y <;> simp [pickV, condV]
theorem cp_nest2 (g c : Bool) (x y : AVal) : condV g (pickV c x (condV (g && !c) y)) = condV g (pickV c x y) := by cases g <;> cases c <;> cases x <;> cases y <;> simp [pickV, condV]

theorem cp_nest3 (g c : Bool) (x y : AVal) : condV g (pickV (!c) x (condV (g && c) y)) = condV g (pickV (!c) x y) := by cases g <;> cases c <;> cases x <;> cases y <;> simp [pickV, condV]
theorem cp_nest4 (g c : Bool) (x y : AVal) : condV g (pickV (!c) (condV (g && !c) x) y) = condV g (pickV (!c) x y) := by cases g <;> cases c <;> cases x <;> cases y <;> simp [pickV, condV]

theorem awp_joinT {P : Program} {w₀ : World} {n : Nat} {s : Slots} {h : AHeap} {Q Q' : Exit → Slots → AHeap → Prop} {γ : Type} {x y : Code} (L : List Nat) (S : γ → Slots) (H : γ → AHeap) (I : γ → Prop)
    (hx : Awp P w₀ n x (thenA (fun s' h' => ∃ g, s'.keep L = S g ∧ Sub (H g) h' ∧ I g) Q') s h) (hy : ∀ g, I g → Awp P w₀ n y Q (S g) (H g)) : Awp P w₀ n x (thenA (Awp P w₀ n y Q) Q') s h :=
  hx.mono fun e s' h' hq => by
    cases e <;> simp only [thenA] at hq ⊢ <;> first
      | exact hq
      | skip
    obtain ⟨g, q1, q2, q3⟩ := hq
    refine Awp.keep L ?_
    rw [q1]
    exact Awp.forget q2 (hy g q3)

/-- A contract of the library, in a world that goes on from the first. -/
theorem acall_of_callsB {P : Program} {w₀ : World} {f : FuncId} {fn : Func} {h : AHeap} {args : List AVal} {V : AVal} {vals : List Value} {val : Value} (hf : P.funcs[f]? = some fn) (hname : (fn.name == "runtime.NumGoroutine") = false) (hb : fn.body.isSome = true)
    (hv : ∀ φ vs, VRs φ args vs → vs = vals) (hV : ∀ φ, VR φ V val) (hc : ∀ w, Go.RowKit.Below w₀.heap.size w₀ w → Calls P f vals.toArray w fun e w' => e = .returned val ∧ Go.RowKit.Below w.heap.size w w') :
    ACall P w₀ f args h (fun v h' => v = V ∧ h' = h) := by
  intro φ vs w hr hvs
  obtain rfl := hv φ vs hvs
  refine .inl ⟨fn, hf, hname, hb, (hc w hr.below).mono fun e w' ⟨e1, e2⟩ => ⟨val, e1, φ, V, h, φ.le_refl, hr.later e2, hV φ, rfl, rfl⟩⟩
theorem VRs_ss {φ : PMap} {s t : List UInt8} {vs : List Value} (h : VRs φ [.str s, .str t] vs) : vs = [.string ⟨⟨s⟩⟩, .string ⟨⟨t⟩⟩] := by
  simp only [VRs, VR] at h
  obtain ⟨v, vs', rfl, rfl, v2, vs2, rfl, rfl, rfl⟩ := h
  rfl
theorem VRs_i {φ : PMap} {k : IntKind} {n : Int} {vs : List Value} (h : VRs φ [.int k n] vs) : vs = [.int k n] := by
  simp only [VRs, VR] at h
  obtain ⟨v, vs', rfl, rfl, rfl⟩ := h
  rfl
theorem ACall.val {P : Program} {w₀ : World} {f : FuncId} {args : List AVal} {h : AHeap} {V V' : AVal} (hc : ACall P w₀ f args h (fun x h' => x = V ∧ h' = h)) (e : V = V') : ACall P w₀ f args h (fun x h' => x = V' ∧ h' = h) := by
  subst e; exact hc

/-! ### Loads, whose value is told where they may be made -/
section
variable {P : Program} {w₀ : World} {ops rest : List Oper} {s : Slots} {h : AHeap} {K : Slots → AHeap → Prop} {dst : Option Tmp} {ty : TypeId} {pos : String} {af : Array Edge}
def apL (P : Program) (w₀ : World) (ops rest : List Oper) (s : Slots) (h : AHeap) (K : Slots → AHeap → Prop) (dst : Option Tmp) (r : PR) : Prop := r.pre ∧ aOps P w₀ ops rest (putD s dst r.val) h K
def agL (P : Program) (w₀ : World) (ops rest : List Oper) (s : Slots) (h : AHeap) (K : Slots → AHeap → Prop) (dst : Option Tmp) (g : AVal) (want : Bool) (r : PR) : Prop := agP P w₀ ops rest s h K dst g want r
def agQL (P : Program) (w₀ : World) (ops rest : List Oper) (s : Slots) (h : AHeap) (K : Slots → AHeap → Prop) (dst : Option Tmp) (want : Bool) (r : PR) : Option Tmp → Prop
  | none => aOps P w₀ ops rest (putD s dst (.tuple [])) h K
  | some d => agL P w₀ ops rest s h K dst (s.get d) want r
theorem agQL_some {want : Bool} {r : PR} {d : Tmp} : agQL P w₀ ops rest s h K dst want r (some d) = agL P w₀ ops rest s h K dst (s.get d) want r := rfl
theorem ap_loadL (t : TypeId) (x : Operand) : aOps P w₀ ops (⟨dst, .load t x, ty, pos, af, none⟩ :: rest) s h K = apL P w₀ ops rest s h K dst (pLoad P w₀ h t (ev s x)) := by rw [ap_load]; rfl
theorem ag_loadL (t : TypeId) (x : Operand) {j : Nat} {want : Bool} : aOps P w₀ ops (⟨dst, .load t x, ty, pos, af, some (j, want)⟩ :: rest) s h K = agQL P w₀ ops rest s h K dst want (pLoad P w₀ h t (ev s x)) (nthDst ops j) := by
  rw [ag_load]
  cases nthDst ops j <;> rfl
theorem apL_mk (p : Prop) (v : AVal) : apL P w₀ ops rest s h K dst ⟨p, v⟩ = (p ∧ aOps P w₀ ops rest (putD s dst v) h K) := rfl
theorem agL_mk (g : AVal) (want : Bool) (p : Prop) (v : AVal) : agL P w₀ ops rest s h K dst g want ⟨p, v⟩ = agP P w₀ ops rest s h K dst g want ⟨p, v⟩ := rfl
theorem agL_ld5 (b : Bool) (t : TypeId) (x : AVal) : agL P w₀ ops rest s h K dst (.bool (!b)) false (pLoad P w₀ h t (condV b x)) = agL P w₀ ops rest s h K dst (.bool (!b)) false (pLoad P w₀ h t x) := by
  cases b <;> first | rfl | simp [agL, agP, guardB, condV]
theorem agL_ld6 (c b : Bool) (t : TypeId) (x : AVal) : agL P w₀ ops rest s h K dst (condV c (.bool (!b))) false (pLoad P w₀ h t (condV (c && b) x)) = agL P w₀ ops rest s h K dst (condV c (.bool (!b))) false (pLoad P w₀ h t x) := by
  cases c <;> cases b <;> first | rfl | simp [agL, agP, guardB, condV]
theorem agL_il5 (b : Bool) (t : TypeId) (x y : AVal) : agL P w₀ ops rest s h K dst (.bool (!b)) false (pIndexAddr P t (condV b x) y) = agL P w₀ ops rest s h K dst (.bool (!b)) false (pIndexAddr P t x y) := by
  cases b <;> first | rfl | simp [agL, agP, guardB, condV]
theorem agL_il6 (c b : Bool) (t : TypeId) (x y : AVal) : agL P w₀ ops rest s h K dst (condV c (.bool (!b))) false (pIndexAddr P t (condV (c && b) x) y) = agL P w₀ ops rest s h K dst (condV c (.bool (!b))) false (pIndexAddr P t x y) := by
  cases c <;> cases b <;> first | rfl | simp [agL, agP, guardB, condV]
theorem agL_ir5 (b : Bool) (t : TypeId) (x y : AVal) : agL P w₀ ops rest s h K dst (.bool (!b)) false (pIndexAddr P t x (condV b y)) = agL P w₀ ops rest s h K dst (.bool (!b)) false (pIndexAddr P t x y) := by
  cases b <;> first | rfl | simp [agL, agP, guardB, condV]
theorem agL_ir6 (c b : Bool) (t : TypeId) (x y : AVal) : agL P w₀ ops rest s h K dst (condV c (.bool (!b))) false (pIndexAddr P t x (condV (c && b) y)) = agL P w₀ ops rest s h K dst (condV c (.bool (!b))) false (pIndexAddr P t x y) := by
  cases c <;> cases b <;> first | rfl | simp [agL, agP, guardB, condV]
theorem agL_ld1 (b : Bool) (t : TypeId) (x : AVal) : agL P w₀ ops rest s h K dst (.bool b) true (pLoad P w₀ h t (condV b x)) = agL P w₀ ops rest s h K dst (.bool b) true (pLoad P w₀ h t x) := by
  cases b <;> first | rfl | simp [agL, agP, guardB, condV]
theorem agL_ld2 (b : Bool) (t : TypeId) (x : AVal) : agL P w₀ ops rest s h K dst (.bool b) false (pLoad P w₀ h t (condV (!b) x)) = agL P w₀ ops rest s h K dst (.bool b) false (pLoad P w₀ h t x) := by
  cases b <;> first | rfl | simp [agL, agP, guardB, condV]
theorem agL_ld3 (c b : Bool) (t : TypeId) (x : AVal) : agL P w₀ ops rest s h K dst (condV c (.bool b)) true (pLoad P w₀ h t (condV (c && b) x)) = agL P w₀ ops rest s h K dst (condV c (.bool b)) true (pLoad P w₀ h t x) := by
  cases c <;> cases b <;> first | rfl | simp [agL, agP, guardB, condV]
theorem agL_ld4 (c b : Bool) (t : TypeId) (x : AVal) : agL P w₀ ops rest s h K dst (condV c (.bool b)) false (pLoad P w₀ h t (condV (c && !b) x)) = agL P w₀ ops rest s h K dst (condV c (.bool b)) false (pLoad P w₀ h t x) := by
  cases c <;> cases b <;> first | rfl | simp [agL, agP, guardB, condV]
theorem agL_il1 (b : Bool) (t : TypeId) (x y : AVal) : agL P w₀ ops rest s h K dst (.bool b) true (pIndexAddr P t (condV b x) y) = agL P w₀ ops rest s h K dst (.bool b) true (pIndexAddr P t x y) := by
  cases b <;> first | rfl | simp [agL, agP, guardB, condV]
theorem agL_il2 (b : Bool) (t : TypeId) (x y : AVal) : agL P w₀ ops rest s h K dst (.bool b) false (pIndexAddr P t (condV (!b) x) y) = agL P w₀ ops rest s h K dst (.bool b) false (pIndexAddr P t x y) := by
  cases b <;> first | rfl | simp [agL, agP, guardB, condV]
theorem agL_il3 (c b : Bool) (t : TypeId) (x y : AVal) : agL P w₀ ops rest s h K dst (condV c (.bool b)) true (pIndexAddr P t (condV (c && b) x) y) = agL P w₀ ops rest s h K dst (condV c (.bool b)) true (pIndexAddr P t x y) := by
  cases c <;> cases b <;> first | rfl | simp [agL, agP, guardB, condV]
theorem agL_il4 (c b : Bool) (t : TypeId) (x y : AVal) : agL P w₀ ops rest s h K dst (condV c (.bool b)) false (pIndexAddr P t (condV (c && !b) x) y) = agL P w₀ ops rest s h K dst (condV c (.bool b)) false (pIndexAddr P t x y) := by
  cases c <;> cases b <;> first | rfl | simp [agL, agP, guardB, condV]
theorem agL_ir1 (b : Bool) (t : TypeId) (x y : AVal) : agL P w₀ ops rest s h K dst (.bool b) true (pIndexAddr P t x (condV b y)) = agL P w₀ ops rest s h K dst (.bool b) true (pIndexAddr P t x y) := by
  cases b <;> first | rfl | simp [agL, agP, guardB, condV]
theorem agL_ir2 (b : Bool) (t : TypeId) (x y : AVal) : agL P w₀ ops rest s h K dst (.bool b) false (pIndexAddr P t x (condV (!b) y)) = agL P w₀ ops rest s h K dst (.bool b) false (pIndexAddr P t x y) := by
  cases b <;> first | rfl | simp [agL, agP, guardB, condV]
theorem agL_ir3 (c b : Bool) (t : TypeId) (x y : AVal) : agL P w₀ ops rest s h K dst (condV c (.bool b)) true (pIndexAddr P t x (condV (c && b) y)) = agL P w₀ ops rest s h K dst (condV c (.bool b)) true (pIndexAddr P t x y) := by
  cases c <;> cases b <;> first | rfl | simp [agL, agP, guardB, condV]
theorem agL_ir4 (c b : Bool) (t : TypeId) (x y : AVal) : agL P w₀ ops rest s h K dst (condV c (.bool b)) false (pIndexAddr P t x (condV (c && !b) y)) = agL P w₀ ops rest s h K dst (condV c (.bool b)) false (pIndexAddr P t x y) := by
  cases c <;> cases b <;> first | rfl | simp [agL, agP, guardB, condV]

theorem ap_indexAddrL (t : TypeId) (x i : Operand) : aOps P w₀ ops (⟨dst, .indexAddr t x i, ty, pos, af, none⟩ :: rest) s h K = apL P w₀ ops rest s h K dst (pIndexAddr P t (ev s x) (ev s i)) := by rw [ap_indexAddr]; rfl
section
variable {v : AVal} {bs : List UInt8} (hb : IsB w₀ h v bs)
include hb
end
end
/-! ### A slice of bytes of the call's own that is written -/
/-- The heap in which a slice of the call's own holds other bytes. -/
def updB (got : AVal) (h : AHeap) (T : List UInt8) : AHeap :=
  match got with
  | .slice (.own k) _ _ _ => h.set k ⟨byteCells T, 0⟩
  | _ => h

theorem FreshB.upd {h₀ h h2 : AHeap} {T : List UInt8} {got : AVal} (hf : FreshB h₀ T got h) (hs : Sub h h2) : Sub h2 (updB got h2 T) ∧ Sub (updB got h2 T) h2 := by
  rcases hf with ⟨rfl, rfl, rfl⟩ | ⟨k, hk, rfl, rfl⟩
  · exact ⟨Sub.refl _, Sub.refl _⟩
  · have e : h2.set k ⟨byteCells T, 0⟩ = h2 := by
      funext j
      by_cases ej : j = k
      · subst ej; rw [AHeap.set_same]; exact (hs _ _ (AHeap.set_same _ _ _)).symm
      · rw [AHeap.set_ne _ _ ej]
    simp only [updB, e]
    exact ⟨Sub.refl _, Sub.refl _⟩
section
variable {P : Program} {w₀ : World} {ops rest : List Oper} {s : Slots} {h : AHeap} {K : Slots → AHeap → Prop} {dst : Option Tmp} {ty : TypeId} {pos : String} {af : Array Edge}
end

end Go.AM

/-
  An assertion layer over the model's wp, part O: what comes into a law, as symbolic values.
  Conditions: none. Nothing here is about a particular program.
-/
namespace Go.AM
open Go.RowKit (Below)

theorem wf_u8 {n : Int} (h : (Lit.int .u8 n).wf = true) : 0 ≤ n ∧ n ≤ 255 := by
  have e1 : IntKind.u8.min = 0 := by decide
  have e2 : IntKind.u8.max = 255 := by decide
  simpa [Lit.wf, e1, e2] using h
theorem str_le {s : ByteArray} (h : s.size ≤ maxLen) : s.data.toList.length ≤ 9223372036854775807 := by
  have : s.data.toList.length = s.size := rfl
  rw [this]; exact h
theorem VR_strArg (φ : PMap) (s : ByteArray) : VR φ (.str s.data.toList) (.string s) := by simp [VR]

theorem cell_lt {w : World} {b o : Nat} {v : Value} (h : w.cell? ⟨b, o, none⟩ = some v) : b < w.heap.size := by
  simp only [World.cell?] at h
  cases hb : w.heap[b]? with
  | none => simp [hb] at h
  | some x => exact (Array.getElem?_eq_some_iff.1 hb).1

end Go.AM

