/-
  An assertion layer over the model's wp, part A: symbolic values, symbolic heaps, and how they stand to a concrete world.
  Conditions: none. Nothing here is about a particular program.
-/
import Derived.WalkKit
set_option linter.unusedSimpArgs false
set_option linter.unnecessarySimpa false
set_option linter.unusedVariables false
namespace Go.AM
open Go.RowKit (Below)

/-- Where a symbolic address lies: in a block that was there when the law was called, or in one of the call's own. -/
inductive Loc where
  | base (b : Nat)
  | own (k : Nat)
  deriving DecidableEq

/-- The capacity of a slice: known, or whatever room its row has behind it (es: cells per element). -/
inductive Cap where
  | exact (c : Nat)
  | grow (es : Nat)
  deriving DecidableEq

inductive AVal where
  | dead
  | bool (b : Bool)
  | int (k : IntKind) (n : Int)
  | str (s : List UInt8)
  | nilPtr
  | ptr (l : Loc) (o : Nat)
  | nilSlice
  | slice (l : Loc) (o len : Nat) (c : Cap)
  | nilFunc
  | func (f : FuncId) (cap : List AVal)
  | nilIface
  | iface (t : TypeId) (v : AVal)
  | nilMap
  | agg (cs : List AVal)
  | tuple (vs : List AVal)

instance : Inhabited AVal := ⟨.dead⟩

structure Place where
  blk : Nat
  off : Nat
  room : Nat

abbrev PMap := Nat → Option Place

def locAddr (φ : PMap) : Loc → Nat → Option Addr
  | .base b, o => some ⟨b, o, none⟩
  | .own k, o => (φ k).map fun p => ⟨p.blk, p.off + o, none⟩

mutual
/-- The value v is what the symbolic value says, the call's own blocks lying where φ says. -/
def VR (φ : PMap) : AVal → Value → Prop
  | .dead, _ => True
  | .bool b, v => v = .bool b
  | .int k n, v => v = .int k n
  | .str s, v => v = .string ⟨⟨s⟩⟩
  | .nilPtr, v => v = .pointer none
  | .ptr l o, v => ∃ a, locAddr φ l o = some a ∧ v = .pointer (some a)
  | .nilSlice, v => v = .slice none 0 0
  | .slice l o len c, v => match c with
    | .exact c => ∃ a, v = .slice (some a) len c ∧ (c ≠ 0 ∨ len ≠ 0 → locAddr φ l o = some a)
    | .grow es => ∃ k p c a, l = .own k ∧ φ k = some p ∧ v = .slice (some a) len c ∧ len ≤ c ∧ (c ≠ 0 → a = ⟨p.blk, p.off + o, none⟩ ∧ o + c * es = p.room)
  | .nilFunc, v => v = .nilFunc
  | .func f cs, v => ∃ vs : List Value, v = .func (.func f) #[] vs.toArray ∧ VRs φ cs vs
  | .nilIface, v => v = .nilIface
  | .iface t x, v => ∃ y, v = .iface t y ∧ VR φ x y
  | .nilMap, v => v = .map none
  | .agg cs, v => ∃ vs : List Value, v = .agg vs.toArray ∧ VRs φ cs vs
  | .tuple cs, v => ∃ vs : List Value, v = .tuple vs.toArray ∧ VRs φ cs vs
def VRs (φ : PMap) : List AVal → List Value → Prop
  | [], vs => vs = []
  | c :: cs, vs => ∃ v vs', vs = v :: vs' ∧ VR φ c v ∧ VRs φ cs vs'
end

def PMap.le (φ ψ : PMap) : Prop := ∀ k p, φ k = some p → ψ k = some p

theorem PMap.le_refl (φ : PMap) : φ.le φ := fun _ _ h => h
theorem PMap.le_trans {φ ψ χ : PMap} (h : φ.le ψ) (h' : ψ.le χ) : φ.le χ := fun k p hk => h' k p (h k p hk)

theorem locAddr_mono {φ ψ : PMap} (h : φ.le ψ) {l : Loc} {o : Nat} {a : Addr} (ha : locAddr φ l o = some a) : locAddr ψ l o = some a := by
  cases l with
  | base b => exact ha
  | own k =>
    simp only [locAddr, Option.map_eq_some_iff] at ha ⊢
    obtain ⟨p, hp, rfl⟩ := ha
    exact ⟨p, h k p hp, rfl⟩

mutual
theorem VR_mono {φ ψ : PMap} (h : φ.le ψ) : ∀ (x : AVal) (v : Value), VR φ x v → VR ψ x v
  | .dead, _, hv => hv
  | .bool _, _, hv => hv
  | .int _ _, _, hv => hv
  | .str _, _, hv => hv
  | .nilPtr, _, hv => hv
  | .ptr _ _, _, hv => by
    simp only [VR] at hv ⊢
    obtain ⟨a, ha, rfl⟩ := hv
    exact ⟨a, locAddr_mono h ha, rfl⟩
  | .nilSlice, _, hv => hv
  | .slice _ _ _ c, _, hv => by
    cases c with
    | exact c =>
      simp only [VR] at hv ⊢
      obtain ⟨a, rfl, ha⟩ := hv
      exact ⟨a, rfl, fun hc => locAddr_mono h (ha hc)⟩
    | grow es =>
      simp only [VR] at hv ⊢
      obtain ⟨k, p, c, a, hl, hp, rest⟩ := hv
      exact ⟨k, p, c, a, hl, h k p hp, rest⟩
  | .nilFunc, _, hv => hv
  | .func _ cs, _, hv => by
    simp only [VR] at hv ⊢
    obtain ⟨vs, rfl, hs⟩ := hv
    exact ⟨vs, rfl, VRs_mono h cs vs hs⟩
  | .nilIface, _, hv => hv
  | .iface _ x, _, hv => by
    simp only [VR] at hv ⊢
    obtain ⟨y, rfl, hy⟩ := hv
    exact ⟨y, rfl, VR_mono h x y hy⟩
  | .nilMap, _, hv => hv
  | .agg cs, _, hv => by
    simp only [VR] at hv ⊢
    obtain ⟨vs, rfl, hs⟩ := hv
    exact ⟨vs, rfl, VRs_mono h cs vs hs⟩
  | .tuple cs, _, hv => by
    simp only [VR] at hv ⊢
    obtain ⟨vs, rfl, hs⟩ := hv
    exact ⟨vs, rfl, VRs_mono h cs vs hs⟩
theorem VRs_mono {φ ψ : PMap} (h : φ.le ψ) : ∀ (xs : List AVal) (vs : List Value), VRs φ xs vs → VRs ψ xs vs
  | [], _, hv => hv
  | x :: xs, vs, hv => by
    simp only [VRs] at hv ⊢
    obtain ⟨v, vs', rfl, h1, h2⟩ := hv
    exact ⟨v, vs', rfl, VR_mono h x v h1, VRs_mono h xs vs' h2⟩
end

/-! ### A concrete value as a symbolic one -/
def absS : Value → AVal
  | .bool b => .bool b
  | .int k n => .int k n
  | .string s => .str s.data.toList
  | .pointer none => .nilPtr
  | .pointer (some ⟨b, o, none⟩) => .ptr (.base b) o
  | .slice none 0 0 => .nilSlice
  | .slice (some ⟨b, o, none⟩) len cap => .slice (.base b) o len (.exact cap)
  | .nilFunc => .nilFunc
  | .nilIface => .nilIface
  | .map none => .nilMap
  | _ => .dead
def absV : Value → AVal
  | .agg cs => .agg (cs.toList.map absS)
  | .tuple cs => .tuple (cs.toList.map absS)
  | v => absS v

theorem VR_absS (φ : PMap) (v : Value) : VR φ (absS v) v := by
  unfold absS
  split <;> simp [VR, locAddr]

theorem VRs_absS (φ : PMap) : ∀ l : List Value, VRs φ (l.map absS) l
  | [] => by simp [VRs]
  | v :: l => by
    simp only [List.map_cons, VRs]
    exact ⟨v, l, rfl, VR_absS φ v, VRs_absS φ l⟩

theorem VR_absV (φ : PMap) (v : Value) : VR φ (absV v) v := by
  unfold absV
  split
  · rename_i cs
    simp only [VR]
    exact ⟨cs.toList, by simp, VRs_absS φ _⟩
  · rename_i cs
    simp only [VR]
    exact ⟨cs.toList, by simp, VRs_absS φ _⟩
  · exact VR_absS φ v

/-! ### Lists of values -/
theorem VRs_length {φ : PMap} : ∀ {xs : List AVal} {vs : List Value}, VRs φ xs vs → vs.length = xs.length
  | [], _, h => by simp only [VRs] at h; simp [h]
  | x :: xs, vs, h => by
    simp only [VRs] at h
    obtain ⟨v, vs', rfl, _, h2⟩ := h
    simp [VRs_length h2]

theorem VRs_get {φ : PMap} : ∀ {xs : List AVal} {vs : List Value}, VRs φ xs vs → ∀ (j : Nat) (d : Value), j < xs.length → VR φ (xs.getD j .dead) (vs.getD j d)
  | [], _, _, j, _, hj => by simp at hj
  | x :: xs, vs, h, j, d, hj => by
    simp only [VRs] at h
    obtain ⟨v, vs', rfl, h1, h2⟩ := h
    cases j with
    | zero => simpa using h1
    | succ j => simpa using VRs_get h2 j d (by simpa using hj)

theorem VRs_of_get {φ : PMap} : ∀ {xs : List AVal} {vs : List Value}, vs.length = xs.length → (∀ j, j < xs.length → VR φ (xs.getD j .dead) (vs.getD j default)) → VRs φ xs vs
  | [], vs, hl, _ => by simp only [VRs]; exact List.eq_nil_of_length_eq_zero (by simpa using hl)
  | x :: xs, vs, hl, h => by
    cases vs with
    | nil => simp at hl
    | cons v vs' =>
      simp only [VRs]
      exact ⟨v, vs', rfl, by simpa using h 0 (by simp), VRs_of_get (by simpa using hl) fun j hj => by simpa using h (j + 1) (by simpa using hj)⟩

theorem VRs_append {φ : PMap} {xs ys : List AVal} {vs us : List Value} (h : VRs φ xs vs) (h' : VRs φ ys us) : VRs φ (xs ++ ys) (vs ++ us) := by
  induction xs generalizing vs with
  | nil => simp only [VRs] at h; subst h; simpa using h'
  | cons x xs ih =>
    simp only [VRs] at h
    obtain ⟨v, vs', rfl, h1, h2⟩ := h
    simp only [List.cons_append, VRs]
    exact ⟨v, vs' ++ us, rfl, h1, ih h2⟩

theorem VRs_drop {φ : PMap} : ∀ (n : Nat) {xs : List AVal} {vs : List Value}, VRs φ xs vs → VRs φ (xs.drop n) (vs.drop n)
  | 0, _, _, h => by simpa using h
  | n + 1, [], vs, h => by simp only [VRs] at h; subst h; simp [VRs]
  | n + 1, x :: xs, vs, h => by
    simp only [VRs] at h
    obtain ⟨v, vs', rfl, _, h2⟩ := h
    simpa using VRs_drop n h2

theorem VRs_take {φ : PMap} : ∀ (n : Nat) {xs : List AVal} {vs : List Value}, VRs φ xs vs → VRs φ (xs.take n) (vs.take n)
  | 0, _, _, _ => by simp [VRs]
  | n + 1, [], vs, h => by simp only [VRs] at h; subst h; simp [VRs]
  | n + 1, x :: xs, vs, h => by
    simp only [VRs] at h
    obtain ⟨v, vs', rfl, h1, h2⟩ := h
    simp only [List.take_succ_cons, VRs]
    exact ⟨v, vs'.take n, rfl, h1, VRs_take n h2⟩

theorem VRs_set {φ : PMap} : ∀ {xs : List AVal} {vs : List Value}, VRs φ xs vs → ∀ (j : Nat) {x : AVal} {v : Value}, VR φ x v → VRs φ (xs.set j x) (vs.set j v)
  | [], vs, h, j, _, _, _ => by simp only [VRs] at h; subst h; simp [VRs]
  | y :: xs, vs, h, j, x, v, hv => by
    simp only [VRs] at h
    obtain ⟨u, vs', rfl, h1, h2⟩ := h
    cases j with
    | zero => simp only [List.set_cons_zero, VRs]; exact ⟨v, vs', rfl, hv, h2⟩
    | succ j => simp only [List.set_cons_succ, VRs]; exact ⟨u, vs'.set j v, rfl, h1, VRs_set h2 j hv⟩

/-! ### The heap -/
structure Blk where
  cells : List AVal
  frz : Nat := 0

abbrev AHeap := Nat → Option Blk

def AHeap.set (h : AHeap) (k : Nat) (b : Blk) : AHeap := fun j => if j = k then some b else h j
def AHeap.del (h : AHeap) (k : Nat) : AHeap := fun j => if j = k then none else h j

theorem AHeap.set_same (h : AHeap) (k : Nat) (b : Blk) : h.set k b k = some b := by simp [AHeap.set]
theorem AHeap.set_ne (h : AHeap) {k j : Nat} (b : Blk) (hj : j ≠ k) : h.set k b j = h j := by simp [AHeap.set, hj]
theorem AHeap.set_set (h : AHeap) (k : Nat) (b c : Blk) : (h.set k b).set k c = h.set k c := by
  funext j; by_cases e : j = k <;> simp [AHeap.set, e]
theorem AHeap.del_set (h : AHeap) (k : Nat) (b : Blk) : (h.set k b).del k = h.del k := by
  funext j; by_cases e : j = k <;> simp [AHeap.set, AHeap.del, e]
theorem AHeap.del_none (h : AHeap) (k : Nat) (hk : h k = none) : h.del k = h := by
  funext j; by_cases e : j = k
  · subst e; simp [AHeap.del, hk]
  · simp [AHeap.del, e]
theorem AHeap.set_comm (h : AHeap) {k j : Nat} (b c : Blk) (hj : j ≠ k) : (h.set k b).set j c = (h.set j c).set k b := by
  funext i; by_cases e : i = j <;> by_cases e' : i = k <;> simp_all [AHeap.set]
theorem AHeap.del_comm (h : AHeap) {k j : Nat} (b : Blk) (hj : j ≠ k) : (h.set k b).del j = (h.del j).set k b := by
  funext i; by_cases e : i = j <;> by_cases e' : i = k <;> simp_all [AHeap.set, AHeap.del]

/-- The row of block b in the concrete world. -/
structure BlkOk (φ : PMap) (b : Blk) (p : Place) (w : World) : Prop where
  row : ∃ cs e lo hi, w.heap[p.blk]? = some (.cells cs e (lo, hi)) ∧ p.off + p.room = cs.size ∧ b.cells.length ≤ p.room ∧ b.frz ≤ b.cells.length ∧
    VRs φ b.cells ((cs.toList.drop p.off).take b.cells.length) ∧ (lo ≤ hi ∧ ∀ i, lo ≤ i → i < hi → (0 < b.frz ∧ i < p.off + b.frz) ∨ cs.size ≤ i)

/-- The element type that a block's name promises: powers of two promise one, all other names none. -/
def tyOf (k : Nat) : Option TypeId := if k = 2 ^ k.log2 then some (k.log2 % 4096) else none
/-- What a name promises of its block: a row of that type, told from its first cell on. -/
def TyOk (k : Nat) (p : Place) (w : World) : Prop := ∀ t, tyOf k = some t → p.off = 0 ∧ ∃ cs fr, w.heap[p.blk]? = some (.cells cs t fr)
theorem TyOk.world {k : Nat} {p : Place} {w w' : World} (h : TyOk k p w) (hw : w'.heap[p.blk]? = w.heap[p.blk]?) : TyOk k p w' := fun t ht => by rw [hw]; exact h t ht
theorem TyOk.none {k : Nat} {p : Place} {w : World} (h : tyOf k = Option.none) : TyOk k p w := fun t ht => by rw [h] at ht; cases ht
theorem tyOf_pow (e : TypeId) (he : e < 4096) (N : Nat) : ∃ k, N ≤ k ∧ tyOf k = some e := by
  refine ⟨2 ^ (4096 * N + e), ?_, ?_⟩
  · have := @Nat.lt_two_pow_self (4096 * N + e)
    omega
  · unfold tyOf
    rw [Nat.log2_two_pow, if_pos rfl, Nat.mul_add_mod, Nat.mod_eq_of_lt he]
/-- However long a run of names that promise nothing is wanted, there is one. -/
theorem tyOf_run (N L : Nat) : ∃ M, N ≤ M ∧ ∀ i, i < L → tyOf (M + i) = none := by
  refine ⟨2 ^ (N + L + 1) + 1, ?_, fun i hi => ?_⟩
  · have := @Nat.lt_two_pow_self (N + L + 1)
    omega
  · have h1 := @Nat.lt_two_pow_self (N + L + 1)
    have h2 : (2 ^ (N + L + 1) + 1 + i).log2 = N + L + 1 := by
      rw [Nat.log2_eq_iff (by omega)]
      rw [Nat.pow_succ 2 (N + L + 1)]
      omega
    unfold tyOf
    rw [h2, if_neg (by omega)]

/-- How a symbolic heap stands to a world: w₀ is the world in which the law was called. -/
structure HRel (w₀ : World) (φ : PMap) (h : AHeap) (w : World) : Prop where
  below : Below w₀.heap.size w₀ w
  own : ∀ k b, h k = some b → ∃ p, φ k = some p ∧ w₀.heap.size ≤ p.blk ∧ BlkOk φ b p w
  inj : ∀ k k' b b' p p', h k = some b → h k' = some b' → φ k = some p → φ k' = some p' → p.blk = p'.blk → k = k'
  lt : ∀ k p, φ k = some p → p.blk < w.heap.size
  fin : ∃ N, ∀ k, N ≤ k → φ k = none
  typ : ∀ k p, φ k = some p → TyOk k p w

theorem HRel.start (w : World) : HRel w (fun _ => none) (fun _ => none) w :=
  ⟨Below.refl _ _, by simp, by simp, by simp, ⟨0, by simp⟩, by simp⟩

/-- Blocks may be forgotten. -/
theorem HRel.forget {w₀ w : World} {φ : PMap} {h h' : AHeap} (hr : HRel w₀ φ h w) (hs : ∀ k b, h' k = some b → h k = some b) : HRel w₀ φ h' w :=
  ⟨hr.below, fun k b hb => hr.own k b (hs k b hb), fun k k' b b' p p' hb hb' => hr.inj k k' b b' p p' (hs k b hb) (hs k' b' hb'), hr.lt, hr.fin, hr.typ⟩

theorem BlkOk.mono {φ ψ : PMap} {b : Blk} {p : Place} {w : World} (h : BlkOk φ b p w) (hl : φ.le ψ) : BlkOk ψ b p w := by
  obtain ⟨cs, e, lo, hi, h1, h2, h3, h4, h5, h6⟩ := h.row
  exact ⟨cs, e, lo, hi, h1, h2, h3, h4, VRs_mono hl _ _ h5, h6⟩

theorem BlkOk.world {φ : PMap} {b : Blk} {p : Place} {w w' : World} (h : BlkOk φ b p w) (hw : w'.heap[p.blk]? = w.heap[p.blk]?) : BlkOk φ b p w' := by
  obtain ⟨cs, e, lo, hi, h1, rest⟩ := h.row
  exact ⟨cs, e, lo, hi, by rw [hw]; exact h1, rest⟩

/-- A world that agrees below the old heap's end (a callee that lays blocks and writes only to these) still fits. -/
theorem HRel.later {w₀ w w' : World} {φ : PMap} {h : AHeap} (hr : HRel w₀ φ h w) (hb : Below w.heap.size w w') : HRel w₀ φ h w' := by
  refine ⟨hr.below.trans (hb.mono hr.below.size), fun k b hk => ?_, hr.inj, fun k p hk => Nat.lt_of_lt_of_le (hr.lt k p hk) hb.size, hr.fin, fun k p hk => (hr.typ k p hk).world (hb.block _ (hr.lt k p hk))⟩
  obtain ⟨p, hp, h1, h2⟩ := hr.own k b hk
  exact ⟨p, hp, h1, h2.world (hb.block _ (hr.lt k p hp))⟩

/-- A new block. -/
theorem HRel.push {w₀ w w' : World} {φ : PMap} {h : AHeap} (hr : HRel w₀ φ h w) (k : Nat) (hk : h k = none) (hφ : φ k = none) (b : Blk) (p : Place)
    (hb : Below w.heap.size w w') (hp : w.heap.size ≤ p.blk) (hp' : p.blk < w'.heap.size) (ok : BlkOk (fun j => if j = k then some p else φ j) b p w') (ht : TyOk k p w') :
    φ.le (fun j => if j = k then some p else φ j) ∧ HRel w₀ (fun j => if j = k then some p else φ j) (h.set k b) w' := by
  have hle : φ.le (fun j => if j = k then some p else φ j) := fun j q hj => by
    by_cases e : j = k
    · subst e; rw [hφ] at hj; cases hj
    · simp [e, hj]
  have old : ∀ j b', h j = some b' → j ≠ k := fun j b' hj e => by subst e; rw [hk] at hj; cases hj
  refine ⟨hle, hr.below.trans (hb.mono hr.below.size), fun j b' hj => ?_, fun j j' b1 b2 p1 p2 h1 h2 f1 f2 e => ?_, fun j q hj => ?_, ?_, fun j q hj => ?_⟩
  · by_cases e : j = k
    · subst e
      simp only [AHeap.set_same, Option.some.injEq] at hj
      subst hj
      exact ⟨p, by simp, Nat.le_trans hr.below.size hp, ok⟩
    · rw [AHeap.set_ne _ _ e] at hj
      obtain ⟨q, hq, h1, h2⟩ := hr.own j b' hj
      exact ⟨q, by simp [e, hq], h1, (h2.world (hb.block _ (hr.lt j q hq))).mono hle⟩
  · by_cases e1 : j = k <;> by_cases e2 : j' = k
    · rw [e1, e2]
    · exfalso
      simp only [e1, if_true, Option.some.injEq] at f1
      simp only [e2, if_false] at f2
      have := hr.lt j' p2 f2
      subst f1
      omega
    · exfalso
      simp only [e2, if_true, Option.some.injEq] at f2
      simp only [e1, if_false] at f1
      have := hr.lt j p1 f1
      subst f2
      omega
    · rw [AHeap.set_ne _ _ e1] at h1
      rw [AHeap.set_ne _ _ e2] at h2
      simp only [e1, e2, if_false] at f1 f2
      exact hr.inj j j' b1 b2 p1 p2 h1 h2 f1 f2 e
  · by_cases e : j = k
    · simp only [e, if_true, Option.some.injEq] at hj
      subst hj; exact hp'
    · simp only [e, if_false] at hj
      exact Nat.lt_of_lt_of_le (hr.lt j q hj) hb.size
  · obtain ⟨N, hN⟩ := hr.fin
    exact ⟨max N (k + 1), fun j hj => by
      have h1 : j ≠ k := by omega
      simp only [h1, if_false]
      exact hN j (by omega)⟩
  · by_cases e : j = k
    · subst e
      simp only [if_true, Option.some.injEq] at hj
      subst hj; exact ht
    · simp only [e, if_false] at hj
      exact (hr.typ j q hj).world (hb.block _ (hr.lt j q hj))

theorem HRel.free {w₀ w : World} {φ : PMap} {h : AHeap} (hr : HRel w₀ φ h w) {k : Nat} (hφ : φ k = none) : h k = none := by
  cases e : h k with
  | none => rfl
  | some b =>
    obtain ⟨p, hp, _⟩ := hr.own _ b e
    rw [hφ] at hp
    cases hp
theorem HRel.freshN {w₀ w : World} {φ : PMap} {h : AHeap} (hr : HRel w₀ φ h w) : ∃ k, h k = none ∧ φ k = none ∧ tyOf k = none := by
  obtain ⟨N, hN⟩ := hr.fin
  obtain ⟨M, h1, h2⟩ := tyOf_run N 1
  exact ⟨M, hr.free (hN M h1), hN M h1, h2 0 (by omega)⟩
/-- A name that promises a type, where there is one. -/
theorem HRel.freshE {w₀ w : World} {φ : PMap} {h : AHeap} (hr : HRel w₀ φ h w) (e : TypeId) : ∃ k, h k = none ∧ φ k = none ∧ (e < 4096 → tyOf k = some e) ∧ ∀ t, tyOf k = some t → t = e := by
  by_cases he : e < 4096
  · obtain ⟨N, hN⟩ := hr.fin
    obtain ⟨k, h1, h2⟩ := tyOf_pow e he N
    exact ⟨k, hr.free (hN k h1), hN k h1, fun _ => h2, fun t ht => by rw [h2] at ht; exact (Option.some.inj ht).symm⟩
  · obtain ⟨k, h1, h2, h3⟩ := hr.freshN
    exact ⟨k, h1, h2, fun h => absurd h he, fun t ht => by rw [h3] at ht; cases ht⟩
theorem tyOf_lt {k : Nat} {t : TypeId} (h : tyOf k = some t) : t < 4096 := by
  unfold tyOf at h
  split at h
  · rw [← Option.some.inj h]; exact Nat.mod_lt _ (by omega)
  · cases h
/-- A name that promises what another one does. -/
theorem HRel.freshT {w₀ w : World} {φ : PMap} {h : AHeap} (hr : HRel w₀ φ h w) (k₀ : Nat) : ∃ k, h k = none ∧ φ k = none ∧ tyOf k = tyOf k₀ := by
  cases e : tyOf k₀ with
  | none => exact hr.freshN
  | some t =>
    obtain ⟨k, h1, h2, h3, _⟩ := hr.freshE t
    exact ⟨k, h1, h2, h3 (tyOf_lt e)⟩

/-- A block of the call's own is written. -/
theorem HRel.write {w₀ w w' : World} {φ : PMap} {h : AHeap} (hr : HRel w₀ φ h w) (k : Nat) (b b' : Blk) (p : Place) (hk : h k = some b) (hp : φ k = some p)
    (hsize : w'.heap.size = w.heap.size) (hos : w'.os = w.os) (htape : w'.tape = w.tape) (hout : w'.output = w.output)
    (hother : ∀ i, i ≠ p.blk → w'.heap[i]? = w.heap[i]?) (hty : ∀ cs e fr, w.heap[p.blk]? = some (.cells cs e fr) → ∃ cs' fr', w'.heap[p.blk]? = some (.cells cs' e fr')) (ok : BlkOk φ b' p w') : HRel w₀ φ (h.set k b') w' := by
  obtain ⟨q, hq, hq1, hq2⟩ := hr.own k b hk
  have hpq : q = p := by rw [hp] at hq; exact (Option.some.inj hq).symm
  subst hpq
  refine ⟨⟨hos.trans hr.below.os, htape.trans hr.below.tape, hout.trans hr.below.output, by rw [hsize]; exact hr.below.size, fun i hi => ?_⟩, fun j b1 hj => ?_, fun j j' b1 b2 p1 p2 h1 h2 f1 f2 e => ?_, fun j r hj => by rw [hsize]; exact hr.lt j r hj, hr.fin, fun j r hj t ht => ?_⟩
  · rw [hother i (by omega)]
    exact hr.below.block i hi
  · by_cases e : j = k
    · subst e
      simp only [AHeap.set_same, Option.some.injEq] at hj
      subst hj
      exact ⟨q, hp, hq1, ok⟩
    · rw [AHeap.set_ne _ _ e] at hj
      obtain ⟨r, hr0, hr1, hr2⟩ := hr.own j b1 hj
      refine ⟨r, hr0, hr1, hr2.world (hother _ fun e' => e ?_)⟩
      exact hr.inj j k b1 b r q hj hk hr0 hp e'
  · have g : ∀ i c, h.set k b' i = some c → ∃ c', h i = some c' := fun i c hi => by
      by_cases e : i = k
      · subst e; exact ⟨b, hk⟩
      · rw [AHeap.set_ne _ _ e] at hi; exact ⟨c, hi⟩
    obtain ⟨c1, g1⟩ := g j b1 h1
    obtain ⟨c2, g2⟩ := g j' b2 h2
    exact hr.inj j j' c1 c2 p1 p2 g1 g2 f1 f2 e
  · obtain ⟨h0, cs, fr, hcs⟩ := hr.typ j r hj t ht
    refine ⟨h0, ?_⟩
    by_cases e : r.blk = q.blk
    · rw [e] at hcs ⊢
      exact hty cs t fr hcs
    · exact ⟨cs, fr, by rw [hother _ e]; exact hcs⟩

/-- The cells of a block, one by one. -/
theorem BlkOk.cell {φ : PMap} {b : Blk} {p : Place} {w : World} (h : BlkOk φ b p w) (o : Nat) (ho : o < b.cells.length) :
    ∃ v, w.cell? ⟨p.blk, p.off + o, none⟩ = some v ∧ VR φ (b.cells.getD o .dead) v := by
  obtain ⟨cs, e, lo, hi, h1, h2, h3, h4, h5, h6⟩ := h.row
  have hlt : p.off + o < cs.size := by omega
  refine ⟨cs[p.off + o], ?_, ?_⟩
  · simp [World.cell?, h1, hlt]
  · have := VRs_get h5 o default ho
    have e2 : ((cs.toList.drop p.off).take b.cells.length).getD o default = cs[p.off + o] := by
      simp [List.getD, List.getElem?_drop, ho, hlt]
    rw [e2] at this
    exact this

theorem BlkOk.frozen {φ : PMap} {b : Blk} {p : Place} {w : World} (h : BlkOk φ b p w) (o : Nat) (ho : b.frz ≤ o) (ho' : o < p.room) :
    w.frozen? ⟨p.blk, p.off + o, none⟩ = false := by
  obtain ⟨cs, e, lo, hi, h1, h2, h3, h4, h5, h6⟩ := h.row
  simp only [World.frozen?, h1]
  cases hb : decide (lo ≤ p.off + o) && decide (p.off + o < hi) with
  | false => rfl
  | true =>
    simp at hb
    have := h6.2 (p.off + o) hb.1 hb.2
    omega

/-! ### Reading -/
/-- The cell at a symbolic address; '.dead' where nothing is known. -/
def rd (w₀ : World) (h : AHeap) : Loc → Nat → AVal
  | .base b, o => if b < w₀.heap.size then (match w₀.cell? ⟨b, o, none⟩ with | some v => absS v | none => .dead) else .dead
  | .own k, o => match h k with | some b => b.cells.getD o .dead | none => .dead

def AVal.live : AVal → Bool
  | .dead => false
  | _ => true

theorem HRel.rd {w₀ w : World} {φ : PMap} {h : AHeap} (hr : HRel w₀ φ h w) (l : Loc) (o : Nat) (hl : (rd w₀ h l o).live = true) :
    ∃ a v, locAddr φ l o = some a ∧ w.cell? a = some v ∧ VR φ (AM.rd w₀ h l o) v ∧ a.spot = none := by
  cases l with
  | base b =>
    simp only [AM.rd] at hl ⊢
    by_cases hb : b < w₀.heap.size
    · simp only [hb, if_true] at hl ⊢
      cases hc : w₀.cell? ⟨b, o, none⟩ with
      | none => simp [hc, AVal.live] at hl
      | some v =>
        simp only [locAddr, Option.some.injEq]
        exact ⟨_, v, rfl, by rw [hr.below.cell (p := ⟨b, o, none⟩) hb]; exact hc, VR_absS φ v, rfl⟩
    · simp [hb, AVal.live] at hl
  | own k =>
    simp only [AM.rd] at hl ⊢
    cases hk : h k with
    | none => simp [hk, AVal.live] at hl
    | some b =>
      simp only [hk] at hl ⊢
      obtain ⟨p, hp, _, ok⟩ := hr.own k b hk
      have ho : o < b.cells.length := by
        by_cases hlt : o < b.cells.length
        · exact hlt
        · simp [List.getD, List.getElem?_eq_none (Nat.le_of_not_lt hlt), AVal.live] at hl
      obtain ⟨v, h1, h2⟩ := ok.cell o ho
      exact ⟨_, v, by simp [locAddr, hp], h1, h2, rfl⟩

end Go.AM
