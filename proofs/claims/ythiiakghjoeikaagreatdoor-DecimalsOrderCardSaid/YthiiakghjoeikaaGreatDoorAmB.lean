/-
  An assertion layer over the model's wp, part B: slots, and the operations that only compute or read: what each gives.
  Conditions: none. Nothing here is about a particular program.
-/
import Derived.Test.YthiiakghjoeikaaGreatDoorAmA
import Derived.Lib.Strings
set_option linter.unusedSimpArgs false
set_option linter.unnecessarySimpa false
set_option linter.unusedVariables false
namespace Go.AM
open Go.RowKit (Below)

/-! ### Slots -/
abbrev Slots := List (Nat × AVal)

def Slots.get : Slots → Nat → AVal
  | [], _ => .dead
  | (j, v) :: r, i => if i = j then v else Slots.get r i

def Slots.put : Slots → Nat → AVal → Slots
  | [], i, v => [(i, v)]
  | (j, u) :: r, i, v => if i < j then (i, v) :: (j, u) :: r else if i = j then (i, v) :: r else (j, u) :: Slots.put r i v

def Slots.keep : Slots → List Nat → Slots
  | [], _ => []
  | (j, v) :: r, l => if l.contains j then (j, v) :: Slots.keep r l else Slots.keep r l

theorem Slots.get_put : ∀ (s : Slots) (i : Nat) (v : AVal) (j : Nat), (s.put i v).get j = if j = i then v else s.get j
  | [], i, v, j => by simp [Slots.put, Slots.get]
  | (k, u) :: r, i, v, j => by
    simp only [Slots.put]
    split
    · simp [Slots.get]
    · split
      · rename_i h1 h2
        subst h2
        by_cases e : j = i <;> simp [Slots.get, e]
      · rename_i h1 h2
        simp only [Slots.get]
        rw [Slots.get_put r i v j]
        by_cases e : j = k
        · subst e
          simp [Ne.symm h2]
        · simp [e]

theorem Slots.get_keep : ∀ (s : Slots) (l : List Nat) (j : Nat), (s.keep l).get j = if l.contains j then s.get j else .dead
  | [], l, j => by simp [Slots.keep, Slots.get]
  | (k, u) :: r, l, j => by
    simp only [Slots.keep]
    by_cases hk : l.contains k = true
    · simp only [hk, if_true, Slots.get]
      rw [Slots.get_keep r l j]
      by_cases e : j = k
      · subst e; rw [if_pos rfl, if_pos hk, if_pos rfl]
      · rw [if_neg e, if_neg e]
    · simp only [hk, Slots.get]
      rw [if_neg (by simp), Slots.get_keep r l j]
      by_cases e : j = k
      · subst e; rw [if_neg hk, if_neg hk]
      · rw [if_neg e]

/-- The slots of a frame are what the symbolic ones say. -/
structure SRel (φ : PMap) (n : Nat) (s : Slots) (a : Act) : Prop where
  size : a.tmps.size = n
  defers : a.defers = []
  val : ∀ i, VR φ (s.get i) (a.tmps.getD i undef)

theorem SRel.mono {φ ψ : PMap} {n : Nat} {s : Slots} {a : Act} (h : SRel φ n s a) (hl : φ.le ψ) : SRel ψ n s a :=
  ⟨h.size, h.defers, fun i => VR_mono hl _ _ (h.val i)⟩

theorem SRel.put {φ : PMap} {n : Nat} {s : Slots} {a : Act} (h : SRel φ n s a) (d : Nat) (hd : d < n) {x : AVal} {v : Value} (hv : VR φ x v) :
    SRel φ n (s.put d x) (a.put (some d) v) := by
  refine ⟨by simp [Act.put, h.size], h.defers, fun i => ?_⟩
  rw [Slots.get_put]
  by_cases e : i = d
  · subst e
    have hs : i < a.tmps.size := by rw [h.size]; exact hd
    simp [Act.put, hs]
    exact hv
  · rw [if_neg e]
    have : (a.put (some d) v).tmps.getD i undef = a.tmps.getD i undef := by
      simp [Act.put, Array.getD_eq_getD_getElem?, Array.getElem?_setIfInBounds_ne (Ne.symm e)]
    rw [this]
    exact h.val i

theorem SRel.keep {φ : PMap} {n : Nat} {s : Slots} {a : Act} (h : SRel φ n s a) (l : List Nat) : SRel φ n (s.keep l) a :=
  ⟨h.size, h.defers, fun i => by
    rw [Slots.get_keep]
    split
    · exact h.val i
    · simp [VR]⟩

def ev (s : Slots) : Operand → AVal
  | .tmp t => s.get t
  | .const v => absV v
  | .global g => .ptr (.base g) 0
  | .func f => .func f []

theorem SRel.ev {φ : PMap} {n : Nat} {s : Slots} {a : Act} (h : SRel φ n s a) (x : Operand) : VR φ (ev s x) (a.eval x) := by
  cases x with
  | tmp t => exact h.val t
  | const v => exact VR_absV φ v
  | global g => simp [AM.ev, VR, locAddr, Act.eval]
  | func f => simp only [AM.ev, VR, Act.eval]; exact ⟨[], rfl, by simp [VRs]⟩

/-! ### What a reading operation gives: a condition, and a value -/
structure PR where
  pre : Prop
  val : AVal

def PR.no : PR := ⟨False, .dead⟩

def szOf (P : Program) (t : TypeId) : Option Nat := (P.info? t).map (·.size)
def byOf (P : Program) (t : TypeId) : Option Nat := (P.info? t).map (·.bytes)
def zeOf (P : Program) (t : TypeId) : Option Value := (P.info? t).bind (·.zero)
def aggOf (P : Program) (t : TypeId) : Option Bool :=
  match P.underlying t with
  | some (.struct _) | some (.array _ _) => some true
  | some _ => some false
  | none => none

theorem run_underlying' {P : Program} {t : TypeId} {d : TypeDesc} (h : P.underlying t = some d) (w : World) : (underlying t).run P w = .ok d w := by
  simp [underlying, h]

theorem run_sizeOf' {P : Program} {t : TypeId} {n : Nat} (h : szOf P t = some n) (w : World) : (sizeOf t).run P w = .ok n w := by
  simp only [szOf, Option.map_eq_some_iff] at h
  obtain ⟨i, hi, rfl⟩ := h
  simp [sizeOf, typeInfo, hi]

theorem run_isAgg' {P : Program} {t : TypeId} {b : Bool} (h : aggOf P t = some b) (w : World) : (isAgg t).run P w = .ok b w := by
  unfold aggOf at h
  unfold isAgg
  cases hu : P.underlying t with
  | none => simp [hu] at h
  | some d =>
    simp only [hu] at h
    simp only [Sem.run_bind, run_underlying' hu, Result.andThen_ok]
    cases d <;> simp_all

theorem run_zero' {P : Program} {t : TypeId} {v : Value} (h : zeOf P t = some v) (w : World) : (zeroValue t).run P w = .ok v w := by
  simp only [zeOf, Option.bind_eq_some_iff] at h
  obtain ⟨i, hi, hz⟩ := h
  simp [zeroValue, typeInfo, hi, hz]

/-- The cells from an address on. -/
def cellsAt (w₀ : World) (h : AHeap) (l : Loc) : Nat → Nat → List AVal
  | _, 0 => []
  | o, n + 1 => rd w₀ h l o :: cellsAt w₀ h l (o + 1) n

def allLive : List AVal → Bool
  | [] => true
  | c :: cs => c.live && allLive cs

theorem locAddr_add {φ : PMap} {l : Loc} {o j : Nat} {a : Addr} (h : locAddr φ l o = some a) : locAddr φ l (o + j) = some (a.add j) := by
  unfold Addr.add
  cases l with
  | base b =>
    simp only [locAddr, Option.some.injEq] at h ⊢
    subst h
    by_cases e : j = 0 <;> simp [e]
  | own k =>
    simp only [locAddr, Option.map_eq_some_iff] at h ⊢
    obtain ⟨p, hp, rfl⟩ := h
    refine ⟨p, hp, ?_⟩
    by_cases e : j = 0
    · simp [e]
    · simp [e, Nat.add_assoc]

theorem cells_read {w₀ w : World} {φ : PMap} {h : AHeap} (hr : HRel w₀ φ h w) (l : Loc) : ∀ (n o : Nat) (a : Addr), locAddr φ l o = some a → allLive (cellsAt w₀ h l o n) = true →
    ∃ vs : List Value, vs.length = n ∧ VRs φ (cellsAt w₀ h l o n) vs ∧ ∀ j v, vs[j]? = some v → w.cell? (a.add j) = some v
  | 0, o, a, _, _ => ⟨[], rfl, by simp [cellsAt, VRs], by simp⟩
  | n + 1, o, a, ha, hl => by
    simp only [cellsAt, allLive, Bool.and_eq_true] at hl
    obtain ⟨a', v, h1, h2, h3, h4⟩ := hr.rd l o hl.1
    have : a' = a := by rw [ha] at h1; exact (Option.some.inj h1).symm
    subst this
    obtain ⟨vs, e1, e2, e3⟩ := cells_read hr l n (o + 1) (a'.add 1) (locAddr_add ha) hl.2
    refine ⟨v :: vs, by simp [e1], by simp only [cellsAt, VRs]; exact ⟨v, vs, rfl, h3, e2⟩, fun j u hj => ?_⟩
    cases j with
    | zero => simp only [List.getElem?_cons_zero, Option.some.injEq] at hj; subst hj; simpa [Addr.add] using h2
    | succ j =>
      have := e3 j u (by simpa using hj)
      have e5 : (a'.add 1).add j = a'.add (j + 1) := by
        unfold Addr.add
        by_cases e : j = 0 <;> simp [e, Nat.add_assoc, Nat.add_comm 1]
      rwa [e5] at this

/-! ### The operations -/
def pickV (c : Bool) (a b : AVal) : AVal :=
  match a, b with
  | .bool x, .bool y => .bool (bif c then x else y)
  | _, _ => bif c then a else b

theorem VR_pickV {φ : PMap} {c : Bool} {a b : AVal} {u v : Value} (hu : VR φ a u) (hv : VR φ b v) : VR φ (pickV c a b) (if c then u else v) := by
  unfold pickV
  split
  · simp only [VR] at hu hv ⊢
    subst hu hv
    cases c <;> rfl
  · cases c <;> simpa

def pInt (op : BinOp) (k : IntKind) (a b : Int) : PR :=
  match op with
  | .add => ⟨True, .int k (k.wrap (a + b))⟩
  | .sub => ⟨True, .int k (k.wrap (a - b))⟩
  | .mul => ⟨True, .int k (k.wrap (a * b))⟩
  | .quo => ⟨b ≠ 0, .int k (k.wrap (a.tdiv b))⟩
  | .rem => ⟨b ≠ 0, .int k (a.tmod b)⟩
  | .and => ⟨True, .int k (k.wrap (BitVec.ofInt k.bits a &&& BitVec.ofInt k.bits b).toNat)⟩
  | .or => ⟨True, .int k (k.wrap (BitVec.ofInt k.bits a ||| BitVec.ofInt k.bits b).toNat)⟩
  | .xor => ⟨True, .int k (k.wrap (BitVec.ofInt k.bits a ^^^ BitVec.ofInt k.bits b).toNat)⟩
  | .eql => ⟨True, .bool (decide (a = b))⟩
  | .neq => ⟨True, .bool (!decide (a = b))⟩
  | .lss => ⟨True, .bool (decide (a < b))⟩
  | .leq => ⟨True, .bool (decide (a ≤ b))⟩
  | .gtr => ⟨True, .bool (decide (b < a))⟩
  | .geq => ⟨True, .bool (decide (b ≤ a))⟩
  | _ => .no

def pStr (op : BinOp) (a b : List UInt8) : PR :=
  match op with
  | .add => ⟨a.length + b.length < 9223372036854775808, .str (a ++ b)⟩
  | .eql => ⟨True, .bool (decide (a = b))⟩
  | .neq => ⟨True, .bool (!decide (a = b))⟩
  | .lss => ⟨True, .bool (Op.bytesLess a b)⟩
  | .leq => ⟨True, .bool (Op.bytesLess a b || decide (a = b))⟩
  | .gtr => ⟨True, .bool (!(Op.bytesLess a b || decide (a = b)))⟩
  | .geq => ⟨True, .bool (!Op.bytesLess a b)⟩
  | _ => .no

/-- Of which class a value is that may be nil, and whether it is. -/
def nilK : AVal → Option (Nat × Bool)
  | .nilSlice => some (0, true)
  | .slice _ _ _ _ => some (0, false)
  | .nilPtr => some (1, true)
  | .ptr _ _ => some (1, false)
  | .nilFunc => some (2, true)
  | .func _ _ => some (2, false)
  | .nilMap => some (3, true)
  | _ => none
def tyK (P : Program) (t : TypeId) : Option Nat :=
  match P.underlying t with
  | some (.slice _) => some 0
  | some (.pointer _) => some 1
  | some (.func _ _ _) => some 2
  | some (.map _ _) => some 3
  | _ => none
def pNilEq (P : Program) (op : BinOp) (t : TypeId) (x y : AVal) : PR :=
  match nilK x, nilK y, tyK P t with
  | some (c, a), some (c', b), some c'' => match op with
    | .eql => ⟨(c = c' ∧ c' = c'') ∧ (a = true ∨ b = true), .bool (a && b)⟩
    | .neq => ⟨(c = c' ∧ c' = c'') ∧ (a = true ∨ b = true), .bool (!(a && b))⟩
    | _ => .no
  | _, _, _ => .no

def NilShape (c : Nat) (a : Bool) (u : Value) : Prop :=
  match c with
  | 0 => ∃ o l k, u = .slice o l k ∧ o.isNone = a
  | 1 => ∃ o, u = .pointer o ∧ o.isNone = a
  | 2 => (a = true ∧ u = .nilFunc) ∨ (a = false ∧ ∃ f x y, u = .func f x y)
  | 3 => ∃ o, u = .map o ∧ o.isNone = a
  | _ => False

theorem nilK_shape {φ : PMap} {x : AVal} {u : Value} {c : Nat} {a : Bool} (h : nilK x = some (c, a)) (hx : VR φ x u) : NilShape c a u := by
  cases x with
  | slice l o len cp =>
    cases h
    cases cp with
    | exact cp =>
      simp only [VR] at hx
      obtain ⟨ad, rfl, _⟩ := hx
      exact ⟨_, _, _, rfl, rfl⟩
    | grow g =>
      simp only [VR] at hx
      obtain ⟨k, p, cp, ad, _, _, rfl, _⟩ := hx
      exact ⟨_, _, _, rfl, rfl⟩
  | nilSlice => cases h; simp only [VR] at hx; subst hx; exact ⟨_, _, _, rfl, rfl⟩
  | nilPtr => cases h; simp only [VR] at hx; subst hx; exact ⟨_, rfl, rfl⟩
  | ptr l o => cases h; simp only [VR] at hx; obtain ⟨ad, _, rfl⟩ := hx; exact ⟨_, rfl, rfl⟩
  | nilFunc => cases h; simp only [VR] at hx; subst hx; exact .inl ⟨rfl, rfl⟩
  | func f cs => cases h; simp only [VR] at hx; obtain ⟨vs, rfl, _⟩ := hx; exact .inr ⟨rfl, _, _, _, rfl⟩
  | nilMap => cases h; simp only [VR] at hx; subst hx; exact ⟨_, rfl, rfl⟩
  | _ => cases h

theorem nil_equal {P : Program} {t : TypeId} {c : Nat} {a b : Bool} {u v : Value} (ht : tyK P t = some c) (hu : NilShape c a u) (hv : NilShape c b v) (hab : a = true ∨ b = true) (w : World) :
    (Op.equal t u v).run P w = .ok (a && b) w := by
  unfold tyK at ht
  obtain ⟨d, hdep⟩ : ∃ d, Op.maxDepth = d + 1 := ⟨Op.maxDepth - 1, by decide +kernel⟩
  unfold Op.equal
  rw [hdep]
  split at ht
  · rename_i e hd
    cases ht
    obtain ⟨o, l, k, rfl, rfl⟩ := hu
    obtain ⟨o', l', k', rfl, rfl⟩ := hv
    simp only [Op.equalIn, Sem.run_bind, run_underlying' hd, Result.andThen_ok]
    cases o <;> cases o' <;> simp_all
  · rename_i e hd
    cases ht
    obtain ⟨o, rfl, rfl⟩ := hu
    obtain ⟨o', rfl, rfl⟩ := hv
    simp only [Op.equalIn, Sem.run_bind, run_underlying' hd, Result.andThen_ok]
    cases o <;> cases o' <;> simp_all
  · rename_i x y z hd
    cases ht
    rcases hu with ⟨rfl, rfl⟩ | ⟨rfl, f, x, y, rfl⟩ <;> rcases hv with ⟨rfl, rfl⟩ | ⟨rfl, f', x', y', rfl⟩ <;> simp only [Op.equalIn, Sem.run_bind, run_underlying' hd, Result.andThen_ok] <;> simp at hab ⊢
  · rename_i e f hd
    cases ht
    obtain ⟨o, rfl, rfl⟩ := hu
    obtain ⟨o', rfl, rfl⟩ := hv
    simp only [Op.equalIn, Sem.run_bind, run_underlying' hd, Result.andThen_ok]
    cases o <;> cases o' <;> simp_all
  · cases ht

theorem pNilEq_ok {P : Program} {φ : PMap} {op : BinOp} {t : TypeId} {x y : AVal} {u v : Value} (hp : (pNilEq P op t x y).pre) (hx : VR φ x u) (hy : VR φ y v) (X Y : Operand) :
    ∃ r, (∀ w, (do eqGuard op t X Y u v; binOp op t u v : Sem Value).run P w = .ok r w) ∧ VR φ (pNilEq P op t x y).val r := by
  unfold pNilEq at hp ⊢
  split at hp
  · rename_i c a c' b c'' h1 h2 h3
    have key : ∀ (hc : c = c' ∧ c' = c'') (hab : a = true ∨ b = true), (∀ w, (eqGuard op t X Y u v).run P w = .ok () w) ∧ (∀ w, (Op.equal t u v).run P w = .ok (a && b) w) ∧
        (binOp .eql t u v = (do pure (.bool (← Op.equal t u v)))) ∧ (binOp .neq t u v = (do pure (.bool (!(← Op.equal t u v))))) := by
      intro ⟨e1, e2⟩ hab
      subst e1 e2
      have s1 := nilK_shape h1 hx
      have s2 := nilK_shape h2 hy
      refine ⟨fun w => ?_, nil_equal h3 s1 s2 hab, ?_, ?_⟩
      · unfold eqGuard
        match c, s1, s2 with
        | 0, ⟨_, _, _, e, _⟩, _ => subst e; cases op <;> simp
        | 1, ⟨_, e, _⟩, _ => subst e; cases op <;> simp
        | 2, .inl ⟨_, e⟩, _ => subst e; cases op <;> simp
        | 2, .inr ⟨_, _, _, _, e⟩, _ => subst e; cases op <;> simp
        | 3, ⟨_, e, _⟩, _ => subst e; cases op <;> simp
      · match c, s1, s2 with
        | 0, ⟨_, _, _, e, _⟩, _ => subst e; simp [binOp]
        | 1, ⟨_, e, _⟩, ⟨_, e', _⟩ => subst e e'; simp [binOp]
        | 2, .inl ⟨_, e⟩, _ => subst e; simp [binOp]
        | 2, .inr ⟨_, _, _, _, e⟩, _ => subst e; simp [binOp]
        | 3, ⟨_, e, _⟩, _ => subst e; simp [binOp]
      · match c, s1, s2 with
        | 0, ⟨_, _, _, e, _⟩, _ => subst e; simp [binOp]
        | 1, ⟨_, e, _⟩, ⟨_, e', _⟩ => subst e e'; simp [binOp]
        | 2, .inl ⟨_, e⟩, _ => subst e; simp [binOp]
        | 2, .inr ⟨_, _, _, _, e⟩, _ => subst e; simp [binOp]
        | 3, ⟨_, e, _⟩, _ => subst e; simp [binOp]
    split at hp
    · obtain ⟨hc, hab⟩ := hp
      obtain ⟨k1, k2, k3, _⟩ := key hc hab
      refine ⟨.bool (a && b), fun w => ?_, by simp only [VR]⟩
      rw [k3]
      simp [Sem.run_bind, k1, k2]
    · obtain ⟨hc, hab⟩ := hp
      obtain ⟨k1, k2, _, k4⟩ := key hc hab
      refine ⟨.bool (!(a && b)), fun w => ?_, by simp only [VR]⟩
      rw [k4]
      simp [Sem.run_bind, k1, k2]
    · exact hp.elim
  · exact hp.elim

def pBin (P : Program) (op : BinOp) (t : TypeId) (x y : AVal) : PR :=
  match x, y with
  | .int k a, .int k' b => match op with
    | .shl => ⟨0 ≤ b, .int k (k.wrap (a * 2 ^ (min b.toNat k.bits)))⟩
    | .shr => ⟨0 ≤ b, .int k (a.fdiv (2 ^ (min b.toNat k.bits)))⟩
    | op => if k = k' then pInt op k a b else .no
  | .str a, .str b => pStr op a b
  | .bool a, .bool b => match P.underlying t with
    | some .bool => match op with
      | .eql => ⟨True, .bool (a == b)⟩
      | .neq => ⟨True, .bool (!(a == b))⟩
      | _ => .no
    | _ => .no
  | x, y => pNilEq P op t x y

theorem beq_dec {α : Type} [BEq α] [LawfulBEq α] [DecidableEq α] (a b : α) : (a == b) = decide (a = b) := by
  rw [Bool.eq_iff_iff]; simp

theorem pBin_ok {P : Program} {φ : PMap} {op : BinOp} {t : TypeId} {x y : AVal} {u v : Value} (hp : (pBin P op t x y).pre) (hx : VR φ x u) (hy : VR φ y v) (X Y : Operand) :
    ∃ r, (∀ w, (do eqGuard op t X Y u v; binOp op t u v : Sem Value).run P w = .ok r w) ∧ VR φ (pBin P op t x y).val r := by
  unfold pBin at hp ⊢
  split at hp
  · rename_i k a k' b
    simp only [VR] at hx hy
    subst hx hy
    have hg : ∀ w, (eqGuard op t X Y (.int k a) (.int k' b)).run P w = .ok () w := by
      intro w; unfold eqGuard; cases op <;> simp
    simp only [Sem.run_bind, hg, Result.andThen_ok]
    cases op <;> simp only [] at hp ⊢
    case shl =>
      have : ¬ b < 0 := by omega
      simp [binOp, Op.shift, VR, this]
    case shr =>
      have : ¬ b < 0 := by omega
      simp [binOp, Op.shift, VR, this]
    all_goals
      by_cases hk : k = k'
      · subst hk
        simp only [if_true, pInt] at hp ⊢
        first
          | exact hp.elim
          | (simp [binOp, Op.intArith, Op.intDiv, Op.intBits, Op.intCmp, VR, hp]; done)
          | (simp [binOp, Op.intCmp, VR]; simp [beq_dec, bne])
      · simp only [hk, if_false] at hp
        exact hp.elim
  · rename_i a b
    simp only [VR] at hx hy
    subst hx hy
    have hg : ∀ w, (eqGuard op t X Y (.string ⟨⟨a⟩⟩) (.string ⟨⟨b⟩⟩)).run P w = .ok () w := by
      intro w; unfold eqGuard; cases op <;> simp
    simp only [Sem.run_bind, hg, Result.andThen_ok]
    have e1 : ByteArray.toList ⟨⟨a⟩⟩ = a := by rw [ByteArray.toList_eq]
    have e2 : ByteArray.toList ⟨⟨b⟩⟩ = b := by rw [ByteArray.toList_eq]
    have hbin : binOp op t (.string ⟨⟨a⟩⟩) (.string ⟨⟨b⟩⟩) = Op.stringOp op ⟨⟨a⟩⟩ ⟨⟨b⟩⟩ := by
      cases op <;> simp [binOp]
    rw [hbin]
    unfold pStr at hp ⊢
    unfold Op.stringOp
    rw [e1, e2]
    cases op <;> simp only [] at hp ⊢ <;> first
      | exact hp.elim
      | (simp [VR]; done)
      | (rw [beq_dec]; simp [VR]; done)
      | skip
    have h2 : ¬ ((((⟨⟨a⟩⟩ : ByteArray).size + (⟨⟨b⟩⟩ : ByteArray).size : Nat) : Int) > IntKind.i64.max) := by
      have : IntKind.i64.max = 9223372036854775807 := by decide
      rw [this]
      simp only [ByteArray.size, List.size_toArray] at *
      omega
    refine ⟨.string (⟨⟨a⟩⟩ ++ ⟨⟨b⟩⟩), fun w => by simp only [h2, if_false, Sem.run_pure], ?_⟩
    simp only [VR]
    congr 1
  · rename_i a b
    simp only [VR] at hx hy
    subst hx hy
    have hg : ∀ w, (eqGuard op t X Y (.bool a) (.bool b)).run P w = .ok () w := by
      intro w; unfold eqGuard; cases op <;> simp
    simp only [Sem.run_bind, hg, Result.andThen_ok]
    split at hp
    · rename_i ht
      cases op <;> simp only [] at hp ⊢ <;> first
        | exact hp.elim
        | (simp [run_eql_bool, run_neq_bool, ht, VR]; done)
    · exact hp.elim
  · exact pNilEq_ok hp hx hy X Y

end Go.AM
