/-
  An assertion layer over the model's wp, part J: lemmas for walking a text.
  Conditions: none. Nothing here is about a particular program.
-/
import Derived.Test.YthiiakghjoeikaaGreatDoorAmI
set_option linter.unusedSimpArgs false
set_option linter.unnecessarySimpa false
set_option linter.unusedVariables false
namespace Go.AM

section
variable {P : Program} {w₀ : World} {ops rest : List Oper} {s : Slots} {h : AHeap} {K : Slots → AHeap → Prop}

theorem aOps_nil : aOps P w₀ ops [] s h K = K s h := rfl

/-- A reading operation that is guarded. -/
theorem aOps_g {dst : Option Tmp} {op : Op} {ty : TypeId} {pos : String} {af : Array Edge} {j d : Nat} {want : Bool} (hj : nthDst ops j = some d) (hp : pureOp P op = true) :
    aOps P w₀ ops (⟨dst, op, ty, pos, af, some (j, want)⟩ :: rest) s h K =
      (gKnown (s.get d) = true ∧ (guardB (s.get d) want = true → (pop P w₀ h s op).pre) ∧ aOps P w₀ ops rest (putD s dst (condV (guardB (s.get d) want) (pop P w₀ h s op).val)) h K) := by
  simp only [aOps, hj, hp, if_true]

/-- Another operation. -/
theorem aOps_e {dst : Option Tmp} {op : Op} {ty : TypeId} {pos : String} {af : Array Edge} :
    aOps P w₀ ops (⟨dst, op, ty, pos, af, none⟩ :: rest) s h K = eop P w₀ h s op fun x h' => aOps P w₀ ops rest (putD s dst x) h' K := rfl

/-- A reading operation that is not guarded. -/
theorem aOps_p {dst : Option Tmp} {op : Op} {ty : TypeId} {pos : String} {af : Array Edge} (hp : pureOp P op = true) :
    aOps P w₀ ops (⟨dst, op, ty, pos, af, none⟩ :: rest) s h K = ((pop P w₀ h s op).pre ∧ aOps P w₀ ops rest (putD s dst (pop P w₀ h s op).val) h K) := by
  rw [aOps_e]
  exact propext (eop_pure hp)

/-- Another operation that is guarded: the way on which it runs, and the other. -/
theorem aOps_ge {dst : Option Tmp} {op : Op} {ty : TypeId} {pos : String} {af : Array Edge} {j d : Nat} {want : Bool} (hj : nthDst ops j = some d) (hp : pureOp P op = false) (hk : gKnown (s.get d) = true)
    (h1 : guardB (s.get d) want = true → aOps P w₀ ops (⟨dst, op, ty, pos, af, none⟩ :: rest) s h K) (h2 : guardB (s.get d) want = false → aOps P w₀ ops rest (putD s dst (.tuple [])) h K) :
    aOps P w₀ ops (⟨dst, op, ty, pos, af, some (j, want)⟩ :: rest) s h K := by
  simp only [aOps, hj, hp]
  exact ⟨hk, h1, h2⟩

/-- A call. -/
theorem aOps_call {dst : Option Tmp} {fo : Operand} {args : Array Operand} {ts : Array TypeId} {ty : TypeId} {pos : String} {af : Array Edge} {f : FuncId} {cap xs : List AVal} {R : AVal → AHeap → Prop}
    (hf : ev s fo = .func f cap) (hx : evs s args.toList ++ cap = xs) (hc : ACall P w₀ f xs h R) (hk : ∀ x h', R x h' → aOps P w₀ ops rest (putD s dst x) h' K) :
    aOps P w₀ ops (⟨dst, .call ⟨.value fo, args, ts⟩, ty, pos, af, none⟩ :: rest) s h K := by
  rw [aOps_e]
  simp only [eop, hf, hx]
  exact hc.mono hk
end

theorem pickV_cond_l (c : Bool) (v w : AVal) : pickV c (condV c v) w = pickV c v w := by cases c <;> cases v <;> cases w <;> simp [pickV, condV]
theorem pickV_cond_r (c : Bool) (v w : AVal) : pickV c v (condV (!c) w) = pickV c v w := by cases c <;> cases v <;> cases w <;> simp [pickV, condV]
theorem pickV_bool (c x y : Bool) : pickV c (.bool x) (.bool y) = .bool (bif c then x else y) := rfl

theorem guardB_bool_true (b : Bool) : guardB (.bool b) true = b := by cases b <;> rfl
theorem guardB_bool_false (b : Bool) : guardB (.bool b) false = !b := by cases b <;> rfl
theorem guardB_cond (g b : Bool) (want : Bool) : guardB (condV g (.bool b)) want = (g && guardB (.bool b) want) := by cases g <;> cases b <;> cases want <;> rfl
theorem gKnown_bool (b : Bool) : gKnown (.bool b) = true := rfl
theorem gKnown_cond (g b : Bool) : gKnown (condV g (.bool b)) = true := by cases g <;> rfl
theorem condV_true (v : AVal) : condV true v = v := rfl
theorem condV_false (v : AVal) : condV false v = .tuple [] := rfl

/-- A value under a guard, in an operation under the same guard. -/
theorem condV_bool_not (g b : Bool) : condV g (.bool b) = condV g (.bool b) := rfl

theorem wrap_i64 {n : Int} (h0 : -9223372036854775808 ≤ n) (h1 : n ≤ 9223372036854775807) : IntKind.i64.wrap n = n := by
  rw [IntKind.wrap_i64]; omega
theorem wrap_u8 {n : Int} (h0 : 0 ≤ n) (h1 : n ≤ 255) : IntKind.u8.wrap n = n := by
  unfold IntKind.wrap
  simp [IntKind.bits, IntKind.signed]
  omega

section
variable {P : Program}
theorem pu_move (x : Operand) : pureOp P (.move x) = true := rfl
theorem pu_assign (x : Operand) : pureOp P (.assign x) = true := rfl
theorem pu_pick (c a b : Operand) : pureOp P (.pick c a b) = true := rfl
theorem pu_binOp (o : BinOp) (t : TypeId) (x y : Operand) (u : TypeId) : pureOp P (.binOp o t x y u) = true := rfl
theorem pu_unOp (o : UnOp) (t : TypeId) (x : Operand) : pureOp P (.unOp o t x) = true := rfl
theorem pu_load (t : TypeId) (x : Operand) : pureOp P (.load t x) = true := rfl
theorem pu_field (t : TypeId) (x : Operand) (f : Nat) : pureOp P (.field t x f) = true := rfl
theorem pu_fieldAddr (t : TypeId) (x : Operand) (f : Nat) : pureOp P (.fieldAddr t x f) = true := rfl
theorem pu_index (t : TypeId) (x i : Operand) : pureOp P (.index t x i) = true := rfl
theorem pu_indexAddr (t : TypeId) (x i : Operand) : pureOp P (.indexAddr t x i) = true := rfl
theorem pu_slice (t : TypeId) (x : Operand) (a b c : Option Operand) : pureOp P (.slice t x a b c) = true := rfl
theorem pu_extract (x : Operand) (i : Nat) : pureOp P (.extract x i) = true := rfl
theorem pu_nilCheck (x : Operand) : pureOp P (.nilCheck x) = true := rfl
theorem pu_build (t : TypeId) (p : Array (Nat × Operand)) : pureOp P (.build t p) = true := rfl
theorem pu_makeFunc (f : Fn) (a b : Array Operand) : pureOp P (.makeFunc f a b) = true := rfl
theorem pu_makeInterface (t : TypeId) (x : Operand) : pureOp P (.makeInterface t x) = true := rfl
theorem pu_len (a : Array Operand) (t : Array TypeId) : pureOp P (.call ⟨.builtin .len, a, t⟩) = true := rfl
theorem pu_cap (a : Array Operand) (t : Array TypeId) : pureOp P (.call ⟨.builtin .cap, a, t⟩) = true := rfl
theorem pu_max (a : Array Operand) (t : Array TypeId) : pureOp P (.call ⟨.builtin .max, a, t⟩) = true := rfl
theorem pu_min (a : Array Operand) (t : Array TypeId) : pureOp P (.call ⟨.builtin .min, a, t⟩) = true := rfl
theorem pu_convert (s d : TypeId) (x : Operand) (h : (!eStrBytes P s d && !eSame P s d) = true) : pureOp P (.convert s d x) = true := h
end


/-! ### Each reading operation, bare and guarded -/
section
variable {P : Program} {w₀ : World} {ops rest : List Oper} {s : Slots} {h : AHeap} {K : Slots → AHeap → Prop} {dst : Option Tmp} {ty : TypeId} {pos : String} {af : Array Edge}
theorem ap_move (x : Operand) :
    aOps P w₀ ops (⟨dst, .move x, ty, pos, af, none⟩ :: rest) s h K = ((pop P w₀ h s (.move x)).pre ∧ aOps P w₀ ops rest (putD s dst (pop P w₀ h s (.move x)).val) h K) := aOps_p (pu_move x)
theorem ap_assign (x : Operand) :
    aOps P w₀ ops (⟨dst, .assign x, ty, pos, af, none⟩ :: rest) s h K = ((pop P w₀ h s (.assign x)).pre ∧ aOps P w₀ ops rest (putD s dst (pop P w₀ h s (.assign x)).val) h K) := aOps_p (pu_assign x)
theorem ap_pick (c a b : Operand) :
    aOps P w₀ ops (⟨dst, .pick c a b, ty, pos, af, none⟩ :: rest) s h K = ((pop P w₀ h s (.pick c a b)).pre ∧ aOps P w₀ ops rest (putD s dst (pop P w₀ h s (.pick c a b)).val) h K) := aOps_p (pu_pick c a b)
theorem ap_binOp (o : BinOp) (t : TypeId) (x y : Operand) (u : TypeId) :
    aOps P w₀ ops (⟨dst, .binOp o t x y u, ty, pos, af, none⟩ :: rest) s h K = ((pop P w₀ h s (.binOp o t x y u)).pre ∧ aOps P w₀ ops rest (putD s dst (pop P w₀ h s (.binOp o t x y u)).val) h K) := aOps_p (pu_binOp o t x y u)
theorem ap_unOp (o : UnOp) (t : TypeId) (x : Operand) :
    aOps P w₀ ops (⟨dst, .unOp o t x, ty, pos, af, none⟩ :: rest) s h K = ((pop P w₀ h s (.unOp o t x)).pre ∧ aOps P w₀ ops rest (putD s dst (pop P w₀ h s (.unOp o t x)).val) h K) := aOps_p (pu_unOp o t x)
theorem ap_load (t : TypeId) (x : Operand) :
    aOps P w₀ ops (⟨dst, .load t x, ty, pos, af, none⟩ :: rest) s h K = ((pop P w₀ h s (.load t x)).pre ∧ aOps P w₀ ops rest (putD s dst (pop P w₀ h s (.load t x)).val) h K) := aOps_p (pu_load t x)
theorem ap_field (t : TypeId) (x : Operand) (f : Nat) :
    aOps P w₀ ops (⟨dst, .field t x f, ty, pos, af, none⟩ :: rest) s h K = ((pop P w₀ h s (.field t x f)).pre ∧ aOps P w₀ ops rest (putD s dst (pop P w₀ h s (.field t x f)).val) h K) := aOps_p (pu_field t x f)
theorem ap_fieldAddr (t : TypeId) (x : Operand) (f : Nat) :
    aOps P w₀ ops (⟨dst, .fieldAddr t x f, ty, pos, af, none⟩ :: rest) s h K = ((pop P w₀ h s (.fieldAddr t x f)).pre ∧ aOps P w₀ ops rest (putD s dst (pop P w₀ h s (.fieldAddr t x f)).val) h K) := aOps_p (pu_fieldAddr t x f)
theorem ap_index (t : TypeId) (x i : Operand) :
    aOps P w₀ ops (⟨dst, .index t x i, ty, pos, af, none⟩ :: rest) s h K = ((pop P w₀ h s (.index t x i)).pre ∧ aOps P w₀ ops rest (putD s dst (pop P w₀ h s (.index t x i)).val) h K) := aOps_p (pu_index t x i)
theorem ap_indexAddr (t : TypeId) (x i : Operand) :
    aOps P w₀ ops (⟨dst, .indexAddr t x i, ty, pos, af, none⟩ :: rest) s h K = ((pop P w₀ h s (.indexAddr t x i)).pre ∧ aOps P w₀ ops rest (putD s dst (pop P w₀ h s (.indexAddr t x i)).val) h K) := aOps_p (pu_indexAddr t x i)
theorem ap_slice (t : TypeId) (x : Operand) (a b c : Option Operand) :
    aOps P w₀ ops (⟨dst, .slice t x a b c, ty, pos, af, none⟩ :: rest) s h K = ((pop P w₀ h s (.slice t x a b c)).pre ∧ aOps P w₀ ops rest (putD s dst (pop P w₀ h s (.slice t x a b c)).val) h K) := aOps_p (pu_slice t x a b c)
theorem ap_extract (x : Operand) (i : Nat) :
    aOps P w₀ ops (⟨dst, .extract x i, ty, pos, af, none⟩ :: rest) s h K = ((pop P w₀ h s (.extract x i)).pre ∧ aOps P w₀ ops rest (putD s dst (pop P w₀ h s (.extract x i)).val) h K) := aOps_p (pu_extract x i)
theorem ap_nilCheck (x : Operand) :
    aOps P w₀ ops (⟨dst, .nilCheck x, ty, pos, af, none⟩ :: rest) s h K = ((pop P w₀ h s (.nilCheck x)).pre ∧ aOps P w₀ ops rest (putD s dst (pop P w₀ h s (.nilCheck x)).val) h K) := aOps_p (pu_nilCheck x)
theorem ap_build (t : TypeId) (p : Array (Nat × Operand)) :
    aOps P w₀ ops (⟨dst, .build t p, ty, pos, af, none⟩ :: rest) s h K = ((pop P w₀ h s (.build t p)).pre ∧ aOps P w₀ ops rest (putD s dst (pop P w₀ h s (.build t p)).val) h K) := aOps_p (pu_build t p)
theorem ap_makeFunc (f : Fn) (a b : Array Operand) :
    aOps P w₀ ops (⟨dst, .makeFunc f a b, ty, pos, af, none⟩ :: rest) s h K = ((pop P w₀ h s (.makeFunc f a b)).pre ∧ aOps P w₀ ops rest (putD s dst (pop P w₀ h s (.makeFunc f a b)).val) h K) := aOps_p (pu_makeFunc f a b)
theorem ap_makeInterface (t : TypeId) (x : Operand) :
    aOps P w₀ ops (⟨dst, .makeInterface t x, ty, pos, af, none⟩ :: rest) s h K = ((pop P w₀ h s (.makeInterface t x)).pre ∧ aOps P w₀ ops rest (putD s dst (pop P w₀ h s (.makeInterface t x)).val) h K) := aOps_p (pu_makeInterface t x)
theorem ap_len (a : Array Operand) (t : Array TypeId) :
    aOps P w₀ ops (⟨dst, .call ⟨.builtin .len, a, t⟩, ty, pos, af, none⟩ :: rest) s h K = ((pop P w₀ h s (.call ⟨.builtin .len, a, t⟩)).pre ∧ aOps P w₀ ops rest (putD s dst (pop P w₀ h s (.call ⟨.builtin .len, a, t⟩)).val) h K) := aOps_p (pu_len a t)
theorem ap_cap (a : Array Operand) (t : Array TypeId) :
    aOps P w₀ ops (⟨dst, .call ⟨.builtin .cap, a, t⟩, ty, pos, af, none⟩ :: rest) s h K = ((pop P w₀ h s (.call ⟨.builtin .cap, a, t⟩)).pre ∧ aOps P w₀ ops rest (putD s dst (pop P w₀ h s (.call ⟨.builtin .cap, a, t⟩)).val) h K) := aOps_p (pu_cap a t)
theorem ap_max (a : Array Operand) (t : Array TypeId) :
    aOps P w₀ ops (⟨dst, .call ⟨.builtin .max, a, t⟩, ty, pos, af, none⟩ :: rest) s h K = ((pop P w₀ h s (.call ⟨.builtin .max, a, t⟩)).pre ∧ aOps P w₀ ops rest (putD s dst (pop P w₀ h s (.call ⟨.builtin .max, a, t⟩)).val) h K) := aOps_p (pu_max a t)
theorem ap_min (a : Array Operand) (t : Array TypeId) :
    aOps P w₀ ops (⟨dst, .call ⟨.builtin .min, a, t⟩, ty, pos, af, none⟩ :: rest) s h K = ((pop P w₀ h s (.call ⟨.builtin .min, a, t⟩)).pre ∧ aOps P w₀ ops rest (putD s dst (pop P w₀ h s (.call ⟨.builtin .min, a, t⟩)).val) h K) := aOps_p (pu_min a t)
end

end Go.AM
