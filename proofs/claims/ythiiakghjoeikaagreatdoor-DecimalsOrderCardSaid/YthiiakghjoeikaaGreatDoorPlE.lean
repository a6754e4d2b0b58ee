/-
  Digits multiplied and divided, in plain Lean.
  Conditions: none.
-/
import Derived.Test.YthiiakghjoeikaaGreatDoorPlD
set_option linter.unusedSimpArgs false
set_option linter.unnecessarySimpa false
set_option linter.unusedVariables false
namespace Go.Dec
open Go.Lib (decDigits)

/-- The number that a row of numbers stands for, the highest place first. -/
def valL (zs : List Int) : Int := zs.foldl (fun a z => 10 * a + z) 0
theorem valL_foldl (zs : List Int) : ∀ a : Int, zs.foldl (fun a z => 10 * a + z) a = a * 10 ^ zs.length + valL zs := by
  induction zs with
  | nil => intro a; simp [valL]
  | cons z zs ih =>
    intro a
    simp only [List.foldl_cons, valL, List.length_cons]
    rw [ih (10 * a + z), ih (10 * 0 + z), Int.pow_succ, Int.add_mul, Int.add_mul, Int.mul_comm 10 a, Int.mul_assoc a 10, Int.mul_comm 10 (10 ^ zs.length)]
    omega
theorem valL_cons (z : Int) (zs : List Int) : valL (z :: zs) = z * 10 ^ zs.length + valL zs := by
  rw [valL, List.foldl_cons, valL_foldl]; simp
theorem valL_append (a b : List Int) : valL (a ++ b) = valL a * 10 ^ b.length + valL b := by
  unfold valL
  rw [List.foldl_append, valL_foldl b]; rfl
theorem valL_zeros (n : Nat) : valL (List.replicate n 0) = 0 := by
  induction n with
  | zero => rfl
  | succ n ih => rw [List.replicate_succ, valL_cons, ih]; simp
/-- One place turns. -/
theorem valL_set (zs : List Int) : ∀ (i : Nat) (c : Int), i < zs.length → valL (zs.set i c) = valL zs + (c - zs.getD i 0) * 10 ^ (zs.length - 1 - i) := by
  induction zs with
  | nil => intro i c h; simp at h
  | cons z zs ih =>
    intro i c h
    cases i with
    | zero =>
      simp only [List.set_cons_zero, valL_cons, List.getD_cons_zero, List.length_cons, Nat.sub_zero, Nat.add_sub_cancel]
      rw [Int.sub_mul]
      omega
    | succ i =>
      simp only [List.length_cons] at h
      simp only [List.set_cons_succ, valL_cons, List.getD_cons_succ, List.length_set, List.length_cons]
      rw [ih i c (by omega), show zs.length + 1 - 1 - (i + 1) = zs.length - 1 - i by omega]
      omega
theorem getL_set_self {α : Type} (zs : List α) (i : Nat) (c d : α) (h : i < zs.length) : (zs.set i c).getD i d = c := by simp [List.getD, h]
theorem getL_set_ne {α : Type} (zs : List α) (i j : Nat) (c d : α) (h : i ≠ j) : (zs.set i c).getD j d = zs.getD j d := by simp [List.getD, h]
/-- A row of digits is a text. -/
def chL (zs : List Int) : List UInt8 := zs.map fun z => dch z.toNat
theorem natOf_chL : ∀ (zs : List Int), (∀ z ∈ zs, 0 ≤ z ∧ z ≤ 9) → (natOf (chL zs) : Int) = valL zs ∧ (chL zs).all dg = true
  | [], _ => ⟨rfl, rfl⟩
  | z :: zs, h => by
    obtain ⟨h1, h2⟩ := natOf_chL zs fun x hx => h x (List.mem_cons_of_mem _ hx)
    obtain ⟨z0, z9⟩ := h z List.mem_cons_self
    have hl : (chL zs).length = zs.length := by simp [chL]
    constructor
    · show ((natOf (dch z.toNat :: chL zs) : Nat) : Int) = _
      rw [natOf_cons, valL_cons, dv_dch (by omega), hl]
      have : ((z.toNat * 10 ^ zs.length + natOf (chL zs) : Nat) : Int) = (z.toNat : Int) * 10 ^ zs.length + (natOf (chL zs) : Int) := by
        rw [Int.natCast_add, Int.natCast_mul, Int.natCast_pow]; rfl
      rw [this, h1, Int.toNat_of_nonneg z0]
    · show (dch z.toNat :: chL zs).all dg = true
      rw [List.all_cons, h2, dch_dg (by omega)]; rfl
theorem valL_nonneg : ∀ (zs : List Int), (∀ z ∈ zs, 0 ≤ z) → 0 ≤ valL zs
  | [], _ => by simp [valL]
  | z :: zs, h => by
    rw [valL_cons]
    have h1 := valL_nonneg zs fun x hx => h x (List.mem_cons_of_mem _ hx)
    have h2 : 0 ≤ z * 10 ^ zs.length := Int.mul_nonneg (h z List.mem_cons_self) (Int.pow_nonneg (by omega))
    omega
theorem natOf_take_succ (x : List UInt8) (i : Nat) (hi : i < x.length) : natOf (x.take (i + 1)) = 10 * natOf (x.take i) + dv (x.getD i 0) := by
  rw [List.take_add_one, List.getElem?_eq_getElem hi, Option.toList_some, natOf_snoc, List.getD, List.getElem?_eq_getElem hi]; rfl

/-! ### Multiplication: rows i, columns k of the table are added up in a row of lx + ly places -/
def rowsV (x y : List UInt8) (i k : Nat) : Int :=
  (natOf (x.take i) * 10 ^ (x.length - i) * natOf y + dv (x.getD i 0) * 10 ^ (x.length - 1 - i) * (natOf (y.take k) * 10 ^ (y.length - k)) : Nat)
theorem rowsV_start (x y : List UInt8) (i : Nat) : rowsV x y i 0 = (natOf (x.take i) * 10 ^ (x.length - i) * natOf y : Nat) := by
  unfold rowsV; rw [List.take_zero, natOf_nil, Nat.zero_mul, Nat.mul_zero, Nat.add_zero]
theorem rowsV_col (x y : List UInt8) (i k : Nat) (hi : i < x.length) (hk : k < y.length) :
    rowsV x y i (k + 1) = rowsV x y i k + (dv (x.getD i 0) * dv (y.getD k 0) : Nat) * 10 ^ (x.length + y.length - 1 - (i + k + 1)) := by
  unfold rowsV
  rw [natOf_take_succ y k hk, show x.length + y.length - 1 - (i + k + 1) = (x.length - 1 - i) + (y.length - (k + 1)) by omega, show y.length - k = (y.length - (k + 1)) + 1 by omega]
  have hpw : ∀ m : Nat, (10 : Int) ^ m = ((10 ^ m : Nat) : Int) := fun m => by rw [Int.natCast_pow]; rfl
  rw [hpw, ← Int.natCast_mul, ← Int.natCast_add]
  congr 1
  rw [Nat.pow_succ, Nat.pow_add, Nat.add_assoc]
  congr 1
  generalize dv (x.getD i 0) = a
  generalize dv (y.getD k 0) = b
  generalize natOf (y.take k) = c
  generalize 10 ^ (x.length - 1 - i) = p
  generalize 10 ^ (y.length - (k + 1)) = q
  rw [Nat.add_mul, Nat.mul_add]
  congr 1
  · rw [Nat.mul_comm 10 c, Nat.mul_assoc c 10 q, Nat.mul_comm 10 q]
  · simp only [Nat.mul_assoc, Nat.mul_comm, Nat.mul_left_comm]
theorem rowsV_row (x y : List UInt8) (i : Nat) (hi : i < x.length) : rowsV x y i y.length = rowsV x y (i + 1) 0 := by
  rw [rowsV_start]
  unfold rowsV
  congr 1
  rw [List.take_length, Nat.sub_self, Nat.pow_zero, Nat.mul_one, natOf_take_succ x i hi, show x.length - i = (x.length - (i + 1)) + 1 by omega, show x.length - 1 - i = x.length - (i + 1) by omega, Nat.pow_succ]
  generalize natOf (x.take i) = a
  generalize dv (x.getD i 0) = b
  generalize 10 ^ (x.length - (i + 1)) = p
  rw [← Nat.add_mul]
  congr 1
  rw [Nat.add_mul]
  congr 1
  rw [Nat.mul_comm p 10, ← Nat.mul_assoc, Nat.mul_comm a 10]
theorem rowsV_end (x y : List UInt8) : rowsV x y x.length 0 = (natOf x * natOf y : Nat) := by
  rw [rowsV_start, List.take_length, Nat.sub_self, Nat.pow_zero, Nat.mul_one]
/-- A digit is carried. -/
theorem valL_carry (zs : List Int) (i : Nat) (hi : i + 1 < zs.length) :
    valL ((zs.set i (zs.getD i 0 + zs.getD (i + 1) 0 / 10)).set (i + 1) (zs.getD (i + 1) 0 % 10)) = valL zs := by
  rw [valL_set _ _ _ (by rw [List.length_set]; omega), valL_set _ _ _ (by omega), getL_set_ne _ _ _ _ _ (by omega), List.length_set]
  rw [show zs.length - 1 - i = (zs.length - 1 - (i + 1)) + 1 by omega, Int.pow_succ]
  generalize (10 : Int) ^ (zs.length - 1 - (i + 1)) = p
  generalize zs.getD i 0 = a
  generalize zs.getD (i + 1) 0 = b
  have h1 : b % 10 - b = -(10 * (b / 10)) := by omega
  rw [h1, show a + b / 10 - a = b / 10 by omega, Int.neg_mul, Int.mul_comm p 10, ← Int.mul_assoc, Int.mul_comm (b / 10) 10]
  omega

/-! ### Division -/
/-- A number without zeros in front; nothing for zero. -/
def trN (n : Nat) : List UInt8 := if n = 0 then [] else decDigits n
theorem trN_val (n : Nat) : natOf (trN n) = n := by
  unfold trN; split
  · rename_i h; rw [h]; rfl
  · exact natOf_decDigits n
theorem trN_all (n : Nat) : (trN n).all dg = true := by
  unfold trN; split
  · rfl
  · exact decDigits_all n
theorem trN_of {s : List UInt8} (h : s.all dg = true) : s.dropWhile (· == 48) = trN (natOf s) := drop_zeros s h
theorem trN_len {n k : Nat} : (trN n).length ≤ k ↔ n < 10 ^ k := by
  unfold trN; split
  · rename_i h; subst h; simp; exact Nat.pow_pos (by omega)
  · rename_i h
    cases k with
    | zero =>
      have := List.length_pos_iff.2 (decDigits_ne n)
      rw [Nat.pow_zero]
      constructor <;> intro h' <;> omega
    | succ k => exact decDigits_lt (by omega)
end Go.Dec
