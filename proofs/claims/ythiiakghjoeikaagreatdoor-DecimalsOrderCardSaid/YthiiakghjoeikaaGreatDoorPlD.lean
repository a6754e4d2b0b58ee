/-
  Plain Lean: texts of decimal digits and the numbers that they spell; numbers with a scale in their one form.
  Conditions: none.
-/
import Derived.Lib.ItoaNum
set_option linter.unusedSimpArgs false
set_option linter.unnecessarySimpa false
set_option linter.unusedVariables false
namespace Go.Dec
open Go.Lib (decDigits)

/-- A digit. -/
def dg (b : UInt8) : Bool := decide (48 ≤ b.toNat) && decide (b.toNat ≤ 57)
/-- The number of a digit. -/
def dv (b : UInt8) : Nat := b.toNat - 48
/-- The digit of a number below ten. -/
def dch (n : Nat) : UInt8 := UInt8.ofNat (48 + n)
/-- The number that a text of digits spells. -/
def natOf (s : List UInt8) : Nat := s.foldl (fun a b => 10 * a + dv b) 0

theorem dg_iff (b : UInt8) : dg b = true ↔ 48 ≤ b.toNat ∧ b.toNat ≤ 57 := by simp [dg]
theorem dch_toNat {n : Nat} (h : n < 10) : (dch n).toNat = 48 + n := by simp [dch]; omega
theorem dch_dg {n : Nat} (h : n < 10) : dg (dch n) = true := by rw [dg_iff, dch_toNat h]; omega
theorem dv_dch {n : Nat} (h : n < 10) : dv (dch n) = n := by rw [dv, dch_toNat h]; omega
theorem dch_dv {b : UInt8} (h : dg b = true) : dch (dv b) = b := by
  rw [dg_iff] at h
  apply UInt8.toNat_inj.1
  rw [dch_toNat (by simp only [dv]; omega)]
  simp only [dv]; omega
theorem dv_lt {b : UInt8} (h : dg b = true) : dv b < 10 := by rw [dg_iff] at h; simp only [dv]; omega

theorem natOf_foldl (s : List UInt8) : ∀ a, s.foldl (fun a b => 10 * a + dv b) a = a * 10 ^ s.length + natOf s := by
  induction s with
  | nil => intro a; simp [natOf]
  | cons b s ih =>
    intro a
    simp only [List.foldl_cons, natOf, List.length_cons]
    rw [ih (10 * a + dv b), ih (10 * 0 + dv b)]
    rw [Nat.mul_zero, Nat.zero_add, Nat.pow_succ, Nat.add_mul, Nat.mul_comm 10 a, Nat.mul_assoc a 10, Nat.mul_comm 10 (10 ^ s.length)]
    omega
theorem natOf_nil : natOf [] = 0 := rfl
theorem natOf_cons (b : UInt8) (s : List UInt8) : natOf (b :: s) = dv b * 10 ^ s.length + natOf s := by
  rw [natOf, List.foldl_cons, natOf_foldl]; simp
theorem natOf_append (s t : List UInt8) : natOf (s ++ t) = natOf s * 10 ^ t.length + natOf t := by
  rw [natOf, List.foldl_append, natOf_foldl]; rfl
theorem natOf_snoc (s : List UInt8) (b : UInt8) : natOf (s ++ [b]) = 10 * natOf s + dv b := by
  rw [natOf_append]; simp [natOf_cons, natOf_nil]; omega
theorem natOf_zeros (n : Nat) : natOf (List.replicate n 48) = 0 := by
  induction n with
  | zero => rfl
  | succ n ih => rw [List.replicate_succ, natOf_cons, ih]; simp [dv]
theorem natOf_lt : ∀ (s : List UInt8), s.all dg = true → natOf s < 10 ^ s.length
  | [], _ => by simp [natOf]
  | b :: s, h => by
    simp only [List.all_cons, Bool.and_eq_true] at h
    have := natOf_lt s h.2
    have hb := dv_lt h.1
    rw [natOf_cons, List.length_cons, Nat.pow_succ]
    have : dv b * 10 ^ s.length ≤ 9 * 10 ^ s.length := Nat.mul_le_mul_right _ (by omega)
    omega

theorem all_append (s t : List UInt8) : (s ++ t).all dg = (s.all dg && t.all dg) := by simp
theorem all_zeros (n : Nat) : (List.replicate n (48 : UInt8)).all dg = true := by
  rw [List.all_eq_true]
  intro b hb
  rw [List.eq_of_mem_replicate hb]; rfl

/-! ### The shortest text of a number -/
theorem decDigits_small {n : Nat} (h : n < 10) : decDigits n = [dch n] := by rw [decDigits, dif_pos h]; rfl
theorem decDigits_big {n : Nat} (h : ¬ n < 10) : decDigits n = decDigits (n / 10) ++ [dch (n % 10)] := by rw [decDigits, dif_neg h]; rfl

theorem decDigits_all (n : Nat) : (decDigits n).all dg = true := by
  induction n using Nat.strongRecOn with
  | ind n ih =>
    by_cases h : n < 10
    · rw [decDigits_small h]; simp [dch_dg h]
    · rw [decDigits_big h, all_append, ih (n / 10) (by omega)]
      simp [dch_dg (Nat.mod_lt n (by omega : 0 < 10))]
theorem natOf_decDigits (n : Nat) : natOf (decDigits n) = n := by
  induction n using Nat.strongRecOn with
  | ind n ih =>
    by_cases h : n < 10
    · rw [decDigits_small h, natOf_cons, dv_dch h]; simp [natOf_nil]
    · rw [decDigits_big h, natOf_snoc, ih (n / 10) (by omega), dv_dch (Nat.mod_lt n (by omega))]
      omega
theorem decDigits_ne (n : Nat) : decDigits n ≠ [] := by
  by_cases h : n < 10
  · rw [decDigits_small h]; simp
  · rw [decDigits_big h]; simp
theorem decDigits_inj {m n : Nat} (h : decDigits m = decDigits n) : m = n := by
  rw [← natOf_decDigits m, h, natOf_decDigits]
theorem decDigits_snoc {m k : Nat} (hm : 0 < m) (hk : k < 10) : decDigits (10 * m + k) = decDigits m ++ [dch k] := by
  rw [decDigits_big (by omega)]
  congr 2
  · congr 1; omega
  · congr 1; omega

/-- The digits behind the zeros are the shortest text. -/
theorem drop_zeros : ∀ (s : List UInt8), s.all dg = true → s.dropWhile (· == 48) = if natOf s = 0 then [] else decDigits (natOf s) := by
  intro s
  have key : ∀ (t s : List UInt8), (t ++ s).all dg = true → natOf t ≠ 0 → decDigits (natOf t) ++ s = decDigits (natOf (t ++ s)) := by
    intro t s
    induction s generalizing t with
    | nil => intro _ _; simp
    | cons b s ih =>
      intro h1 h2
      have hb : dg b = true := by simp at h1; exact h1.2.1
      have e := ih (t ++ [b]) (by simpa using h1) (by rw [natOf_snoc]; omega)
      rw [natOf_snoc, decDigits_snoc (by omega) (dv_lt hb), dch_dv hb] at e
      simpa using e
  induction s with
  | nil => intro _; simp [natOf]
  | cons b s ih =>
    intro h
    have hh := h
    simp only [List.all_cons, Bool.and_eq_true] at h
    rw [List.dropWhile_cons]
    by_cases hb : b = 48
    · subst hb
      rw [if_pos (by rfl), ih h.2]
      have e : natOf (48 :: s) = natOf s := by rw [natOf_cons]; simp [dv]
      rw [e]
    · rw [if_neg (by simpa using hb)]
      have hd : dv b ≠ 0 := fun e => hb (by rw [← dch_dv h.1, e]; rfl)
      have e1 : natOf [b] = dv b := by rw [natOf_cons]; simp [natOf_nil]
      have e := key [b] s (by simpa using hh) (by rw [e1]; exact hd)
      rw [e1, decDigits_small (dv_lt h.1), dch_dv h.1] at e
      simp only [List.singleton_append] at e
      have hp : 0 < natOf (b :: s) := by
        rw [natOf_cons]
        have : 0 < dv b * 10 ^ s.length := Nat.mul_pos (by omega) (Nat.pow_pos (by omega))
        omega
      rw [if_neg (by omega)]
      exact e

/-! ### Lengths -/
theorem decDigits_lt {n k : Nat} (hk : 0 < k) : (decDigits n).length ≤ k ↔ n < 10 ^ k := by
  induction k generalizing n with
  | zero => omega
  | succ k ih =>
    by_cases h : n < 10
    · rw [decDigits_small h]
      simp only [List.length_singleton]
      have : 10 ≤ 10 ^ (k + 1) := by rw [Nat.pow_succ]; have := Nat.pow_pos (n := k) (show 0 < 10 by omega); omega
      omega
    · rw [decDigits_big h, List.length_append, List.length_singleton]
      rcases Nat.eq_zero_or_pos k with e | e
      · subst e
        have : 0 < (decDigits (n / 10)).length := List.length_pos_iff.2 (decDigits_ne _)
        omega
      · rw [Nat.add_le_add_iff_right, ih e, Nat.pow_succ]
        omega

/-- A text that is as long as another but spells no more. -/
theorem natOf_eq_iff : ∀ (s t : List UInt8), s.length = t.length → s.all dg = true → t.all dg = true → (natOf s = natOf t ↔ s = t)
  | [], [], _, _, _ => by simp
  | a :: s, b :: t, hl, hs, ht => by
    simp only [List.all_cons, Bool.and_eq_true] at hs ht
    have hl' : s.length = t.length := by simpa using hl
    have h1 := natOf_lt s hs.2
    have h2 := natOf_lt t ht.2
    rw [natOf_cons, natOf_cons, hl']
    rw [hl'] at h1
    constructor
    · intro e
      have hd : dv a = dv b := by
        have ha : (dv a * 10 ^ t.length + natOf s) / 10 ^ t.length = dv a := by
          rw [Nat.add_comm, Nat.add_mul_div_right _ _ (Nat.pow_pos (by omega)), Nat.div_eq_of_lt h1, Nat.zero_add]
        have hb : (dv b * 10 ^ t.length + natOf t) / 10 ^ t.length = dv b := by
          rw [Nat.add_comm, Nat.add_mul_div_right _ _ (Nat.pow_pos (by omega)), Nat.div_eq_of_lt h2, Nat.zero_add]
        rw [← ha, e, hb]
      rw [hd] at e
      have e2 : s = t := (natOf_eq_iff s t hl' hs.2 ht.2).1 (by omega)
      rw [e2, ← dch_dv hs.1, hd, dch_dv ht.1]
    · intro e
      cases e; rfl
  | [], _ :: _, h, _, _ => by simp at h
  | _ :: _, [], h, _, _ => by simp at h

/-! ### Numbers with a scale, in their one form -/
structure D where
  neg : Bool
  dig : List UInt8
  scale : Int
  deriving DecidableEq

/-- Zeros behind the point are struck. -/
def strip : Nat → Nat → Nat × Nat
  | n, 0 => (n, 0)
  | n, k + 1 => if n % 10 = 0 then strip (n / 10) k else (n, k + 1)
def zeroD : D := ⟨false, [48], 0⟩
def noD : D := ⟨false, [], 0⟩
/-- The number n divided by ten to the power of k. -/
def canon (neg : Bool) (n k : Nat) : D := if n = 0 then zeroD else ⟨neg, decDigits (strip n k).1, (strip n k).2⟩
def long (d : D) : Int := max (d.dig.length : Int) d.scale

theorem strip_pos : ∀ (k n : Nat), n ≠ 0 → (strip n k).1 ≠ 0
  | 0, n, h => h
  | k + 1, n, h => by
    simp only [strip]
    split
    · exact strip_pos k _ (by omega)
    · exact h
theorem strip_val : ∀ (k n : Nat), (strip n k).1 * 10 ^ k = n * 10 ^ (strip n k).2 ∧ (strip n k).2 ≤ k
  | 0, n => by simp [strip]
  | k + 1, n => by
    simp only [strip]
    split
    · obtain ⟨h1, h2⟩ := strip_val k (n / 10)
      refine ⟨?_, by omega⟩
      rw [Nat.pow_succ, ← Nat.mul_assoc, h1, Nat.mul_right_comm]
      congr 1; omega
    · exact ⟨rfl, Nat.le_refl _⟩
theorem strip_end : ∀ (k n : Nat), (strip n k).2 = 0 ∨ (strip n k).1 % 10 ≠ 0
  | 0, n => .inl rfl
  | k + 1, n => by
    simp only [strip]
    split
    · exact strip_end k _
    · rename_i h; exact .inr h
theorem strip_done {n k : Nat} (h : k = 0 ∨ n % 10 ≠ 0) : strip n k = (n, k) := by
  cases k with
  | zero => rfl
  | succ k =>
    rcases h with h | h
    · omega
    · rw [strip, if_neg h]
theorem strip_mul : ∀ (j n k : Nat), strip (n * 10 ^ j) (k + j) = strip n k
  | 0, n, k => by simp
  | j + 1, n, k => by
    rw [show k + (j + 1) = (k + j) + 1 by omega, strip, Nat.pow_succ, ← Nat.mul_assoc]
    rw [if_pos (by omega), Nat.mul_div_cancel _ (by omega)]
    exact strip_mul j n k
theorem canon_mul (neg : Bool) (j n k : Nat) : canon neg (n * 10 ^ j) (k + j) = canon neg n k := by
  have hp : 0 < 10 ^ j := Nat.pow_pos (by omega)
  unfold canon
  by_cases h : n = 0
  · subst h; simp
  · rw [if_neg h, if_neg (Nat.mul_ne_zero h (by omega)), strip_mul]
/-- Two numbers have one form only if they are equal. -/
theorem canon_inj {a b : Bool} {m n j k : Nat} (h : canon a m j = canon b n k) : m * 10 ^ k = n * 10 ^ j ∧ (m ≠ 0 → a = b) := by
  unfold canon at h
  by_cases hm : m = 0
  · subst hm
    rw [if_pos rfl] at h
    by_cases hn : n = 0
    · subst hn; simp
    · rw [if_neg hn] at h
      simp only [zeroD, D.mk.injEq] at h
      have := h.2.1
      have e : natOf (decDigits (strip n k).1) = 0 := by rw [← this]; rfl
      rw [natOf_decDigits] at e
      exact absurd e (strip_pos k n hn)
  · rw [if_neg hm] at h
    by_cases hn : n = 0
    · subst hn
      rw [if_pos rfl] at h
      simp only [zeroD, D.mk.injEq] at h
      have e : natOf (decDigits (strip m j).1) = 0 := by rw [h.2.1]; rfl
      rw [natOf_decDigits] at e
      exact absurd e (strip_pos j m hm)
    · rw [if_neg hn] at h
      simp only [D.mk.injEq] at h
      obtain ⟨h1, h2, h3⟩ := h
      refine ⟨?_, fun _ => h1⟩
      have e1 := decDigits_inj h2
      have e2 : (strip m j).2 = (strip n k).2 := by omega
      obtain ⟨v1, _⟩ := strip_val j m
      obtain ⟨v2, _⟩ := strip_val k n
      rw [e1, e2] at v1
      have hp : 0 < 10 ^ (strip n k).2 := Nat.pow_pos (by omega)
      apply Nat.eq_of_mul_eq_mul_right hp
      calc m * 10 ^ k * 10 ^ (strip n k).2 = (m * 10 ^ (strip n k).2) * 10 ^ k := by rw [Nat.mul_right_comm]
        _ = ((strip n k).1 * 10 ^ j) * 10 ^ k := by rw [v1]
        _ = ((strip n k).1 * 10 ^ k) * 10 ^ j := by rw [Nat.mul_right_comm]
        _ = (n * 10 ^ (strip n k).2) * 10 ^ j := by rw [v2]
        _ = n * 10 ^ j * 10 ^ (strip n k).2 := by rw [Nat.mul_right_comm]

theorem canon_big (neg : Bool) (n : Nat) (h : n ≠ 0) : canon neg n 0 = ⟨neg, decDigits n, 0⟩ := by rw [canon, if_neg h]; rfl
theorem decDigits_zeros {m : Nat} (h : 0 < m) : ∀ j, decDigits m ++ List.replicate j 48 = decDigits (m * 10 ^ j)
  | 0 => by simp
  | j + 1 => by
    have hp : 0 < m * 10 ^ j := Nat.mul_pos h (Nat.pow_pos (by omega))
    rw [List.replicate_succ', ← List.append_assoc, decDigits_zeros h j, Nat.pow_succ, ← Nat.mul_assoc, Nat.mul_comm _ 10]
    exact (decDigits_snoc (k := 0) hp (by omega)).symm
theorem suffix_zero (m : Nat) : [48].isSuffixOf (decDigits m) = decide (m % 10 = 0) := by
  have key : ∀ (l : List UInt8) (x : UInt8), [48].isSuffixOf (l ++ [x]) = decide (x = 48) := by
    intro l x
    rw [Bool.eq_iff_iff, List.isSuffixOf_iff_suffix, decide_eq_true_eq]
    constructor
    · rintro ⟨t, e⟩
      have := (List.append_inj' e rfl).2
      simpa using this.symm
    · rintro rfl
      exact ⟨l, rfl⟩
  have hd : ∀ k, k < 10 → (dch k = 48 ↔ k = 0) := by
    intro k hk
    constructor
    · intro e
      have := dch_toNat hk
      rw [e] at this
      have e2 : (48 : UInt8).toNat = 48 := rfl
      omega
    · rintro rfl; rfl
  by_cases h : m < 10
  · have := key [] (dch m)
    rw [List.nil_append] at this
    rw [decDigits_small h, this, Bool.eq_iff_iff, decide_eq_true_eq, decide_eq_true_eq, hd m h]
    omega
  · rw [decDigits_big h, key, Bool.eq_iff_iff, decide_eq_true_eq, decide_eq_true_eq, hd _ (Nat.mod_lt _ (by omega))]
theorem decDigits_init {m : Nat} (h : ¬ m < 10) : (decDigits m).take ((decDigits m).length - 1) = decDigits (m / 10) := by
  rw [decDigits_big h]; simp

/-- A number that may be too long. -/
def resE (c : D) : D × Int := if 62 < long c then (noD, 14) else (c, 0)
def normE (neg : Bool) (n : Nat) (scale : Int) : D × Int := resE (canon neg (n * 10 ^ (-scale).toNat) scale.toNat)
theorem normE_zero (neg : Bool) (scale : Int) : normE neg 0 scale = (zeroD, 0) := by
  have e : canon neg (0 * 10 ^ (-scale).toNat) scale.toNat = zeroD := by rw [Nat.zero_mul, canon, if_pos rfl]
  rw [normE, e]; rfl
theorem norm_final (neg : Bool) {n m : Nat} {scale sc : Int} (hn : n ≠ 0) (hneg : sc < 0 → m = n ∧ sc = scale) (hpos : 0 ≤ sc → 0 ≤ scale ∧ strip m sc.toNat = strip n scale.toNat) (hex : ¬ (0 < sc ∧ m % 10 = 0)) :
    canon neg (n * 10 ^ (-scale).toNat) scale.toNat = if sc < 0 then ⟨neg, decDigits (m * 10 ^ (-sc).toNat), 0⟩ else ⟨neg, decDigits m, sc⟩ := by
  by_cases h : sc < 0
  · obtain ⟨rfl, rfl⟩ := hneg h
    rw [if_pos h, show sc.toNat = 0 by omega, canon_big _ _ (Nat.mul_ne_zero hn (by have := Nat.pow_pos (n := (-sc).toNat) (show 0 < 10 by omega); omega))]
  · obtain ⟨h1, h2⟩ := hpos (by omega)
    rw [if_neg h, show (-scale).toNat = 0 by omega, Nat.pow_zero, Nat.mul_one, canon, if_neg hn, ← h2, strip_done (by omega)]
    simp only [D.mk.injEq, true_and]
    omega
theorem resE_long {c : D} (h : 62 < long c) : resE c = (noD, 14) := by rw [resE, if_pos h]
theorem resE_ok {c : D} (h : ¬ 62 < long c) : resE c = (c, 0) := by rw [resE, if_neg h]
theorem decDigits_last (m : Nat) : (((decDigits m).getD ((decDigits m).length - 1) 0).toNat : Int) = 48 ↔ m % 10 = 0 := by
  have key : ∀ (l : List UInt8) (x : UInt8), (l ++ [x]).getD ((l ++ [x]).length - 1) 0 = x := by
    intro l x
    simp [List.getD]
  by_cases h : m < 10
  · rw [decDigits_small h]
    simp only [List.length_singleton, Nat.sub_self, List.getD_cons_zero, dch_toNat h]
    omega
  · rw [decDigits_big h, key, dch_toNat (Nat.mod_lt _ (by omega))]
    omega

/-! ### Texts of a given length -/
def fixS (n : Nat) : Nat → List UInt8
  | 0 => []
  | L + 1 => fixS (n / 10) L ++ [dch (n % 10)]
theorem fixS_length : ∀ (L n : Nat), (fixS n L).length = L
  | 0, _ => rfl
  | L + 1, n => by simp [fixS, fixS_length L]
theorem fixS_all : ∀ (L n : Nat), (fixS n L).all dg = true
  | 0, _ => rfl
  | L + 1, n => by rw [fixS, all_append, fixS_all L]; simp [dch_dg (Nat.mod_lt n (by omega : 0 < 10))]
theorem natOf_fixS : ∀ (L n : Nat), n < 10 ^ L → natOf (fixS n L) = n
  | 0, n, h => by simp at h; subst h; rfl
  | L + 1, n, h => by
    rw [fixS, natOf_snoc, natOf_fixS L (n / 10) (by rw [Nat.pow_succ] at h; omega), dv_dch (Nat.mod_lt n (by omega))]
    omega
theorem fixS_of {s : List UInt8} (hs : s.all dg = true) {n L : Nat} (hn : natOf s = n) (hL : s.length = L) : s = fixS n L := by
  subst hn hL
  exact ((natOf_eq_iff s (fixS (natOf s) s.length) (by rw [fixS_length]) hs (fixS_all _ _)).1 (by rw [natOf_fixS _ _ (natOf_lt s hs)]))
theorem drop_cons (s : List UInt8) (i : Nat) (hi : i < s.length) : s.drop i = s.getD i 0 :: s.drop (i + 1) := by
  rw [List.drop_eq_getElem_cons hi]
  simp [List.getD, List.getElem?_eq_getElem hi]
theorem natOf_drop (s : List UInt8) (k : Nat) (hk : k < s.length) : natOf (s.drop (s.length - (k + 1))) = dv (s.getD (s.length - 1 - k) 0) * 10 ^ k + natOf (s.drop (s.length - k)) := by
  rw [show s.length - (k + 1) = s.length - 1 - k by omega, drop_cons s _ (by omega), natOf_cons, show s.length - 1 - k + 1 = s.length - k by omega, List.length_drop, show s.length - (s.length - k) = k by omega]

theorem natOf_split (s : List UInt8) (hs : s.all dg = true) (m : Nat) (hm : m ≤ s.length) : natOf (s.take (s.length - m)) = natOf s / 10 ^ m ∧ natOf (s.drop (s.length - m)) = natOf s % 10 ^ m := by
  have e := natOf_append (s.take (s.length - m)) (s.drop (s.length - m))
  rw [List.take_append_drop, List.length_drop, show s.length - (s.length - m) = m by omega] at e
  have hd : (s.drop (s.length - m)).all dg = true := by
    rw [List.all_eq_true] at hs ⊢
    exact fun b hb => hs b (List.mem_of_mem_drop hb)
  have hl := natOf_lt _ hd
  rw [List.length_drop, show s.length - (s.length - m) = m by omega] at hl
  have hp : 0 < 10 ^ m := Nat.pow_pos (by omega)
  rw [e]
  constructor
  · rw [Nat.add_comm, Nat.add_mul_div_right _ _ hp, Nat.div_eq_of_lt hl, Nat.zero_add]
  · rw [Nat.add_comm, Nat.add_mul_mod_self_right, Nat.mod_eq_of_lt hl]
theorem natOf_zero_iff : ∀ (s : List UInt8), s.all dg = true → (natOf s = 0 ↔ ∀ b ∈ s, b = 48)
  | [], _ => by simp [natOf_nil]
  | b :: s, h => by
    simp only [List.all_cons, Bool.and_eq_true] at h
    have ih := natOf_zero_iff s h.2
    rw [natOf_cons]
    have hp : 0 < 10 ^ s.length := Nat.pow_pos (by omega)
    constructor
    · intro e
      have h1 : dv b * 10 ^ s.length = 0 := by omega
      have h2 : dv b = 0 := by
        rcases Nat.mul_eq_zero.1 h1 with h | h
        · exact h
        · omega
      have h3 : b = 48 := by rw [← dch_dv h.1, h2]; rfl
      intro c hc
      rcases List.mem_cons.1 hc with e' | e'
      · rw [e', h3]
      · exact ih.1 (by omega) c e'
    · intro e
      have h1 : b = 48 := e b List.mem_cons_self
      have h2 : natOf s = 0 := ih.2 fun c hc => e c (List.mem_cons_of_mem _ hc)
      rw [h1, h2]; simp [dv]
end Go.Dec
