/-
  An assertion layer over the model's wp, part M: slicing, told for each shape of value.
  Conditions: none. Nothing here is about a particular program.
-/
import Derived.Test.YthiiakghjoeikaaGreatDoorAmL
set_option linter.unusedSimpArgs false
set_option linter.unnecessarySimpa false
set_option linter.unusedVariables false
namespace Go.AM

def pSliceS (s : List UInt8) : Option Int → Option Int → PR
  | some l, some h => ⟨0 ≤ l ∧ l ≤ h ∧ h ≤ s.length, .str ((s.drop l.toNat).take (h.toNat - l.toNat))⟩
  | _, _ => .no
def pSliceE (lc : Loc) (o c es : Nat) : Option Int → Option Int → PR
  | some l, some h => ⟨0 ≤ l ∧ l ≤ h ∧ h ≤ c, .slice lc (o + l.toNat * es) (h - l).toNat (.exact (c - l).toNat)⟩
  | _, _ => .no
def pSliceG (lc : Loc) (o len es : Nat) : Option Int → Option Int → PR
  | some l, some h => ⟨0 ≤ l ∧ l ≤ h ∧ h ≤ len, .slice lc (o + l.toNat * es) (h - l).toNat (.grow es)⟩
  | _, _ => .no
def pSliceE3 (lc : Loc) (o c es : Nat) : Option Int → Option Int → Int → PR
  | some l, some h, m => ⟨0 ≤ l ∧ l ≤ h ∧ h ≤ m ∧ m ≤ c, .slice lc (o + l.toNat * es) (h - l).toNat (.exact (m - l).toNat)⟩
  | _, _, _ => .no
theorem bndA_none (d : Nat) : bndA none d = some (d : Int) := rfl
theorem bndA_int (k : IntKind) (n : Int) (d : Nat) : bndA (some (.int k n)) d = some n := rfl
section
variable {P : Program}
theorem pSliceS_str {t : TypeId} (ht : P.underlying t = some .string) (s : List UInt8) (lo hi : Option AVal) : pSlice P t (.str s) lo hi none = pSliceS s (bndA lo 0) (bndA hi s.length) := by
  simp only [pSlice, ht]
  cases bndA lo 0 <;> cases bndA hi s.length <;> rfl
theorem pSlice_ex {t e : TypeId} {es : Nat} (ht : P.underlying t = some (.slice e)) (hs : szOf P e = some es) (l : Loc) (o len c : Nat) (lo hi : Option AVal) :
    pSlice P t (.slice l o len (.exact c)) lo hi none = pSliceE l o c es (bndA lo 0) (bndA hi len) := by
  simp only [pSlice, ht, hs]
  cases bndA lo 0 <;> cases bndA hi len <;> rfl
theorem pSlice_gr {t e : TypeId} {es : Nat} (ht : P.underlying t = some (.slice e)) (hs : szOf P e = some es) (l : Loc) (o len : Nat) (lo hi : Option AVal) :
    pSlice P t (.slice l o len (.grow es)) lo hi none = pSliceG l o len es (bndA lo 0) (bndA hi len) := by
  simp only [pSlice, ht, hs]
  cases bndA lo 0 <;> cases bndA hi len <;> simp [pSliceG]
theorem pSliceX_nil {t e : TypeId} {es : Nat} (ht : P.underlying t = some (.slice e)) (hs : szOf P e = some es) (lo hi : Option AVal) {l r : Int} (hl : bndA lo 0 = some l) (hh : bndA hi 0 = some r) :
    pSlice P t .nilSlice lo hi none = ⟨l = 0 ∧ r = 0, .nilSlice⟩ := by
  simp only [pSlice, ht, hs, hl, hh]
theorem pSlice_ex3 {t e : TypeId} {es : Nat} (ht : P.underlying t = some (.slice e)) (hs : szOf P e = some es) (l : Loc) (o len c : Nat) (lo : Option AVal) (x : AVal) (k : IntKind) (m : Int) :
    pSlice P t (.slice l o len (.exact c)) lo (some x) (some (.int k m)) = pSliceE3 l o c es (bndA lo 0) (bndA (some x) len) m := by
  simp only [pSlice, ht, hs]
  cases bndA lo 0 <;> cases bndA (some x) len <;> simp [pSliceE3]
theorem pSlice_gr3 {t e : TypeId} {es : Nat} (ht : P.underlying t = some (.slice e)) (hs : szOf P e = some es) (l : Loc) (o len g : Nat) (lo : Option AVal) (x : AVal) (k : IntKind) (m : Int) :
    pSlice P t (.slice l o len (.grow g)) lo (some x) (some (.int k m)) = pSliceE3 l o len es (bndA lo 0) (bndA (some x) len) m := by
  simp only [pSlice, ht, hs]
  cases bndA lo 0 <;> cases bndA (some x) len <;> simp [pSliceE3]
end
end Go.AM
