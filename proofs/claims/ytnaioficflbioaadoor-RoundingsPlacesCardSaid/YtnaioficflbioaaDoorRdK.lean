/-
  Arguments that are not valid are errors.
  Conditions: none.
-/
import Derived.Test.YtnaioficflbioaaDoorRdI
set_option linter.unusedSimpArgs false
set_option linter.unnecessarySimpa false
set_option linter.unusedVariables false
namespace Go.Proofs.YtnaioficflbioaaDoor
open Go.AM
open Go.Proofs
open Go.Dec
open Go.Lib (decDigits)
set_option maxRecDepth 100000

theorem resE_ne1 (c : D) : (resE c).2 ≠ 1 := by
  unfold resE
  split
  · decide
  · exact fun h => absurd (show (0 : Int) = 1 from h) (by decide)
theorem normE_ne1 (neg : Bool) (n : Nat) (s : Int) : (normE neg n s).2 ≠ 1 := by
  unfold normE
  exact resE_ne1 _
theorem round_one (d : D) (s m : Int) : (roundE d s m).2 = 1 ↔ ¬(checkE d = 0 ∧ -62 ≤ s ∧ s ≤ 62 ∧ m ≤ 7) := by
  constructor
  · rintro h ⟨hv, s0, s1, m7⟩
    rw [roundE_val hv s m s0 s1 m7] at h
    revert h
    split
    · intro h; cases h
    · split
      · intro h; cases h
      · exact fun h => resE_ne1 _ h
  · intro h
    have : chkR d 1 s ≠ 0 ∨ 7 < m := by
      by_cases c : chkR d 1 s = 0
      · obtain ⟨hv, _, _, s0, s1⟩ := chkR_0 c
        refine .inr (Int.lt_of_not_ge fun hm => h ⟨hv, s0, s1, hm⟩)
      · exact .inl c
    rw [roundE, if_pos this]
theorem chk_iff (d : D) (g s : Int) : chkR d g s ≠ 0 ↔ ¬(checkE d = 0 ∧ (-62 ≤ s ∧ s ≤ 62) ∧ 1 ≤ g ∧ g ≤ 62) := by
  unfold chkR
  split
  · rename_i h
    exact ⟨fun e => absurd rfl e, fun e => absurd ⟨h.1, ⟨h.2.2.2.1, h.2.2.2.2⟩, h.2.1, h.2.2.1⟩ e⟩
  · rename_i h
    exact ⟨fun _ e => h ⟨e.1, e.2.2.1, e.2.2.2, e.2.1.1, e.2.1.2⟩, fun _ => by decide⟩
theorem chk_one {d : D} {g s : Int} (h : chkR d g s ≠ 0) : chkR d g s = 1 := (chkR_01 d g s).resolve_left h
theorem fits_one (d : D) (g s : Int) : (fitsE d g s).2 = 1 ↔ chkR d g s ≠ 0 := by
  unfold fitsE
  split
  · rename_i h; exact ⟨fun _ => h, fun _ => chk_one h⟩
  · rename_i h; exact ⟨(fun e => by simp at e), fun e => absurd e h⟩
theorem digits_one (d : D) (g s : Int) : (digitsE d g s).2 = 1 ↔ chkR d g s ≠ 0 := by
  have hf := fits_one d g s
  unfold digitsE
  split
  · exact hf
  · rename_i h
    have h' : (fitsE d g s).2 = 0 := by simpa using h
    rw [h'] at hf
    split <;> exact ⟨(fun e => by simp at e), fun e => absurd (hf.2 e) (by decide)⟩
theorem placesE_all {d : D} (dd : d.dig.all dg = true) (n s : Int) : (placesE d n s).1.all dg = true := by
  have r : ∀ k, (List.replicate k (48 : UInt8)).all dg = true := fun k => by
    rw [List.all_eq_true]
    intro x hx
    rw [List.eq_of_mem_replicate hx]
    decide
  unfold placesE
  split
  · rfl
  · simp only [List.all_append, Bool.and_eq_true]
    refine ⟨r _, ?_⟩
    split
    · rw [List.all_append, dd, r]; rfl
    · rw [List.all_eq_true] at dd ⊢
      exact fun x hx => dd x (List.mem_of_mem_take hx)
theorem low_one (d : D) (g s : Int) : (lowE d g s).2 = 1 ↔ chkR d g s ≠ 0 := by
  unfold lowE
  split
  · rename_i h; exact ⟨fun _ => h, fun _ => chk_one h⟩
  · rename_i h
    have h0 : chkR d g s = 0 := by simpa using h
    obtain ⟨hv, g0, g1, s0, s1⟩ := chkR_0 h0
    obtain ⟨sd, dd, _, _⟩ := Small_of_check hv
    obtain ⟨p1, p2, _⟩ := placesE_len d g s sd s0 s1 g0 g1
    split
    · exact ⟨(fun e => by simp at e), fun e => absurd h0 e⟩
    · rename_i hp
      have p3 := p2 (by simpa using hp)
      have hall := placesE_all dd g s
      refine ⟨fun e => ?_, fun e => absurd h0 e⟩
      unfold newE at e
      have hn : numB (List.drop (((placesE d g s).1.length : Int) - g).toNat (placesE d g s).1) = true := by
        unfold numB
        rw [Bool.and_eq_true]
        refine ⟨?_, ?_⟩
        · rw [Bool.not_eq_true', decide_eq_false_iff_not]
          intro hnil
          have := congrArg List.length hnil
          rw [List.length_drop, List.length_nil] at this
          omega
        · rw [List.all_eq_true] at hall ⊢
          exact fun x hx => hall x (List.mem_of_mem_drop hx)
      rw [if_pos ⟨hn, by rw [List.length_drop]; omega, by omega, by omega⟩] at e
      exact absurd e (normE_ne1 _ _ _)

end Go.Proofs.YtnaioficflbioaaDoor
