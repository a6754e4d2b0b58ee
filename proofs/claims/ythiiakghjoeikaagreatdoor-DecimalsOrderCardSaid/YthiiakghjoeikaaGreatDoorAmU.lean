/-
  An assertion layer over the model's wp, part U: rewriting lemmas for the heads of statements of open order.
  Conditions: none. Nothing here is about a particular program.
-/
import Derived.Test.YthiiakghjoeikaaGreatDoorAmT
set_option linter.unusedSimpArgs false
set_option linter.unnecessarySimpa false
set_option linter.unusedVariables false
namespace Go.AM
open Go.RowKit (Below)
section
variable {P : Program} {w₀ : World} {ops rest : List Oper} {s : Slots} {h h₀ : AHeap} {K : Slots → AHeap → Prop} {dst : Option Tmp} {ty : TypeId} {pos : String} {af : Array Edge}

theorem fOps_nil : fOps P w₀ ops h₀ [] s h K = K s h := rfl
theorem fp_of {op : Op} (hk : kindF P op = 2) : fOps P w₀ ops h₀ (⟨dst, op, ty, pos, af, none⟩ :: rest) s h K = ((pop P w₀ h s op).pre ∧ fOps P w₀ ops h₀ rest (putD s dst (pop P w₀ h s op).val) h K) := by
  have e : pop P w₀ h (s.keep (looksL ops ⟨dst, op, ty, pos, af, none⟩)) op = pop P w₀ h s op := pop_congr op (ev_mem fun t ht => by unfold looksL; exact List.mem_append_left _ ht)
  have h0 : ¬ kindF P op = 0 := by omega
  simp only [fOps, if_neg h0, stepF, if_pos hk, e]
  exact propext ⟨fun ⟨V, ⟨h1, h2⟩, h3⟩ => ⟨h1, h2 ▸ h3⟩, fun ⟨h1, h2⟩ => ⟨_, ⟨h1, rfl⟩, h2⟩⟩
def fgP (P : Program) (w₀ : World) (ops rest : List Oper) (h₀ : AHeap) (s : Slots) (h : AHeap) (K : Slots → AHeap → Prop) (dst : Option Tmp) (g : AVal) (want : Bool) (r : PR) : Prop :=
  gKnown g = true ∧ (guardB g want = true → r.pre) ∧ fOps P w₀ ops h₀ rest (putD s dst (condV (guardB g want) r.val)) h K
def fgQ (P : Program) (w₀ : World) (ops rest : List Oper) (h₀ : AHeap) (s : Slots) (h : AHeap) (K : Slots → AHeap → Prop) (dst : Option Tmp) (want : Bool) (r : PR) : Option Tmp → Prop
  | none => fOps P w₀ ops h₀ rest (putD s dst (.tuple [])) h K
  | some d => fgP P w₀ ops rest h₀ s h K dst (s.get d) want r
theorem fgQ_some {want : Bool} {r : PR} {d : Tmp} : fgQ P w₀ ops rest h₀ s h K dst want r (some d) = fgP P w₀ ops rest h₀ s h K dst (s.get d) want r := rfl
theorem fg_of {op : Op} {j : Nat} {want : Bool} (hk : kindF P op = 2) : fOps P w₀ ops h₀ (⟨dst, op, ty, pos, af, some (j, want)⟩ :: rest) s h K = fgQ P w₀ ops rest h₀ s h K dst want (pop P w₀ h s op) (nthDst ops j) := by
  have e : pop P w₀ h (s.keep (looksL ops ⟨dst, op, ty, pos, af, some (j, want)⟩)) op = pop P w₀ h s op := pop_congr op (ev_mem fun t ht => by unfold looksL; exact List.mem_append_left _ ht)
  have h0 : ¬ kindF P op = 0 := by omega
  simp only [fOps, if_neg h0]
  cases nthDst ops j with
  | none => rfl
  | some d =>
    simp only [fgQ, fgP, stepF, if_pos hk, e]
    refine propext ⟨fun ⟨g0, V, g1, g2⟩ => ?_, fun ⟨g0, g1, g2⟩ => ⟨g0, _, fun hg => ⟨g1 hg, rfl⟩, g2⟩⟩
    cases hg : guardB (s.get d) want with
    | false =>
      rw [hg] at g2
      exact ⟨g0, fun e => (by cases e), g2⟩
    | true =>
      obtain ⟨c1, c2⟩ := g1 hg
      subst c2
      rw [hg] at g2
      exact ⟨g0, fun _ => c1, g2⟩
theorem kindF_conv {t u : TypeId} {x : Operand} (hs : (!eStrBytes P t u && !eSame P t u) = true) : kindF P (.convert t u x) = 2 := by
  simp only [Bool.and_eq_true, Bool.not_eq_true'] at hs
  simp [kindF, hs.1, hs.2]
theorem kindF_str {t u e : TypeId} {x : Operand} (ht : P.underlying t = some .string) (hu : P.underlying u = some (.slice e)) (he : P.underlying e = some (.int .u8)) : kindF P (.convert t u x) = 0 := by
  simp [kindF, eStrBytes, ht, hu, he]
theorem fp_move (x : Operand) : fOps P w₀ ops h₀ (⟨dst, .move x, ty, pos, af, none⟩ :: rest) s h K = ((pop P w₀ h s (.move x)).pre ∧ fOps P w₀ ops h₀ rest (putD s dst (pop P w₀ h s (.move x)).val) h K) := fp_of (by rfl)
theorem fg_move (x : Operand) {j : Nat} {want : Bool} : fOps P w₀ ops h₀ (⟨dst, .move x, ty, pos, af, some (j, want)⟩ :: rest) s h K = fgQ P w₀ ops rest h₀ s h K dst want (pop P w₀ h s (.move x)) (nthDst ops j) := fg_of (by rfl)
theorem fp_assign (x : Operand) : fOps P w₀ ops h₀ (⟨dst, .assign x, ty, pos, af, none⟩ :: rest) s h K = ((pop P w₀ h s (.assign x)).pre ∧ fOps P w₀ ops h₀ rest (putD s dst (pop P w₀ h s (.assign x)).val) h K) := fp_of (by rfl)
theorem fg_assign (x : Operand) {j : Nat} {want : Bool} : fOps P w₀ ops h₀ (⟨dst, .assign x, ty, pos, af, some (j, want)⟩ :: rest) s h K = fgQ P w₀ ops rest h₀ s h K dst want (pop P w₀ h s (.assign x)) (nthDst ops j) := fg_of (by rfl)
theorem fp_pick (c a b : Operand) : fOps P w₀ ops h₀ (⟨dst, .pick c a b, ty, pos, af, none⟩ :: rest) s h K = ((pop P w₀ h s (.pick c a b)).pre ∧ fOps P w₀ ops h₀ rest (putD s dst (pop P w₀ h s (.pick c a b)).val) h K) := fp_of (by rfl)
theorem fg_pick (c a b : Operand) {j : Nat} {want : Bool} : fOps P w₀ ops h₀ (⟨dst, .pick c a b, ty, pos, af, some (j, want)⟩ :: rest) s h K = fgQ P w₀ ops rest h₀ s h K dst want (pop P w₀ h s (.pick c a b)) (nthDst ops j) := fg_of (by rfl)
theorem fp_binOp (o : BinOp) (t : TypeId) (x y : Operand) (u : TypeId) : fOps P w₀ ops h₀ (⟨dst, .binOp o t x y u, ty, pos, af, none⟩ :: rest) s h K = ((pop P w₀ h s (.binOp o t x y u)).pre ∧ fOps P w₀ ops h₀ rest (putD s dst (pop P w₀ h s (.binOp o t x y u)).val) h K) := fp_of (by rfl)
theorem fg_binOp (o : BinOp) (t : TypeId) (x y : Operand) (u : TypeId) {j : Nat} {want : Bool} : fOps P w₀ ops h₀ (⟨dst, .binOp o t x y u, ty, pos, af, some (j, want)⟩ :: rest) s h K = fgQ P w₀ ops rest h₀ s h K dst want (pop P w₀ h s (.binOp o t x y u)) (nthDst ops j) := fg_of (by rfl)
theorem fp_unOp (o : UnOp) (t : TypeId) (x : Operand) : fOps P w₀ ops h₀ (⟨dst, .unOp o t x, ty, pos, af, none⟩ :: rest) s h K = ((pop P w₀ h s (.unOp o t x)).pre ∧ fOps P w₀ ops h₀ rest (putD s dst (pop P w₀ h s (.unOp o t x)).val) h K) := fp_of (by rfl)
theorem fg_unOp (o : UnOp) (t : TypeId) (x : Operand) {j : Nat} {want : Bool} : fOps P w₀ ops h₀ (⟨dst, .unOp o t x, ty, pos, af, some (j, want)⟩ :: rest) s h K = fgQ P w₀ ops rest h₀ s h K dst want (pop P w₀ h s (.unOp o t x)) (nthDst ops j) := fg_of (by rfl)
theorem fp_load (t : TypeId) (x : Operand) : fOps P w₀ ops h₀ (⟨dst, .load t x, ty, pos, af, none⟩ :: rest) s h K = ((pop P w₀ h s (.load t x)).pre ∧ fOps P w₀ ops h₀ rest (putD s dst (pop P w₀ h s (.load t x)).val) h K) := fp_of (by rfl)
theorem fg_load (t : TypeId) (x : Operand) {j : Nat} {want : Bool} : fOps P w₀ ops h₀ (⟨dst, .load t x, ty, pos, af, some (j, want)⟩ :: rest) s h K = fgQ P w₀ ops rest h₀ s h K dst want (pop P w₀ h s (.load t x)) (nthDst ops j) := fg_of (by rfl)
theorem fp_field (t : TypeId) (x : Operand) (f : Nat) : fOps P w₀ ops h₀ (⟨dst, .field t x f, ty, pos, af, none⟩ :: rest) s h K = ((pop P w₀ h s (.field t x f)).pre ∧ fOps P w₀ ops h₀ rest (putD s dst (pop P w₀ h s (.field t x f)).val) h K) := fp_of (by rfl)
theorem fg_field (t : TypeId) (x : Operand) (f : Nat) {j : Nat} {want : Bool} : fOps P w₀ ops h₀ (⟨dst, .field t x f, ty, pos, af, some (j, want)⟩ :: rest) s h K = fgQ P w₀ ops rest h₀ s h K dst want (pop P w₀ h s (.field t x f)) (nthDst ops j) := fg_of (by rfl)
theorem fp_fieldAddr (t : TypeId) (x : Operand) (f : Nat) : fOps P w₀ ops h₀ (⟨dst, .fieldAddr t x f, ty, pos, af, none⟩ :: rest) s h K = ((pop P w₀ h s (.fieldAddr t x f)).pre ∧ fOps P w₀ ops h₀ rest (putD s dst (pop P w₀ h s (.fieldAddr t x f)).val) h K) := fp_of (by rfl)
theorem fg_fieldAddr (t : TypeId) (x : Operand) (f : Nat) {j : Nat} {want : Bool} : fOps P w₀ ops h₀ (⟨dst, .fieldAddr t x f, ty, pos, af, some (j, want)⟩ :: rest) s h K = fgQ P w₀ ops rest h₀ s h K dst want (pop P w₀ h s (.fieldAddr t x f)) (nthDst ops j) := fg_of (by rfl)
theorem fp_index (t : TypeId) (x i : Operand) : fOps P w₀ ops h₀ (⟨dst, .index t x i, ty, pos, af, none⟩ :: rest) s h K = ((pop P w₀ h s (.index t x i)).pre ∧ fOps P w₀ ops h₀ rest (putD s dst (pop P w₀ h s (.index t x i)).val) h K) := fp_of (by rfl)
theorem fg_index (t : TypeId) (x i : Operand) {j : Nat} {want : Bool} : fOps P w₀ ops h₀ (⟨dst, .index t x i, ty, pos, af, some (j, want)⟩ :: rest) s h K = fgQ P w₀ ops rest h₀ s h K dst want (pop P w₀ h s (.index t x i)) (nthDst ops j) := fg_of (by rfl)
theorem fp_indexAddr (t : TypeId) (x i : Operand) : fOps P w₀ ops h₀ (⟨dst, .indexAddr t x i, ty, pos, af, none⟩ :: rest) s h K = ((pop P w₀ h s (.indexAddr t x i)).pre ∧ fOps P w₀ ops h₀ rest (putD s dst (pop P w₀ h s (.indexAddr t x i)).val) h K) := fp_of (by rfl)
theorem fg_indexAddr (t : TypeId) (x i : Operand) {j : Nat} {want : Bool} : fOps P w₀ ops h₀ (⟨dst, .indexAddr t x i, ty, pos, af, some (j, want)⟩ :: rest) s h K = fgQ P w₀ ops rest h₀ s h K dst want (pop P w₀ h s (.indexAddr t x i)) (nthDst ops j) := fg_of (by rfl)
theorem fp_extract (x : Operand) (i : Nat) : fOps P w₀ ops h₀ (⟨dst, .extract x i, ty, pos, af, none⟩ :: rest) s h K = ((pop P w₀ h s (.extract x i)).pre ∧ fOps P w₀ ops h₀ rest (putD s dst (pop P w₀ h s (.extract x i)).val) h K) := fp_of (by rfl)
theorem fg_extract (x : Operand) (i : Nat) {j : Nat} {want : Bool} : fOps P w₀ ops h₀ (⟨dst, .extract x i, ty, pos, af, some (j, want)⟩ :: rest) s h K = fgQ P w₀ ops rest h₀ s h K dst want (pop P w₀ h s (.extract x i)) (nthDst ops j) := fg_of (by rfl)
theorem fp_nilCheck (x : Operand) : fOps P w₀ ops h₀ (⟨dst, .nilCheck x, ty, pos, af, none⟩ :: rest) s h K = ((pop P w₀ h s (.nilCheck x)).pre ∧ fOps P w₀ ops h₀ rest (putD s dst (pop P w₀ h s (.nilCheck x)).val) h K) := fp_of (by rfl)
theorem fg_nilCheck (x : Operand) {j : Nat} {want : Bool} : fOps P w₀ ops h₀ (⟨dst, .nilCheck x, ty, pos, af, some (j, want)⟩ :: rest) s h K = fgQ P w₀ ops rest h₀ s h K dst want (pop P w₀ h s (.nilCheck x)) (nthDst ops j) := fg_of (by rfl)
theorem fp_makeInterface (t : TypeId) (x : Operand) : fOps P w₀ ops h₀ (⟨dst, .makeInterface t x, ty, pos, af, none⟩ :: rest) s h K = ((pop P w₀ h s (.makeInterface t x)).pre ∧ fOps P w₀ ops h₀ rest (putD s dst (pop P w₀ h s (.makeInterface t x)).val) h K) := fp_of (by rfl)
theorem fg_makeInterface (t : TypeId) (x : Operand) {j : Nat} {want : Bool} : fOps P w₀ ops h₀ (⟨dst, .makeInterface t x, ty, pos, af, some (j, want)⟩ :: rest) s h K = fgQ P w₀ ops rest h₀ s h K dst want (pop P w₀ h s (.makeInterface t x)) (nthDst ops j) := fg_of (by rfl)
theorem fp_len (a : List Operand) (t : Array TypeId) : fOps P w₀ ops h₀ (⟨dst, .call ⟨.builtin .len, a.toArray, t⟩, ty, pos, af, none⟩ :: rest) s h K = ((pop P w₀ h s (.call ⟨.builtin .len, a.toArray, t⟩)).pre ∧ fOps P w₀ ops h₀ rest (putD s dst (pop P w₀ h s (.call ⟨.builtin .len, a.toArray, t⟩)).val) h K) := fp_of (by rfl)
theorem fg_len (a : List Operand) (t : Array TypeId) {j : Nat} {want : Bool} : fOps P w₀ ops h₀ (⟨dst, .call ⟨.builtin .len, a.toArray, t⟩, ty, pos, af, some (j, want)⟩ :: rest) s h K = fgQ P w₀ ops rest h₀ s h K dst want (pop P w₀ h s (.call ⟨.builtin .len, a.toArray, t⟩)) (nthDst ops j) := fg_of (by rfl)
theorem fp_cap (a : List Operand) (t : Array TypeId) : fOps P w₀ ops h₀ (⟨dst, .call ⟨.builtin .cap, a.toArray, t⟩, ty, pos, af, none⟩ :: rest) s h K = ((pop P w₀ h s (.call ⟨.builtin .cap, a.toArray, t⟩)).pre ∧ fOps P w₀ ops h₀ rest (putD s dst (pop P w₀ h s (.call ⟨.builtin .cap, a.toArray, t⟩)).val) h K) := fp_of (by rfl)
theorem fg_cap (a : List Operand) (t : Array TypeId) {j : Nat} {want : Bool} : fOps P w₀ ops h₀ (⟨dst, .call ⟨.builtin .cap, a.toArray, t⟩, ty, pos, af, some (j, want)⟩ :: rest) s h K = fgQ P w₀ ops rest h₀ s h K dst want (pop P w₀ h s (.call ⟨.builtin .cap, a.toArray, t⟩)) (nthDst ops j) := fg_of (by rfl)
theorem fp_max (a : List Operand) (t : Array TypeId) : fOps P w₀ ops h₀ (⟨dst, .call ⟨.builtin .max, a.toArray, t⟩, ty, pos, af, none⟩ :: rest) s h K = ((pop P w₀ h s (.call ⟨.builtin .max, a.toArray, t⟩)).pre ∧ fOps P w₀ ops h₀ rest (putD s dst (pop P w₀ h s (.call ⟨.builtin .max, a.toArray, t⟩)).val) h K) := fp_of (by rfl)
theorem fg_max (a : List Operand) (t : Array TypeId) {j : Nat} {want : Bool} : fOps P w₀ ops h₀ (⟨dst, .call ⟨.builtin .max, a.toArray, t⟩, ty, pos, af, some (j, want)⟩ :: rest) s h K = fgQ P w₀ ops rest h₀ s h K dst want (pop P w₀ h s (.call ⟨.builtin .max, a.toArray, t⟩)) (nthDst ops j) := fg_of (by rfl)
theorem fp_min (a : List Operand) (t : Array TypeId) : fOps P w₀ ops h₀ (⟨dst, .call ⟨.builtin .min, a.toArray, t⟩, ty, pos, af, none⟩ :: rest) s h K = ((pop P w₀ h s (.call ⟨.builtin .min, a.toArray, t⟩)).pre ∧ fOps P w₀ ops h₀ rest (putD s dst (pop P w₀ h s (.call ⟨.builtin .min, a.toArray, t⟩)).val) h K) := fp_of (by rfl)
theorem fg_min (a : List Operand) (t : Array TypeId) {j : Nat} {want : Bool} : fOps P w₀ ops h₀ (⟨dst, .call ⟨.builtin .min, a.toArray, t⟩, ty, pos, af, some (j, want)⟩ :: rest) s h K = fgQ P w₀ ops rest h₀ s h K dst want (pop P w₀ h s (.call ⟨.builtin .min, a.toArray, t⟩)) (nthDst ops j) := fg_of (by rfl)
theorem fp_convert (t u : TypeId) (x : Operand) (hs : (!eStrBytes P t u && !eSame P t u) = true) : fOps P w₀ ops h₀ (⟨dst, .convert t u x, ty, pos, af, none⟩ :: rest) s h K = ((pop P w₀ h s (.convert t u x)).pre ∧ fOps P w₀ ops h₀ rest (putD s dst (pop P w₀ h s (.convert t u x)).val) h K) := fp_of (kindF_conv hs)
theorem fp_slice (t : TypeId) (x : Operand) (a b c : Option Operand) : fOps P w₀ ops h₀ (⟨dst, .slice t x a b c, ty, pos, af, none⟩ :: rest) s h K = ((pop P w₀ h s (.slice t x a b c)).pre ∧ fOps P w₀ ops h₀ rest (putD s dst (pop P w₀ h s (.slice t x a b c)).val) h K) := fp_of (by rfl)
theorem fp_build (t : TypeId) (ps : List (Nat × Operand)) : fOps P w₀ ops h₀ (⟨dst, .build t ps.toArray, ty, pos, af, none⟩ :: rest) s h K = ((pop P w₀ h s (.build t ps.toArray)).pre ∧ fOps P w₀ ops h₀ rest (putD s dst (pop P w₀ h s (.build t ps.toArray)).val) h K) := fp_of (by rfl)
theorem fg_convert (t u : TypeId) (x : Operand) (hs : (!eStrBytes P t u && !eSame P t u) = true) {j : Nat} {want : Bool} : fOps P w₀ ops h₀ (⟨dst, .convert t u x, ty, pos, af, some (j, want)⟩ :: rest) s h K = fgQ P w₀ ops rest h₀ s h K dst want (pop P w₀ h s (.convert t u x)) (nthDst ops j) := fg_of (kindF_conv hs)
theorem fg_slice (t : TypeId) (x : Operand) (a b c : Option Operand) {j : Nat} {want : Bool} : fOps P w₀ ops h₀ (⟨dst, .slice t x a b c, ty, pos, af, some (j, want)⟩ :: rest) s h K = fgQ P w₀ ops rest h₀ s h K dst want (pop P w₀ h s (.slice t x a b c)) (nthDst ops j) := fg_of (by rfl)
theorem fg_build (t : TypeId) (ps : List (Nat × Operand)) {j : Nat} {want : Bool} : fOps P w₀ ops h₀ (⟨dst, .build t ps.toArray, ty, pos, af, some (j, want)⟩ :: rest) s h K = fgQ P w₀ ops rest h₀ s h K dst want (pop P w₀ h s (.build t ps.toArray)) (nthDst ops j) := fg_of (by rfl)

/-- A block is laid. -/
theorem fOps_lay {op : Op} (hk : kindF P op = 0) (he : aOps P w₀ ops [⟨dst, op, ty, pos, af, none⟩] s h (fun s' h' => fOps P w₀ ops h₀ rest s' h' K)) : fOps P w₀ ops h₀ (⟨dst, op, ty, pos, af, none⟩ :: rest) s h K := by
  simp only [aOps] at he
  simp only [fOps, if_pos hk]
  refine ⟨trivial, ?_⟩
  rw [eop_congr op (ev_mem fun t ht => by unfold looksL; exact List.mem_append_left _ ht)]
  exact he
/-- A call whose answer is one value and that leaves the heap. -/
theorem fOps_callV {fo : Operand} {args : List Operand} {ts : Array TypeId} {f : FuncId} {cap xs : List AVal} {V : AVal} (hf : ev s fo = .func f cap) (hx : evs s args ++ cap = xs) (hV : V.okIn (fun k => (h₀ k).isSome)) (hc : ∀ g, Sub h₀ g → ACall P w₀ f xs g (fun x h' => x = V ∧ h' = g))
    (hk : fOps P w₀ ops h₀ rest (putD s dst V) h K) : fOps P w₀ ops h₀ (⟨dst, .call ⟨.value fo, args.toArray, ts⟩, ty, pos, af, none⟩ :: rest) s h K := by
  have h0 : ¬ kindF P (.call ⟨.value fo, args.toArray, ts⟩) = 0 := by simp [kindF]
  simp only [fOps, if_neg h0]
  refine ⟨V, ?_, hk⟩
  have h2 : ¬ kindF P (.call ⟨.value fo, args.toArray, ts⟩) = 2 := by simp [kindF]
  rw [stepF, if_neg h2]
  refine ⟨rfl, hV, fun g hg => ?_⟩
  rw [eop_congr _ (ev_mem fun t ht => by unfold looksL; exact List.mem_append_left _ ht)]
  simp only [eop, hf, hx]
  exact hc g hg
theorem fOps_gcall {fo : Operand} {args : List Operand} {ts : Array TypeId} {j : Nat} {want : Bool} {f : FuncId} {cap xs : List AVal} {V : AVal} (hk : gKnown (gv s ops j) = true)
    (hf : guardB (gv s ops j) want = true → ev s fo = .func f cap ∧ evs s args ++ cap = xs) (hV : V.okIn (fun k => (h₀ k).isSome)) (hc : guardB (gv s ops j) want = true → ∀ g, Sub h₀ g → ACall P w₀ f xs g (fun x h' => x = V ∧ h' = g))
    (hr : fOps P w₀ ops h₀ rest (putD s dst (condV (guardB (gv s ops j) want) V)) h K) :
    fOps P w₀ ops h₀ (⟨dst, .call ⟨.value fo, args.toArray, ts⟩, ty, pos, af, some (j, want)⟩ :: rest) s h K := by
  unfold gv at hk hf hc hr
  have h0 : ¬ kindF P (.call ⟨.value fo, args.toArray, ts⟩) = 0 := by simp [kindF]
  have h2 : ¬ kindF P (.call ⟨.value fo, args.toArray, ts⟩) = 2 := by simp [kindF]
  simp only [fOps, if_neg h0]
  cases hj : nthDst ops j with
  | none => rw [hj] at hk; cases hk
  | some d =>
    simp only [hj] at hk hf hc hr ⊢
    refine ⟨hk, V, fun hg => ?_, hr⟩
    rw [stepF, if_neg h2]
    refine ⟨rfl, hV, fun g hsub => ?_⟩
    rw [eop_congr _ (ev_mem fun t ht => by unfold looksL; exact List.mem_append_left _ ht)]
    simp only [eop, (hf hg).1, (hf hg).2]
    exact hc hg g hsub
theorem kOps_nil {ks : List Nat} : kOps P w₀ ks [] s h K = K s h := rfl
/-- One operation of a tail that leaves blocks. -/
theorem kOps_step {ks : List Nat} {op : Op} (ha : aOps P w₀ [] [⟨dst, op, ty, pos, af, none⟩] s h (fun s' h' => (∀ k ∈ ks, h' k = h k) ∧ kOps P w₀ ks rest s' h' K)) : kOps P w₀ ks (⟨dst, op, ty, pos, af, none⟩ :: rest) s h K := by
  simp only [aOps] at ha
  exact ⟨rfl, ha⟩
theorem kp_of {ks : List Nat} {op : Op} (hp : pureOp P op = true) : kOps P w₀ ks (⟨dst, op, ty, pos, af, none⟩ :: rest) s h K = ((pop P w₀ h s op).pre ∧ kOps P w₀ ks rest (putD s dst (pop P w₀ h s op).val) h K) := by
  refine propext ⟨fun ⟨_, h1⟩ => ?_, fun ⟨h1, h2⟩ => ⟨rfl, (eop_pure hp).2 ⟨h1, fun _ _ => rfl, h2⟩⟩⟩
  obtain ⟨g1, _, g2⟩ := (eop_pure hp).1 h1
  exact ⟨g1, g2⟩
theorem kp_move {ks : List Nat} (x : Operand) : kOps P w₀ ks (⟨dst, .move x, ty, pos, af, none⟩ :: rest) s h K = ((pop P w₀ h s (.move x)).pre ∧ kOps P w₀ ks rest (putD s dst (pop P w₀ h s (.move x)).val) h K) := kp_of rfl
theorem kp_assign {ks : List Nat} (x : Operand) : kOps P w₀ ks (⟨dst, .assign x, ty, pos, af, none⟩ :: rest) s h K = ((pop P w₀ h s (.assign x)).pre ∧ kOps P w₀ ks rest (putD s dst (pop P w₀ h s (.assign x)).val) h K) := kp_of rfl
theorem kp_pick {ks : List Nat} (c a b : Operand) : kOps P w₀ ks (⟨dst, .pick c a b, ty, pos, af, none⟩ :: rest) s h K = ((pop P w₀ h s (.pick c a b)).pre ∧ kOps P w₀ ks rest (putD s dst (pop P w₀ h s (.pick c a b)).val) h K) := kp_of rfl
theorem kp_binOp {ks : List Nat} (o : BinOp) (t : TypeId) (x y : Operand) (u : TypeId) : kOps P w₀ ks (⟨dst, .binOp o t x y u, ty, pos, af, none⟩ :: rest) s h K = ((pop P w₀ h s (.binOp o t x y u)).pre ∧ kOps P w₀ ks rest (putD s dst (pop P w₀ h s (.binOp o t x y u)).val) h K) := kp_of rfl
theorem kp_unOp {ks : List Nat} (o : UnOp) (t : TypeId) (x : Operand) : kOps P w₀ ks (⟨dst, .unOp o t x, ty, pos, af, none⟩ :: rest) s h K = ((pop P w₀ h s (.unOp o t x)).pre ∧ kOps P w₀ ks rest (putD s dst (pop P w₀ h s (.unOp o t x)).val) h K) := kp_of rfl
theorem kp_load {ks : List Nat} (t : TypeId) (x : Operand) : kOps P w₀ ks (⟨dst, .load t x, ty, pos, af, none⟩ :: rest) s h K = ((pop P w₀ h s (.load t x)).pre ∧ kOps P w₀ ks rest (putD s dst (pop P w₀ h s (.load t x)).val) h K) := kp_of rfl
theorem kp_field {ks : List Nat} (t : TypeId) (x : Operand) (f : Nat) : kOps P w₀ ks (⟨dst, .field t x f, ty, pos, af, none⟩ :: rest) s h K = ((pop P w₀ h s (.field t x f)).pre ∧ kOps P w₀ ks rest (putD s dst (pop P w₀ h s (.field t x f)).val) h K) := kp_of rfl
theorem kp_fieldAddr {ks : List Nat} (t : TypeId) (x : Operand) (f : Nat) : kOps P w₀ ks (⟨dst, .fieldAddr t x f, ty, pos, af, none⟩ :: rest) s h K = ((pop P w₀ h s (.fieldAddr t x f)).pre ∧ kOps P w₀ ks rest (putD s dst (pop P w₀ h s (.fieldAddr t x f)).val) h K) := kp_of rfl
theorem kp_index {ks : List Nat} (t : TypeId) (x i : Operand) : kOps P w₀ ks (⟨dst, .index t x i, ty, pos, af, none⟩ :: rest) s h K = ((pop P w₀ h s (.index t x i)).pre ∧ kOps P w₀ ks rest (putD s dst (pop P w₀ h s (.index t x i)).val) h K) := kp_of rfl
theorem kp_indexAddr {ks : List Nat} (t : TypeId) (x i : Operand) : kOps P w₀ ks (⟨dst, .indexAddr t x i, ty, pos, af, none⟩ :: rest) s h K = ((pop P w₀ h s (.indexAddr t x i)).pre ∧ kOps P w₀ ks rest (putD s dst (pop P w₀ h s (.indexAddr t x i)).val) h K) := kp_of rfl
theorem kp_extract {ks : List Nat} (x : Operand) (i : Nat) : kOps P w₀ ks (⟨dst, .extract x i, ty, pos, af, none⟩ :: rest) s h K = ((pop P w₀ h s (.extract x i)).pre ∧ kOps P w₀ ks rest (putD s dst (pop P w₀ h s (.extract x i)).val) h K) := kp_of rfl
theorem kp_nilCheck {ks : List Nat} (x : Operand) : kOps P w₀ ks (⟨dst, .nilCheck x, ty, pos, af, none⟩ :: rest) s h K = ((pop P w₀ h s (.nilCheck x)).pre ∧ kOps P w₀ ks rest (putD s dst (pop P w₀ h s (.nilCheck x)).val) h K) := kp_of rfl
theorem kp_makeInterface {ks : List Nat} (t : TypeId) (x : Operand) : kOps P w₀ ks (⟨dst, .makeInterface t x, ty, pos, af, none⟩ :: rest) s h K = ((pop P w₀ h s (.makeInterface t x)).pre ∧ kOps P w₀ ks rest (putD s dst (pop P w₀ h s (.makeInterface t x)).val) h K) := kp_of rfl
theorem kp_len {ks : List Nat} (a : List Operand) (t : Array TypeId) : kOps P w₀ ks (⟨dst, .call ⟨.builtin .len, a.toArray, t⟩, ty, pos, af, none⟩ :: rest) s h K = ((pop P w₀ h s (.call ⟨.builtin .len, a.toArray, t⟩)).pre ∧ kOps P w₀ ks rest (putD s dst (pop P w₀ h s (.call ⟨.builtin .len, a.toArray, t⟩)).val) h K) := kp_of rfl
theorem kp_cap {ks : List Nat} (a : List Operand) (t : Array TypeId) : kOps P w₀ ks (⟨dst, .call ⟨.builtin .cap, a.toArray, t⟩, ty, pos, af, none⟩ :: rest) s h K = ((pop P w₀ h s (.call ⟨.builtin .cap, a.toArray, t⟩)).pre ∧ kOps P w₀ ks rest (putD s dst (pop P w₀ h s (.call ⟨.builtin .cap, a.toArray, t⟩)).val) h K) := kp_of rfl
theorem kp_max {ks : List Nat} (a : List Operand) (t : Array TypeId) : kOps P w₀ ks (⟨dst, .call ⟨.builtin .max, a.toArray, t⟩, ty, pos, af, none⟩ :: rest) s h K = ((pop P w₀ h s (.call ⟨.builtin .max, a.toArray, t⟩)).pre ∧ kOps P w₀ ks rest (putD s dst (pop P w₀ h s (.call ⟨.builtin .max, a.toArray, t⟩)).val) h K) := kp_of rfl
theorem kp_min {ks : List Nat} (a : List Operand) (t : Array TypeId) : kOps P w₀ ks (⟨dst, .call ⟨.builtin .min, a.toArray, t⟩, ty, pos, af, none⟩ :: rest) s h K = ((pop P w₀ h s (.call ⟨.builtin .min, a.toArray, t⟩)).pre ∧ kOps P w₀ ks rest (putD s dst (pop P w₀ h s (.call ⟨.builtin .min, a.toArray, t⟩)).val) h K) := kp_of rfl
theorem kp_convert {ks : List Nat} (t u : TypeId) (x : Operand) (hs : (!eStrBytes P t u && !eSame P t u) = true) : kOps P w₀ ks (⟨dst, .convert t u x, ty, pos, af, none⟩ :: rest) s h K = ((pop P w₀ h s (.convert t u x)).pre ∧ kOps P w₀ ks rest (putD s dst (pop P w₀ h s (.convert t u x)).val) h K) := kp_of (pu_convert t u x hs)
theorem kp_slice {ks : List Nat} (t : TypeId) (x : Operand) (a b c : Option Operand) : kOps P w₀ ks (⟨dst, .slice t x a b c, ty, pos, af, none⟩ :: rest) s h K = ((pop P w₀ h s (.slice t x a b c)).pre ∧ kOps P w₀ ks rest (putD s dst (pop P w₀ h s (.slice t x a b c)).val) h K) := kp_of rfl
theorem kp_build {ks : List Nat} (t : TypeId) (ps : List (Nat × Operand)) : kOps P w₀ ks (⟨dst, .build t ps.toArray, ty, pos, af, none⟩ :: rest) s h K = ((pop P w₀ h s (.build t ps.toArray)).pre ∧ kOps P w₀ ks rest (putD s dst (pop P w₀ h s (.build t ps.toArray)).val) h K) := kp_of rfl
end
end Go.AM
