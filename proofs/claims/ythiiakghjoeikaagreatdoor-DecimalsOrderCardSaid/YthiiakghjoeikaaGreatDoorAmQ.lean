/-
  An assertion layer over the model's wp, part Q: statements of open order, as a walk rewrites them.
  Conditions: none. Nothing here is about a particular program.
-/
import Derived.Test.YthiiakghjoeikaaGreatDoorAmP
set_option linter.unusedSimpArgs false
set_option linter.unnecessarySimpa false
set_option linter.unusedVariables false
namespace Go.AM

theorem ev_keep {s : Slots} {L : List Nat} {x : Operand} (h : ∀ t, x = .tmp t → t ∈ L) : ev (s.keep L) x = ev s x := by
  cases x with
  | tmp t =>
    simp only [ev, Slots.get_keep]
    rw [if_pos (by simpa using h t rfl)]
  | _ => rfl
theorem looks_of {ops : List Oper} {o : Oper} {x : Operand} (h : x ∈ o.op.operands.toList) : ∀ t, x = .tmp t → t ∈ looksL ops o := by
  rintro t rfl
  unfold looksL opTmps
  rw [List.mem_append]
  exact .inl (List.mem_filterMap.2 ⟨_, h, rfl⟩)
theorem evs_keep {s : Slots} {L : List Nat} : ∀ {xs : List Operand}, (∀ x ∈ xs, ∀ t, x = .tmp t → t ∈ L) → evs (s.keep L) xs = evs s xs
  | [], _ => rfl
  | x :: xs, h => by
    have := evs_keep (s := s) (L := L) (xs := xs) fun y hy => h y (List.mem_cons_of_mem _ hy)
    simp only [evs, List.map_cons] at this ⊢
    rw [ev_keep (h x List.mem_cons_self), this]

section
variable {P : Program} {w₀ : World} {ops rest : List Oper} {s : Slots} {h : AHeap} {K : Slots → AHeap → Prop} {dst : Option Tmp} {ty : TypeId} {pos : String} {af : Array Edge}

theorem vOps_nil : vOps P w₀ ops [] s h K = K s h := rfl
theorem vp_of {op : Op} (hp : pureOp P op = true) (hk : pop P w₀ h (s.keep (looksL ops ⟨dst, op, ty, pos, af, none⟩)) op = pop P w₀ h s op) :
    vOps P w₀ ops (⟨dst, op, ty, pos, af, none⟩ :: rest) s h K = ((pop P w₀ h s op).pre ∧ vOps P w₀ ops rest (putD s dst (pop P w₀ h s op).val) h K) := by
  simp only [vOps]
  refine propext ⟨fun ⟨V, h1, h2⟩ => ?_, fun ⟨h1, h2⟩ => ⟨_, (eop_pure hp).2 ⟨by rw [hk]; exact h1, by rw [hk], rfl⟩, h2⟩⟩
  obtain ⟨g1, g2, _⟩ := (eop_pure hp).1 h1
  rw [hk] at g1 g2
  subst g2
  exact ⟨g1, h2⟩
def vgP (P : Program) (w₀ : World) (ops rest : List Oper) (s : Slots) (h : AHeap) (K : Slots → AHeap → Prop) (dst : Option Tmp) (g : AVal) (want : Bool) (r : PR) : Prop :=
  gKnown g = true ∧ (guardB g want = true → r.pre) ∧ vOps P w₀ ops rest (putD s dst (condV (guardB g want) r.val)) h K
def vgQ (P : Program) (w₀ : World) (ops rest : List Oper) (s : Slots) (h : AHeap) (K : Slots → AHeap → Prop) (dst : Option Tmp) (want : Bool) (r : PR) : Option Tmp → Prop
  | none => vOps P w₀ ops rest (putD s dst (.tuple [])) h K
  | some d => vgP P w₀ ops rest s h K dst (s.get d) want r
theorem vgQ_some {want : Bool} {r : PR} {d : Tmp} : vgQ P w₀ ops rest s h K dst want r (some d) = vgP P w₀ ops rest s h K dst (s.get d) want r := rfl
theorem vg_of {op : Op} {j : Nat} {want : Bool} (hp : pureOp P op = true) (hk : pop P w₀ h (s.keep (looksL ops ⟨dst, op, ty, pos, af, some (j, want)⟩)) op = pop P w₀ h s op) :
    vOps P w₀ ops (⟨dst, op, ty, pos, af, some (j, want)⟩ :: rest) s h K = vgQ P w₀ ops rest s h K dst want (pop P w₀ h s op) (nthDst ops j) := by
  simp only [vOps]
  cases nthDst ops j with
  | none => rfl
  | some d =>
    simp only [vgQ, vgP]
    refine propext ⟨fun ⟨h0, V, h1, h2⟩ => ?_, fun ⟨h0, h1, h2⟩ => ⟨h0, _, fun hg => (eop_pure hp).2 ⟨by rw [hk]; exact h1 hg, by rw [hk], rfl⟩, h2⟩⟩
    cases hg : guardB (s.get d) want with
    | false =>
      rw [hg] at h2
      exact ⟨h0, fun e => (by cases e), h2⟩
    | true =>
      obtain ⟨g1, g2, _⟩ := (eop_pure hp).1 (h1 hg)
      rw [hk] at g1 g2
      subst g2
      rw [hg] at h2
      exact ⟨h0, fun _ => g1, h2⟩
theorem vp_move (x : Operand) : vOps P w₀ ops (⟨dst, .move x, ty, pos, af, none⟩ :: rest) s h K = ((pop P w₀ h s (.move x)).pre ∧ vOps P w₀ ops rest (putD s dst (pop P w₀ h s (.move x)).val) h K) :=
  vp_of rfl (by
    simp only [pop, ev_keep (looks_of (o := ⟨dst, .move x, ty, pos, af, none⟩) (x := x) (by simp [Op.operands]))])
theorem vg_move (x : Operand) {j : Nat} {want : Bool} : vOps P w₀ ops (⟨dst, .move x, ty, pos, af, some (j, want)⟩ :: rest) s h K = vgQ P w₀ ops rest s h K dst want (pop P w₀ h s (.move x)) (nthDst ops j) :=
  vg_of rfl (by
    simp only [pop, ev_keep (looks_of (o := ⟨dst, .move x, ty, pos, af, some (j, want)⟩) (x := x) (by simp [Op.operands]))])
theorem vp_assign (x : Operand) : vOps P w₀ ops (⟨dst, .assign x, ty, pos, af, none⟩ :: rest) s h K = ((pop P w₀ h s (.assign x)).pre ∧ vOps P w₀ ops rest (putD s dst (pop P w₀ h s (.assign x)).val) h K) :=
  vp_of rfl (by
    simp only [pop, ev_keep (looks_of (o := ⟨dst, .assign x, ty, pos, af, none⟩) (x := x) (by simp [Op.operands]))])
theorem vg_assign (x : Operand) {j : Nat} {want : Bool} : vOps P w₀ ops (⟨dst, .assign x, ty, pos, af, some (j, want)⟩ :: rest) s h K = vgQ P w₀ ops rest s h K dst want (pop P w₀ h s (.assign x)) (nthDst ops j) :=
  vg_of rfl (by
    simp only [pop, ev_keep (looks_of (o := ⟨dst, .assign x, ty, pos, af, some (j, want)⟩) (x := x) (by simp [Op.operands]))])
theorem vp_pick (c a b : Operand) : vOps P w₀ ops (⟨dst, .pick c a b, ty, pos, af, none⟩ :: rest) s h K = ((pop P w₀ h s (.pick c a b)).pre ∧ vOps P w₀ ops rest (putD s dst (pop P w₀ h s (.pick c a b)).val) h K) :=
  vp_of rfl (by
    simp only [pop, ev_keep (looks_of (o := ⟨dst, .pick c a b, ty, pos, af, none⟩) (x := c) (by simp [Op.operands])), ev_keep (looks_of (o := ⟨dst, .pick c a b, ty, pos, af, none⟩) (x := a) (by simp [Op.operands])), ev_keep (looks_of (o := ⟨dst, .pick c a b, ty, pos, af, none⟩) (x := b) (by simp [Op.operands]))])
theorem vg_pick (c a b : Operand) {j : Nat} {want : Bool} : vOps P w₀ ops (⟨dst, .pick c a b, ty, pos, af, some (j, want)⟩ :: rest) s h K = vgQ P w₀ ops rest s h K dst want (pop P w₀ h s (.pick c a b)) (nthDst ops j) :=
  vg_of rfl (by
    simp only [pop, ev_keep (looks_of (o := ⟨dst, .pick c a b, ty, pos, af, some (j, want)⟩) (x := c) (by simp [Op.operands])), ev_keep (looks_of (o := ⟨dst, .pick c a b, ty, pos, af, some (j, want)⟩) (x := a) (by simp [Op.operands])), ev_keep (looks_of (o := ⟨dst, .pick c a b, ty, pos, af, some (j, want)⟩) (x := b) (by simp [Op.operands]))])
theorem vp_binOp (o : BinOp) (t : TypeId) (x y : Operand) (u : TypeId) : vOps P w₀ ops (⟨dst, .binOp o t x y u, ty, pos, af, none⟩ :: rest) s h K = ((pop P w₀ h s (.binOp o t x y u)).pre ∧ vOps P w₀ ops rest (putD s dst (pop P w₀ h s (.binOp o t x y u)).val) h K) :=
  vp_of rfl (by
    simp only [pop, ev_keep (looks_of (o := ⟨dst, .binOp o t x y u, ty, pos, af, none⟩) (x := x) (by simp [Op.operands])), ev_keep (looks_of (o := ⟨dst, .binOp o t x y u, ty, pos, af, none⟩) (x := y) (by simp [Op.operands]))])
theorem vg_binOp (o : BinOp) (t : TypeId) (x y : Operand) (u : TypeId) {j : Nat} {want : Bool} : vOps P w₀ ops (⟨dst, .binOp o t x y u, ty, pos, af, some (j, want)⟩ :: rest) s h K = vgQ P w₀ ops rest s h K dst want (pop P w₀ h s (.binOp o t x y u)) (nthDst ops j) :=
  vg_of rfl (by
    simp only [pop, ev_keep (looks_of (o := ⟨dst, .binOp o t x y u, ty, pos, af, some (j, want)⟩) (x := x) (by simp [Op.operands])), ev_keep (looks_of (o := ⟨dst, .binOp o t x y u, ty, pos, af, some (j, want)⟩) (x := y) (by simp [Op.operands]))])
theorem vp_unOp (o : UnOp) (t : TypeId) (x : Operand) : vOps P w₀ ops (⟨dst, .unOp o t x, ty, pos, af, none⟩ :: rest) s h K = ((pop P w₀ h s (.unOp o t x)).pre ∧ vOps P w₀ ops rest (putD s dst (pop P w₀ h s (.unOp o t x)).val) h K) :=
  vp_of rfl (by
    simp only [pop, ev_keep (looks_of (o := ⟨dst, .unOp o t x, ty, pos, af, none⟩) (x := x) (by simp [Op.operands]))])
theorem vg_unOp (o : UnOp) (t : TypeId) (x : Operand) {j : Nat} {want : Bool} : vOps P w₀ ops (⟨dst, .unOp o t x, ty, pos, af, some (j, want)⟩ :: rest) s h K = vgQ P w₀ ops rest s h K dst want (pop P w₀ h s (.unOp o t x)) (nthDst ops j) :=
  vg_of rfl (by
    simp only [pop, ev_keep (looks_of (o := ⟨dst, .unOp o t x, ty, pos, af, some (j, want)⟩) (x := x) (by simp [Op.operands]))])
theorem vp_load (t : TypeId) (x : Operand) : vOps P w₀ ops (⟨dst, .load t x, ty, pos, af, none⟩ :: rest) s h K = ((pop P w₀ h s (.load t x)).pre ∧ vOps P w₀ ops rest (putD s dst (pop P w₀ h s (.load t x)).val) h K) :=
  vp_of rfl (by
    simp only [pop, ev_keep (looks_of (o := ⟨dst, .load t x, ty, pos, af, none⟩) (x := x) (by simp [Op.operands]))])
theorem vg_load (t : TypeId) (x : Operand) {j : Nat} {want : Bool} : vOps P w₀ ops (⟨dst, .load t x, ty, pos, af, some (j, want)⟩ :: rest) s h K = vgQ P w₀ ops rest s h K dst want (pop P w₀ h s (.load t x)) (nthDst ops j) :=
  vg_of rfl (by
    simp only [pop, ev_keep (looks_of (o := ⟨dst, .load t x, ty, pos, af, some (j, want)⟩) (x := x) (by simp [Op.operands]))])
theorem vp_field (t : TypeId) (x : Operand) (f : Nat) : vOps P w₀ ops (⟨dst, .field t x f, ty, pos, af, none⟩ :: rest) s h K = ((pop P w₀ h s (.field t x f)).pre ∧ vOps P w₀ ops rest (putD s dst (pop P w₀ h s (.field t x f)).val) h K) :=
  vp_of rfl (by
    simp only [pop, ev_keep (looks_of (o := ⟨dst, .field t x f, ty, pos, af, none⟩) (x := x) (by simp [Op.operands]))])
theorem vg_field (t : TypeId) (x : Operand) (f : Nat) {j : Nat} {want : Bool} : vOps P w₀ ops (⟨dst, .field t x f, ty, pos, af, some (j, want)⟩ :: rest) s h K = vgQ P w₀ ops rest s h K dst want (pop P w₀ h s (.field t x f)) (nthDst ops j) :=
  vg_of rfl (by
    simp only [pop, ev_keep (looks_of (o := ⟨dst, .field t x f, ty, pos, af, some (j, want)⟩) (x := x) (by simp [Op.operands]))])
theorem vp_fieldAddr (t : TypeId) (x : Operand) (f : Nat) : vOps P w₀ ops (⟨dst, .fieldAddr t x f, ty, pos, af, none⟩ :: rest) s h K = ((pop P w₀ h s (.fieldAddr t x f)).pre ∧ vOps P w₀ ops rest (putD s dst (pop P w₀ h s (.fieldAddr t x f)).val) h K) :=
  vp_of rfl (by
    simp only [pop, ev_keep (looks_of (o := ⟨dst, .fieldAddr t x f, ty, pos, af, none⟩) (x := x) (by simp [Op.operands]))])
theorem vg_fieldAddr (t : TypeId) (x : Operand) (f : Nat) {j : Nat} {want : Bool} : vOps P w₀ ops (⟨dst, .fieldAddr t x f, ty, pos, af, some (j, want)⟩ :: rest) s h K = vgQ P w₀ ops rest s h K dst want (pop P w₀ h s (.fieldAddr t x f)) (nthDst ops j) :=
  vg_of rfl (by
    simp only [pop, ev_keep (looks_of (o := ⟨dst, .fieldAddr t x f, ty, pos, af, some (j, want)⟩) (x := x) (by simp [Op.operands]))])
theorem vp_index (t : TypeId) (x i : Operand) : vOps P w₀ ops (⟨dst, .index t x i, ty, pos, af, none⟩ :: rest) s h K = ((pop P w₀ h s (.index t x i)).pre ∧ vOps P w₀ ops rest (putD s dst (pop P w₀ h s (.index t x i)).val) h K) :=
  vp_of rfl (by
    simp only [pop, ev_keep (looks_of (o := ⟨dst, .index t x i, ty, pos, af, none⟩) (x := x) (by simp [Op.operands])), ev_keep (looks_of (o := ⟨dst, .index t x i, ty, pos, af, none⟩) (x := i) (by simp [Op.operands]))])
theorem vg_index (t : TypeId) (x i : Operand) {j : Nat} {want : Bool} : vOps P w₀ ops (⟨dst, .index t x i, ty, pos, af, some (j, want)⟩ :: rest) s h K = vgQ P w₀ ops rest s h K dst want (pop P w₀ h s (.index t x i)) (nthDst ops j) :=
  vg_of rfl (by
    simp only [pop, ev_keep (looks_of (o := ⟨dst, .index t x i, ty, pos, af, some (j, want)⟩) (x := x) (by simp [Op.operands])), ev_keep (looks_of (o := ⟨dst, .index t x i, ty, pos, af, some (j, want)⟩) (x := i) (by simp [Op.operands]))])
theorem vp_indexAddr (t : TypeId) (x i : Operand) : vOps P w₀ ops (⟨dst, .indexAddr t x i, ty, pos, af, none⟩ :: rest) s h K = ((pop P w₀ h s (.indexAddr t x i)).pre ∧ vOps P w₀ ops rest (putD s dst (pop P w₀ h s (.indexAddr t x i)).val) h K) :=
  vp_of rfl (by
    simp only [pop, ev_keep (looks_of (o := ⟨dst, .indexAddr t x i, ty, pos, af, none⟩) (x := x) (by simp [Op.operands])), ev_keep (looks_of (o := ⟨dst, .indexAddr t x i, ty, pos, af, none⟩) (x := i) (by simp [Op.operands]))])
theorem vg_indexAddr (t : TypeId) (x i : Operand) {j : Nat} {want : Bool} : vOps P w₀ ops (⟨dst, .indexAddr t x i, ty, pos, af, some (j, want)⟩ :: rest) s h K = vgQ P w₀ ops rest s h K dst want (pop P w₀ h s (.indexAddr t x i)) (nthDst ops j) :=
  vg_of rfl (by
    simp only [pop, ev_keep (looks_of (o := ⟨dst, .indexAddr t x i, ty, pos, af, some (j, want)⟩) (x := x) (by simp [Op.operands])), ev_keep (looks_of (o := ⟨dst, .indexAddr t x i, ty, pos, af, some (j, want)⟩) (x := i) (by simp [Op.operands]))])
theorem vp_extract (x : Operand) (i : Nat) : vOps P w₀ ops (⟨dst, .extract x i, ty, pos, af, none⟩ :: rest) s h K = ((pop P w₀ h s (.extract x i)).pre ∧ vOps P w₀ ops rest (putD s dst (pop P w₀ h s (.extract x i)).val) h K) :=
  vp_of rfl (by
    simp only [pop, ev_keep (looks_of (o := ⟨dst, .extract x i, ty, pos, af, none⟩) (x := x) (by simp [Op.operands]))])
theorem vg_extract (x : Operand) (i : Nat) {j : Nat} {want : Bool} : vOps P w₀ ops (⟨dst, .extract x i, ty, pos, af, some (j, want)⟩ :: rest) s h K = vgQ P w₀ ops rest s h K dst want (pop P w₀ h s (.extract x i)) (nthDst ops j) :=
  vg_of rfl (by
    simp only [pop, ev_keep (looks_of (o := ⟨dst, .extract x i, ty, pos, af, some (j, want)⟩) (x := x) (by simp [Op.operands]))])
theorem vp_nilCheck (x : Operand) : vOps P w₀ ops (⟨dst, .nilCheck x, ty, pos, af, none⟩ :: rest) s h K = ((pop P w₀ h s (.nilCheck x)).pre ∧ vOps P w₀ ops rest (putD s dst (pop P w₀ h s (.nilCheck x)).val) h K) :=
  vp_of rfl (by
    simp only [pop, ev_keep (looks_of (o := ⟨dst, .nilCheck x, ty, pos, af, none⟩) (x := x) (by simp [Op.operands]))])
theorem vg_nilCheck (x : Operand) {j : Nat} {want : Bool} : vOps P w₀ ops (⟨dst, .nilCheck x, ty, pos, af, some (j, want)⟩ :: rest) s h K = vgQ P w₀ ops rest s h K dst want (pop P w₀ h s (.nilCheck x)) (nthDst ops j) :=
  vg_of rfl (by
    simp only [pop, ev_keep (looks_of (o := ⟨dst, .nilCheck x, ty, pos, af, some (j, want)⟩) (x := x) (by simp [Op.operands]))])
theorem vp_makeInterface (t : TypeId) (x : Operand) : vOps P w₀ ops (⟨dst, .makeInterface t x, ty, pos, af, none⟩ :: rest) s h K = ((pop P w₀ h s (.makeInterface t x)).pre ∧ vOps P w₀ ops rest (putD s dst (pop P w₀ h s (.makeInterface t x)).val) h K) :=
  vp_of rfl (by
    simp only [pop, ev_keep (looks_of (o := ⟨dst, .makeInterface t x, ty, pos, af, none⟩) (x := x) (by simp [Op.operands]))])
theorem vg_makeInterface (t : TypeId) (x : Operand) {j : Nat} {want : Bool} : vOps P w₀ ops (⟨dst, .makeInterface t x, ty, pos, af, some (j, want)⟩ :: rest) s h K = vgQ P w₀ ops rest s h K dst want (pop P w₀ h s (.makeInterface t x)) (nthDst ops j) :=
  vg_of rfl (by
    simp only [pop, ev_keep (looks_of (o := ⟨dst, .makeInterface t x, ty, pos, af, some (j, want)⟩) (x := x) (by simp [Op.operands]))])
theorem vp_len (a : List Operand) (t : Array TypeId) : vOps P w₀ ops (⟨dst, .call ⟨.builtin .len, a.toArray, t⟩, ty, pos, af, none⟩ :: rest) s h K = ((pop P w₀ h s (.call ⟨.builtin .len, a.toArray, t⟩)).pre ∧ vOps P w₀ ops rest (putD s dst (pop P w₀ h s (.call ⟨.builtin .len, a.toArray, t⟩)).val) h K) :=
  vp_of rfl (by
    simp only [pop]
    rw [evs_keep fun x hx => looks_of (o := ⟨dst, .call ⟨.builtin .len, a.toArray, t⟩, ty, pos, af, none⟩) (by simp [Op.operands, Call.operands, hx])])
theorem vg_len (a : List Operand) (t : Array TypeId) {j : Nat} {want : Bool} : vOps P w₀ ops (⟨dst, .call ⟨.builtin .len, a.toArray, t⟩, ty, pos, af, some (j, want)⟩ :: rest) s h K = vgQ P w₀ ops rest s h K dst want (pop P w₀ h s (.call ⟨.builtin .len, a.toArray, t⟩)) (nthDst ops j) :=
  vg_of rfl (by
    simp only [pop]
    rw [evs_keep fun x hx => looks_of (o := ⟨dst, .call ⟨.builtin .len, a.toArray, t⟩, ty, pos, af, some (j, want)⟩) (by simp [Op.operands, Call.operands, hx])])
theorem vp_cap (a : List Operand) (t : Array TypeId) : vOps P w₀ ops (⟨dst, .call ⟨.builtin .cap, a.toArray, t⟩, ty, pos, af, none⟩ :: rest) s h K = ((pop P w₀ h s (.call ⟨.builtin .cap, a.toArray, t⟩)).pre ∧ vOps P w₀ ops rest (putD s dst (pop P w₀ h s (.call ⟨.builtin .cap, a.toArray, t⟩)).val) h K) :=
  vp_of rfl (by
    simp only [pop]
    rw [evs_keep fun x hx => looks_of (o := ⟨dst, .call ⟨.builtin .cap, a.toArray, t⟩, ty, pos, af, none⟩) (by simp [Op.operands, Call.operands, hx])])
theorem vg_cap (a : List Operand) (t : Array TypeId) {j : Nat} {want : Bool} : vOps P w₀ ops (⟨dst, .call ⟨.builtin .cap, a.toArray, t⟩, ty, pos, af, some (j, want)⟩ :: rest) s h K = vgQ P w₀ ops rest s h K dst want (pop P w₀ h s (.call ⟨.builtin .cap, a.toArray, t⟩)) (nthDst ops j) :=
  vg_of rfl (by
    simp only [pop]
    rw [evs_keep fun x hx => looks_of (o := ⟨dst, .call ⟨.builtin .cap, a.toArray, t⟩, ty, pos, af, some (j, want)⟩) (by simp [Op.operands, Call.operands, hx])])
theorem vp_max (a : List Operand) (t : Array TypeId) : vOps P w₀ ops (⟨dst, .call ⟨.builtin .max, a.toArray, t⟩, ty, pos, af, none⟩ :: rest) s h K = ((pop P w₀ h s (.call ⟨.builtin .max, a.toArray, t⟩)).pre ∧ vOps P w₀ ops rest (putD s dst (pop P w₀ h s (.call ⟨.builtin .max, a.toArray, t⟩)).val) h K) :=
  vp_of rfl (by
    simp only [pop]
    rw [evs_keep fun x hx => looks_of (o := ⟨dst, .call ⟨.builtin .max, a.toArray, t⟩, ty, pos, af, none⟩) (by simp [Op.operands, Call.operands, hx])])
theorem vg_max (a : List Operand) (t : Array TypeId) {j : Nat} {want : Bool} : vOps P w₀ ops (⟨dst, .call ⟨.builtin .max, a.toArray, t⟩, ty, pos, af, some (j, want)⟩ :: rest) s h K = vgQ P w₀ ops rest s h K dst want (pop P w₀ h s (.call ⟨.builtin .max, a.toArray, t⟩)) (nthDst ops j) :=
  vg_of rfl (by
    simp only [pop]
    rw [evs_keep fun x hx => looks_of (o := ⟨dst, .call ⟨.builtin .max, a.toArray, t⟩, ty, pos, af, some (j, want)⟩) (by simp [Op.operands, Call.operands, hx])])
theorem vp_min (a : List Operand) (t : Array TypeId) : vOps P w₀ ops (⟨dst, .call ⟨.builtin .min, a.toArray, t⟩, ty, pos, af, none⟩ :: rest) s h K = ((pop P w₀ h s (.call ⟨.builtin .min, a.toArray, t⟩)).pre ∧ vOps P w₀ ops rest (putD s dst (pop P w₀ h s (.call ⟨.builtin .min, a.toArray, t⟩)).val) h K) :=
  vp_of rfl (by
    simp only [pop]
    rw [evs_keep fun x hx => looks_of (o := ⟨dst, .call ⟨.builtin .min, a.toArray, t⟩, ty, pos, af, none⟩) (by simp [Op.operands, Call.operands, hx])])
theorem vg_min (a : List Operand) (t : Array TypeId) {j : Nat} {want : Bool} : vOps P w₀ ops (⟨dst, .call ⟨.builtin .min, a.toArray, t⟩, ty, pos, af, some (j, want)⟩ :: rest) s h K = vgQ P w₀ ops rest s h K dst want (pop P w₀ h s (.call ⟨.builtin .min, a.toArray, t⟩)) (nthDst ops j) :=
  vg_of rfl (by
    simp only [pop]
    rw [evs_keep fun x hx => looks_of (o := ⟨dst, .call ⟨.builtin .min, a.toArray, t⟩, ty, pos, af, some (j, want)⟩) (by simp [Op.operands, Call.operands, hx])])

theorem evO_keep {s : Slots} {L : List Nat} {x : Option Operand} (h : ∀ y, x = some y → ∀ t, y = .tmp t → t ∈ L) : evO (s.keep L) x = evO s x := by
  cases x with
  | none => rfl
  | some y => simp only [evO, ev_keep (h y rfl)]
theorem evP_keep {s : Slots} {L : List Nat} : ∀ {xs : List (Nat × Operand)}, (∀ p ∈ xs, ∀ t, p.2 = .tmp t → t ∈ L) → evP (s.keep L) xs = evP s xs
  | [], _ => rfl
  | p :: xs, h => by
    have := evP_keep (s := s) (L := L) (xs := xs) fun q hq => h q (List.mem_cons_of_mem _ hq)
    simp only [evP, List.map_cons] at this ⊢
    rw [ev_keep (h p List.mem_cons_self), this]
theorem vp_convert (t u : TypeId) (x : Operand) (hs : (!eStrBytes P t u && !eSame P t u) = true) : vOps P w₀ ops (⟨dst, .convert t u x, ty, pos, af, none⟩ :: rest) s h K = ((pop P w₀ h s (.convert t u x)).pre ∧ vOps P w₀ ops rest (putD s dst (pop P w₀ h s (.convert t u x)).val) h K) :=
  vp_of (pu_convert t u x hs) (by simp only [pop, ev_keep (looks_of (o := ⟨dst, .convert t u x, ty, pos, af, none⟩) (x := x) (by simp [Op.operands]))])
theorem vp_slice (t : TypeId) (x : Operand) (a b c : Option Operand) : vOps P w₀ ops (⟨dst, .slice t x a b c, ty, pos, af, none⟩ :: rest) s h K = ((pop P w₀ h s (.slice t x a b c)).pre ∧ vOps P w₀ ops rest (putD s dst (pop P w₀ h s (.slice t x a b c)).val) h K) :=
  vp_of (rfl) (by simp only [pop, ev_keep (looks_of (o := ⟨dst, .slice t x a b c, ty, pos, af, none⟩) (x := x) (by simp [Op.operands])), evO_keep (x := a) fun y hy => looks_of (o := ⟨dst, .slice t x a b c, ty, pos, af, none⟩) (x := y) (by simp [Op.operands, hy]), evO_keep (x := b) fun y hy => looks_of (o := ⟨dst, .slice t x a b c, ty, pos, af, none⟩) (x := y) (by simp [Op.operands, hy]), evO_keep (x := c) fun y hy => looks_of (o := ⟨dst, .slice t x a b c, ty, pos, af, none⟩) (x := y) (by simp [Op.operands, hy])])
theorem vp_build (t : TypeId) (ps : List (Nat × Operand)) : vOps P w₀ ops (⟨dst, .build t ps.toArray, ty, pos, af, none⟩ :: rest) s h K = ((pop P w₀ h s (.build t ps.toArray)).pre ∧ vOps P w₀ ops rest (putD s dst (pop P w₀ h s (.build t ps.toArray)).val) h K) :=
  vp_of (rfl) (by simp only [pop, evP_keep (xs := ps) fun p hp => looks_of (o := ⟨dst, .build t ps.toArray, ty, pos, af, none⟩) (x := p.2) (by simp only [Op.operands, List.mem_map]; exact ⟨p, hp, rfl⟩)])
theorem vg_convert (t u : TypeId) (x : Operand) (hs : (!eStrBytes P t u && !eSame P t u) = true) {j : Nat} {want : Bool} : vOps P w₀ ops (⟨dst, .convert t u x, ty, pos, af, some (j, want)⟩ :: rest) s h K = vgQ P w₀ ops rest s h K dst want (pop P w₀ h s (.convert t u x)) (nthDst ops j) :=
  vg_of (pu_convert t u x hs) (by simp only [pop, ev_keep (looks_of (o := ⟨dst, .convert t u x, ty, pos, af, some (j, want)⟩) (x := x) (by simp [Op.operands]))])
theorem vg_slice (t : TypeId) (x : Operand) (a b c : Option Operand) {j : Nat} {want : Bool} : vOps P w₀ ops (⟨dst, .slice t x a b c, ty, pos, af, some (j, want)⟩ :: rest) s h K = vgQ P w₀ ops rest s h K dst want (pop P w₀ h s (.slice t x a b c)) (nthDst ops j) :=
  vg_of (rfl) (by simp only [pop, ev_keep (looks_of (o := ⟨dst, .slice t x a b c, ty, pos, af, some (j, want)⟩) (x := x) (by simp [Op.operands])), evO_keep (x := a) fun y hy => looks_of (o := ⟨dst, .slice t x a b c, ty, pos, af, some (j, want)⟩) (x := y) (by simp [Op.operands, hy]), evO_keep (x := b) fun y hy => looks_of (o := ⟨dst, .slice t x a b c, ty, pos, af, some (j, want)⟩) (x := y) (by simp [Op.operands, hy]), evO_keep (x := c) fun y hy => looks_of (o := ⟨dst, .slice t x a b c, ty, pos, af, some (j, want)⟩) (x := y) (by simp [Op.operands, hy])])
theorem vg_build (t : TypeId) (ps : List (Nat × Operand)) {j : Nat} {want : Bool} : vOps P w₀ ops (⟨dst, .build t ps.toArray, ty, pos, af, some (j, want)⟩ :: rest) s h K = vgQ P w₀ ops rest s h K dst want (pop P w₀ h s (.build t ps.toArray)) (nthDst ops j) :=
  vg_of (rfl) (by simp only [pop, evP_keep (xs := ps) fun p hp => looks_of (o := ⟨dst, .build t ps.toArray, ty, pos, af, some (j, want)⟩) (x := p.2) (by simp only [Op.operands, List.mem_map]; exact ⟨p, hp, rfl⟩)])

/-- A call whose answer is one value and that leaves the heap. -/
theorem vOps_callV {fo : Operand} {args : List Operand} {ts : Array TypeId} {f : FuncId} {cap xs : List AVal} {V : AVal} (hf : ev s fo = .func f cap) (hx : evs s args ++ cap = xs) (hc : ACall P w₀ f xs h (fun x h' => x = V ∧ h' = h))
    (hk : vOps P w₀ ops rest (putD s dst V) h K) : vOps P w₀ ops (⟨dst, .call ⟨.value fo, args.toArray, ts⟩, ty, pos, af, none⟩ :: rest) s h K := by
  simp only [vOps]
  refine ⟨V, ?_, hk⟩
  have e1 : ev (s.keep (looksL ops ⟨dst, .call ⟨.value fo, args.toArray, ts⟩, ty, pos, af, none⟩)) fo = .func f cap := by
    rw [ev_keep (looks_of (by simp [Op.operands, Call.operands]))]; exact hf
  have e2 : evs (s.keep (looksL ops ⟨dst, .call ⟨.value fo, args.toArray, ts⟩, ty, pos, af, none⟩)) args = evs s args :=
    evs_keep fun x hx => looks_of (by simp [Op.operands, Call.operands, hx])
  simp only [eop, e1, e2, hx]
  exact hc
theorem vOps_gcall {fo : Operand} {args : List Operand} {ts : Array TypeId} {j : Nat} {want : Bool} {f : FuncId} {cap xs : List AVal} {V : AVal} (hk : gKnown (gv s ops j) = true)
    (hf : guardB (gv s ops j) want = true → ev s fo = .func f cap ∧ evs s args ++ cap = xs) (hc : guardB (gv s ops j) want = true → ACall P w₀ f xs h (fun x h' => x = V ∧ h' = h))
    (hr : vOps P w₀ ops rest (putD s dst (condV (guardB (gv s ops j) want) V)) h K) :
    vOps P w₀ ops (⟨dst, .call ⟨.value fo, args.toArray, ts⟩, ty, pos, af, some (j, want)⟩ :: rest) s h K := by
  unfold gv at hk hf hc hr
  simp only [vOps]
  cases hj : nthDst ops j with
  | none => rw [hj] at hk; cases hk
  | some d =>
    simp only [hj] at hk hf hc hr ⊢
    refine ⟨hk, V, fun hg => ?_, hr⟩
    have e1 : ev (s.keep (looksL ops ⟨dst, .call ⟨.value fo, args.toArray, ts⟩, ty, pos, af, some (j, want)⟩)) fo = .func f cap := by
      rw [ev_keep (looks_of (by simp [Op.operands, Call.operands]))]; exact (hf hg).1
    have e2 : evs (s.keep (looksL ops ⟨dst, .call ⟨.value fo, args.toArray, ts⟩, ty, pos, af, some (j, want)⟩)) args = evs s args :=
      evs_keep fun x hx => looks_of (by simp [Op.operands, Call.operands, hx])
    simp only [eop, e1, e2, (hf hg).2]
    exact hc hg
end
end Go.AM
