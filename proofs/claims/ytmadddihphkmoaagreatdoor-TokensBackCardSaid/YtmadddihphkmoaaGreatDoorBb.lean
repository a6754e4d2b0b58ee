/-
  Texts of this proof, joined: AmQ, AmR, AmS, AmT, AmU, AmV, AmW, AmX, CoA, TkA, TkC, TkD, TkE, BmA, AmY, AmZ, Ty, TkB.
  Conditions: none.
-/
import Derived.Test.YtmadddihphkmoaaGreatDoorBa
import Derived.StillTail
import Derived.Lib.UnsafeStr
import Derived.Lib.Builder
import Derived.Laws.Externs
import Derived.Lib.ItoaNum
import Derived.Scope
import Derived.Test.YtmadddihphkmoaaGreatDoorRows
import Derived.KernelRfl
set_option linter.unusedSimpArgs false
set_option linter.unnecessarySimpa false
set_option linter.unusedVariables false
/-
  An assertion layer over the model's wp, part Q: statements of open order, as a walk rewrites them.
  Conditions: none. Nothing here is about a particular program.
-/
namespace Go.AM

theorem ev_keep {s : Slots} {L : List Nat} {x : Operand} (h : ∀ t, x = .tmp t → t ∈ L) : ev (s.keep L) x = ev s x := by
  cases x with
  | tmp t =>
    simp only [ev, Slots.get_keep]
    rw [if_pos (by simpa using h t rfl)]
  | _ => rfl
theorem Xz {ops : List Oper} {o : Oper} {x : Operand} (h : x ∈ o.op.operands.toList) : ∀ t, x = .tmp t → t ∈ QS ops o := by
  rintro t rfl
  unfold QS opTmps
  rw [List.mem_append]
  exact .inl (List.mem_filterMap.2 ⟨_, h, rfl⟩)
theorem evs_keep {s : Slots} {L : List Nat} : ∀ {xs : List Operand}, (∀ x ∈ xs, ∀ t, x = .tmp t → t ∈ L) → evs (s.keep L) xs = evs s xs
  | [], _ => rfl
  | x :: xs, h => by
    have := evs_keep (s := s) (L := L) (xs := xs) fun y hy => h y (List.mem_cons_of_mem _ hy)
    simp only [evs, List.map_cons] at this ⊢
    rw [ev_keep (h x List.mem_cons_self), this]

section
variable {P : Program} {w₀ : World} {ops rest : List Oper} {s : Slots} {h : AHeap} {K : Slots → AHeap → Prop} {dst : Option Tmp} {ty : TypeId} {pos : String} {af : Array Edge}

theorem vOps_nil : vOps P w₀ ops [] s h K = K s h := rfl
theorem vp_of {op : Op} (hp : Zf P op = true) (hk : pop P w₀ h (s.keep (QS ops ⟨dst, op, ty, pos, af, none⟩)) op = pop P w₀ h s op) :
    vOps P w₀ ops (⟨dst, op, ty, pos, af, none⟩ :: rest) s h K = ((pop P w₀ h s op).pre ∧ vOps P w₀ ops rest (putD s dst (pop P w₀ h s op).val) h K) := by
  simp only [vOps]
  refine propext ⟨fun ⟨V, h1, h2⟩ => ?_, fun ⟨h1, h2⟩ => ⟨_, (eop_pure hp).2 ⟨by rw [hk]; exact h1, by rw [hk], rfl⟩, h2⟩⟩
  obtain ⟨g1, g2, _⟩ := (eop_pure hp).1 h1
  rw [hk] at g1 g2
  subst g2
  exact ⟨g1, h2⟩
def vgP (P : Program) (w₀ : World) (ops rest : List Oper) (s : Slots) (h : AHeap) (K : Slots → AHeap → Prop) (dst : Option Tmp) (g : AVal) (want : Bool) (r : PR) : Prop :=
  gKnown g = true ∧ (Xg g want = true → r.pre) ∧ vOps P w₀ ops rest (putD s dst (Qu (Xg g want) r.val)) h K
def vgQ (P : Program) (w₀ : World) (ops rest : List Oper) (s : Slots) (h : AHeap) (K : Slots → AHeap → Prop) (dst : Option Tmp) (want : Bool) (r : PR) : Option Tmp → Prop
  | none => vOps P w₀ ops rest (putD s dst (.tuple [])) h K
  | some d => vgP P w₀ ops rest s h K dst (s.get d) want r
theorem vgQ_some {want : Bool} {r : PR} {d : Tmp} : vgQ P w₀ ops rest s h K dst want r (some d) = vgP P w₀ ops rest s h K dst (s.get d) want r := rfl
theorem vg_of {op : Op} {j : Nat} {want : Bool} (hp : Zf P op = true) (hk : pop P w₀ h (s.keep (QS ops ⟨dst, op, ty, pos, af, some (j, want)⟩)) op = pop P w₀ h s op) :
    vOps P w₀ ops (⟨dst, op, ty, pos, af, some (j, want)⟩ :: rest) s h K = vgQ P w₀ ops rest s h K dst want (pop P w₀ h s op) (qI ops j) := by
  simp only [vOps]
  cases qI ops j with
  | none => rfl
  | some d =>
    simp only [vgQ, vgP]
    refine propext ⟨fun ⟨h0, V, h1, h2⟩ => ?_, fun ⟨h0, h1, h2⟩ => ⟨h0, _, fun hg => (eop_pure hp).2 ⟨by rw [hk]; exact h1 hg, by rw [hk], rfl⟩, h2⟩⟩
    cases hg : Xg (s.get d) want with
    | false =>
      rw [hg] at h2
      exact ⟨h0, fun e => (by cases e), h2⟩
    | true =>
      obtain ⟨g1, g2, _⟩ := (eop_pure hp).1 (h1 hg)
      rw [hk] at g1 g2
      subst g2
      rw [hg] at h2
      exact ⟨h0, fun _ => g1, h2⟩
theorem vp_move (x : Operand) : vOps P w₀ ops (⟨dst, .move x, ty, pos, af, none⟩ :: rest) s h K = ((pop P w₀ h s (.move x)).pre ∧ vOps P w₀ ops rest (putD s dst (pop P w₀ h s (.move x)).val) h K) :=
  vp_of rfl (by
    simp only [pop, ev_keep (Xz (o := ⟨dst, .move x, ty, pos, af, none⟩) (x := x) (by simp [Op.operands]))])
theorem vg_move (x : Operand) {j : Nat} {want : Bool} : vOps P w₀ ops (⟨dst, .move x, ty, pos, af, some (j, want)⟩ :: rest) s h K = vgQ P w₀ ops rest s h K dst want (pop P w₀ h s (.move x)) (qI ops j) :=
  vg_of rfl (by
    simp only [pop, ev_keep (Xz (o := ⟨dst, .move x, ty, pos, af, some (j, want)⟩) (x := x) (by simp [Op.operands]))])
theorem vp_assign (x : Operand) : vOps P w₀ ops (⟨dst, .assign x, ty, pos, af, none⟩ :: rest) s h K = ((pop P w₀ h s (.assign x)).pre ∧ vOps P w₀ ops rest (putD s dst (pop P w₀ h s (.assign x)).val) h K) :=
  vp_of rfl (by
    simp only [pop, ev_keep (Xz (o := ⟨dst, .assign x, ty, pos, af, none⟩) (x := x) (by simp [Op.operands]))])
theorem vp_pick (c a b : Operand) : vOps P w₀ ops (⟨dst, .pick c a b, ty, pos, af, none⟩ :: rest) s h K = ((pop P w₀ h s (.pick c a b)).pre ∧ vOps P w₀ ops rest (putD s dst (pop P w₀ h s (.pick c a b)).val) h K) :=
  vp_of rfl (by
    simp only [pop, ev_keep (Xz (o := ⟨dst, .pick c a b, ty, pos, af, none⟩) (x := c) (by simp [Op.operands])), ev_keep (Xz (o := ⟨dst, .pick c a b, ty, pos, af, none⟩) (x := a) (by simp [Op.operands])), ev_keep (Xz (o := ⟨dst, .pick c a b, ty, pos, af, none⟩) (x := b) (by simp [Op.operands]))])
theorem vp_binOp (o : BinOp) (t : TypeId) (x y : Operand) (u : TypeId) : vOps P w₀ ops (⟨dst, .binOp o t x y u, ty, pos, af, none⟩ :: rest) s h K = ((pop P w₀ h s (.binOp o t x y u)).pre ∧ vOps P w₀ ops rest (putD s dst (pop P w₀ h s (.binOp o t x y u)).val) h K) :=
  vp_of rfl (by
    simp only [pop, ev_keep (Xz (o := ⟨dst, .binOp o t x y u, ty, pos, af, none⟩) (x := x) (by simp [Op.operands])), ev_keep (Xz (o := ⟨dst, .binOp o t x y u, ty, pos, af, none⟩) (x := y) (by simp [Op.operands]))])
theorem vg_unOp (o : UnOp) (t : TypeId) (x : Operand) {j : Nat} {want : Bool} : vOps P w₀ ops (⟨dst, .unOp o t x, ty, pos, af, some (j, want)⟩ :: rest) s h K = vgQ P w₀ ops rest s h K dst want (pop P w₀ h s (.unOp o t x)) (qI ops j) :=
  vg_of rfl (by
    simp only [pop, ev_keep (Xz (o := ⟨dst, .unOp o t x, ty, pos, af, some (j, want)⟩) (x := x) (by simp [Op.operands]))])
theorem vp_load (t : TypeId) (x : Operand) : vOps P w₀ ops (⟨dst, .load t x, ty, pos, af, none⟩ :: rest) s h K = ((pop P w₀ h s (.load t x)).pre ∧ vOps P w₀ ops rest (putD s dst (pop P w₀ h s (.load t x)).val) h K) :=
  vp_of rfl (by
    simp only [pop, ev_keep (Xz (o := ⟨dst, .load t x, ty, pos, af, none⟩) (x := x) (by simp [Op.operands]))])
theorem vg_load (t : TypeId) (x : Operand) {j : Nat} {want : Bool} : vOps P w₀ ops (⟨dst, .load t x, ty, pos, af, some (j, want)⟩ :: rest) s h K = vgQ P w₀ ops rest s h K dst want (pop P w₀ h s (.load t x)) (qI ops j) :=
  vg_of rfl (by
    simp only [pop, ev_keep (Xz (o := ⟨dst, .load t x, ty, pos, af, some (j, want)⟩) (x := x) (by simp [Op.operands]))])
theorem vp_fieldAddr (t : TypeId) (x : Operand) (f : Nat) : vOps P w₀ ops (⟨dst, .fieldAddr t x f, ty, pos, af, none⟩ :: rest) s h K = ((pop P w₀ h s (.fieldAddr t x f)).pre ∧ vOps P w₀ ops rest (putD s dst (pop P w₀ h s (.fieldAddr t x f)).val) h K) :=
  vp_of rfl (by
    simp only [pop, ev_keep (Xz (o := ⟨dst, .fieldAddr t x f, ty, pos, af, none⟩) (x := x) (by simp [Op.operands]))])
theorem vg_fieldAddr (t : TypeId) (x : Operand) (f : Nat) {j : Nat} {want : Bool} : vOps P w₀ ops (⟨dst, .fieldAddr t x f, ty, pos, af, some (j, want)⟩ :: rest) s h K = vgQ P w₀ ops rest s h K dst want (pop P w₀ h s (.fieldAddr t x f)) (qI ops j) :=
  vg_of rfl (by
    simp only [pop, ev_keep (Xz (o := ⟨dst, .fieldAddr t x f, ty, pos, af, some (j, want)⟩) (x := x) (by simp [Op.operands]))])
theorem vp_nilCheck (x : Operand) : vOps P w₀ ops (⟨dst, .nilCheck x, ty, pos, af, none⟩ :: rest) s h K = ((pop P w₀ h s (.nilCheck x)).pre ∧ vOps P w₀ ops rest (putD s dst (pop P w₀ h s (.nilCheck x)).val) h K) :=
  vp_of rfl (by
    simp only [pop, ev_keep (Xz (o := ⟨dst, .nilCheck x, ty, pos, af, none⟩) (x := x) (by simp [Op.operands]))])
theorem vg_nilCheck (x : Operand) {j : Nat} {want : Bool} : vOps P w₀ ops (⟨dst, .nilCheck x, ty, pos, af, some (j, want)⟩ :: rest) s h K = vgQ P w₀ ops rest s h K dst want (pop P w₀ h s (.nilCheck x)) (qI ops j) :=
  vg_of rfl (by
    simp only [pop, ev_keep (Xz (o := ⟨dst, .nilCheck x, ty, pos, af, some (j, want)⟩) (x := x) (by simp [Op.operands]))])
theorem vp_len (a : List Operand) (t : Array TypeId) : vOps P w₀ ops (⟨dst, .call ⟨.builtin .len, a.toArray, t⟩, ty, pos, af, none⟩ :: rest) s h K = ((pop P w₀ h s (.call ⟨.builtin .len, a.toArray, t⟩)).pre ∧ vOps P w₀ ops rest (putD s dst (pop P w₀ h s (.call ⟨.builtin .len, a.toArray, t⟩)).val) h K) :=
  vp_of rfl (by
    simp only [pop]
    rw [evs_keep fun x hx => Xz (o := ⟨dst, .call ⟨.builtin .len, a.toArray, t⟩, ty, pos, af, none⟩) (by simp [Op.operands, Call.operands, hx])])
theorem evO_keep {s : Slots} {L : List Nat} {x : Option Operand} (h : ∀ y, x = some y → ∀ t, y = .tmp t → t ∈ L) : evO (s.keep L) x = evO s x := by
  cases x with
  | none => rfl
  | some y => simp only [evO, ev_keep (h y rfl)]
theorem vp_slice (t : TypeId) (x : Operand) (a b c : Option Operand) : vOps P w₀ ops (⟨dst, .slice t x a b c, ty, pos, af, none⟩ :: rest) s h K = ((pop P w₀ h s (.slice t x a b c)).pre ∧ vOps P w₀ ops rest (putD s dst (pop P w₀ h s (.slice t x a b c)).val) h K) :=
  vp_of (rfl) (by simp only [pop, ev_keep (Xz (o := ⟨dst, .slice t x a b c, ty, pos, af, none⟩) (x := x) (by simp [Op.operands])), evO_keep (x := a) fun y hy => Xz (o := ⟨dst, .slice t x a b c, ty, pos, af, none⟩) (x := y) (by simp [Op.operands, hy]), evO_keep (x := b) fun y hy => Xz (o := ⟨dst, .slice t x a b c, ty, pos, af, none⟩) (x := y) (by simp [Op.operands, hy]), evO_keep (x := c) fun y hy => Xz (o := ⟨dst, .slice t x a b c, ty, pos, af, none⟩) (x := y) (by simp [Op.operands, hy])])
theorem vg_slice (t : TypeId) (x : Operand) (a b c : Option Operand) {j : Nat} {want : Bool} : vOps P w₀ ops (⟨dst, .slice t x a b c, ty, pos, af, some (j, want)⟩ :: rest) s h K = vgQ P w₀ ops rest s h K dst want (pop P w₀ h s (.slice t x a b c)) (qI ops j) :=
  vg_of (rfl) (by simp only [pop, ev_keep (Xz (o := ⟨dst, .slice t x a b c, ty, pos, af, some (j, want)⟩) (x := x) (by simp [Op.operands])), evO_keep (x := a) fun y hy => Xz (o := ⟨dst, .slice t x a b c, ty, pos, af, some (j, want)⟩) (x := y) (by simp [Op.operands, hy]), evO_keep (x := b) fun y hy => Xz (o := ⟨dst, .slice t x a b c, ty, pos, af, some (j, want)⟩) (x := y) (by simp [Op.operands, hy]), evO_keep (x := c) fun y hy => Xz (o := ⟨dst, .slice t x a b c, ty, pos, af, some (j, want)⟩) (x := y) (by simp [Op.operands, hy])])
/-- A call whose answer is one value and that leaves the heap. -/
theorem vOps_callV {fo : Operand} {args : List Operand} {ts : Array TypeId} {f : FuncId} {cap xs : List AVal} {V : AVal} (hf : ev s fo = .func f cap) (hx : evs s args ++ cap = xs) (hc : ACall P w₀ f xs h (fun x h' => x = V ∧ h' = h))
    (hk : vOps P w₀ ops rest (putD s dst V) h K) : vOps P w₀ ops (⟨dst, .call ⟨.value fo, args.toArray, ts⟩, ty, pos, af, none⟩ :: rest) s h K := by
  simp only [vOps]
  refine ⟨V, ?_, hk⟩
  have e1 : ev (s.keep (QS ops ⟨dst, .call ⟨.value fo, args.toArray, ts⟩, ty, pos, af, none⟩)) fo = .func f cap := by
    rw [ev_keep (Xz (by simp [Op.operands, Call.operands]))]; exact hf
  have e2 : evs (s.keep (QS ops ⟨dst, .call ⟨.value fo, args.toArray, ts⟩, ty, pos, af, none⟩)) args = evs s args :=
    evs_keep fun x hx => Xz (by simp [Op.operands, Call.operands, hx])
  simp only [eop, e1, e2, hx]
  exact hc
theorem vOps_gcall {fo : Operand} {args : List Operand} {ts : Array TypeId} {j : Nat} {want : Bool} {f : FuncId} {cap xs : List AVal} {V : AVal} (hk : gKnown (gv s ops j) = true)
    (hf : Xg (gv s ops j) want = true → ev s fo = .func f cap ∧ evs s args ++ cap = xs) (hc : Xg (gv s ops j) want = true → ACall P w₀ f xs h (fun x h' => x = V ∧ h' = h))
    (hr : vOps P w₀ ops rest (putD s dst (Qu (Xg (gv s ops j) want) V)) h K) :
    vOps P w₀ ops (⟨dst, .call ⟨.value fo, args.toArray, ts⟩, ty, pos, af, some (j, want)⟩ :: rest) s h K := by
  unfold gv at hk hf hc hr
  simp only [vOps]
  cases hj : qI ops j with
  | none => rw [hj] at hk; cases hk
  | some d =>
    simp only [hj] at hk hf hc hr ⊢
    refine ⟨hk, V, fun hg => ?_, hr⟩
    have e1 : ev (s.keep (QS ops ⟨dst, .call ⟨.value fo, args.toArray, ts⟩, ty, pos, af, some (j, want)⟩)) fo = .func f cap := by
      rw [ev_keep (Xz (by simp [Op.operands, Call.operands]))]; exact (hf hg).1
    have e2 : evs (s.keep (QS ops ⟨dst, .call ⟨.value fo, args.toArray, ts⟩, ty, pos, af, some (j, want)⟩)) args = evs s args :=
      evs_keep fun x hx => Xz (by simp [Op.operands, Call.operands, hx])
    simp only [eop, e1, e2, (hf hg).2]
    exact hc hg
end
end Go.AM

/-
  An assertion layer over the model's wp, part R: statements of open order that end in operations that write.
  Conditions: none. Nothing here is about a particular program.
-/
namespace Go.AM
open Go.RowKit (Below)

section
variable {P : Program} {w₀ : World} {n : Nat} {h : AHeap}

theorem vOps_stepsT {l : List Oper} (tl : List Oper) (hall : Xt n l = true) {s : Slots} {K : Slots → AHeap → Prop} : ∀ (rest pre : List Oper) (A : List AVal), l = pre ++ rest ++ tl → A.length = pre.length → vOps P w₀ l rest (Qv s l A pre.length) h K →
    ∃ B : List AVal, B.length = rest.length ∧ (∀ i o, pre.length ≤ i → i < pre.length + rest.length → l[i]? = some o → StepOk P w₀ n h l o (Qv s l (A ++ B) i) ((A ++ B).getD i .dead)) ∧ K (Qv s l (A ++ B) (pre.length + rest.length)) h
  | [], pre, A, hl, hA, hv => ⟨[], rfl, fun i o hi hi' ho => by
      simp only [List.length_nil] at hi'
      omega, by
      rw [List.append_nil]; exact hv⟩
  | o :: rest, pre, A, hl, hA, hv => by
    have hat : l[pre.length]? = some o := by rw [hl]; simp
    have go : ∀ V, StepOk P w₀ n h l o (Qv s l A pre.length) V → vOps P w₀ l rest (putD (Qv s l A pre.length) o.dst V) h K →
        ∃ B : List AVal, B.length = (o :: rest).length ∧ (∀ i o, pre.length ≤ i → i < pre.length + (rest.length + 1) → l[i]? = some o → StepOk P w₀ n h l o (Qv s l (A ++ B) i) ((A ++ B).getD i .dead)) ∧ K (Qv s l (A ++ B) (pre.length + (rest.length + 1))) h := by
      intro V hst hv'
      have e : Qv s l (A ++ [V]) (pre ++ [o]).length = putD (Qv s l A pre.length) o.dst V := by
        rw [List.length_append, List.length_singleton, Qv, hat]
        simp only
        rw [slotsAt_take s l A [V] _ (by omega)]
        congr 1
        simp [List.getD, ← hA]
      obtain ⟨B, h1, h2, h3⟩ := vOps_stepsT tl hall rest (pre ++ [o]) (A ++ [V]) (by simp [hl]) (by simp [hA]) (by rw [e]; exact hv')
      refine ⟨V :: B, by simp [h1], fun i o' hi hi' ho' => ?_, by simpa [Nat.add_assoc, Nat.add_comm 1] using h3⟩
      rcases Nat.eq_or_lt_of_le hi with e' | e'
      · subst e'
        rw [hat] at ho'
        obtain rfl := Option.some.inj ho'
        rw [slotsAt_take s l A (V :: B) _ (by omega)]
        have : (A ++ V :: B).getD pre.length .dead = V := by simp [List.getD, ← hA]
        rw [this]
        exact hst
      · have := h2 i o' (by simp; omega) (by simp at hi' ⊢; omega) ho'
        simpa using this
    simp only [vOps] at hv
    cases hg : o.guard with
    | none =>
      simp only [hg] at hv
      obtain ⟨V, h1, h2⟩ := hv
      exact go V (.plain hg h1) h2
    | some gw =>
      obtain ⟨j, want⟩ := gw
      simp only [hg] at hv
      cases hj : qI l j with
      | none =>
        simp only [hj] at hv
        exact go _ (.never hg hj) hv
      | some d =>
        simp only [hj] at hv
        obtain ⟨hk, V, h1, h2⟩ := hv
        exact go _ (.guarded hall hg hj hk h1) h2


/-- The order of a statement's first k operations leaves each what it looks at. -/
def orderBk (l : List Oper) (k : Nat) : Bool :=
  (List.range k).all fun i => match l[i]? with
    | none => true
    | some oi => (oi.after.all fun e => !Region.binds .any e || decide (e.on < i)) &&
      (List.range k).all fun j => match l[j]? with
        | none => true
        | some oj => (match oj.dst with
            | none => true
            | some t => (decide (i = j) || decide (oi.dst ≠ some t)) &&
                (!(QS l oi).contains t || (decide (j < i) && Region.waitsFor .any l.toArray i j) || (decide (i < j) && Region.waitsFor .any l.toArray j i)))

theorem orderBk_spec {l : List Oper} {k : Nat} (hB : orderBk l k = true) {i : Nat} {oi : Oper} (hik : i < k) (hi : l[i]? = some oi) :
    (∀ e ∈ oi.after, Region.binds .any e = true → e.on < i) ∧ ∀ j oj t, j < k → l[j]? = some oj → oj.dst = some t → (oi.dst = some t → i = j) ∧
      (t ∈ QS l oi → (j < i ∧ Region.waitsFor .any l.toArray i j = true) ∨ (i < j ∧ Region.waitsFor .any l.toArray j i = true)) := by
  unfold orderBk at hB
  rw [List.all_eq_true] at hB
  have h1 := hB i (by rw [List.mem_range]; exact hik)
  simp only [hi, Bool.and_eq_true] at h1
  obtain ⟨ha, hb⟩ := h1
  refine ⟨fun e he hbd => ?_, fun j oj t hjk hj hd => ?_⟩
  · rw [Array.all_eq_true'] at ha
    have := ha e he
    simpa [hbd] using this
  · rw [List.all_eq_true] at hb
    have h2 := hb j (by rw [List.mem_range]; exact hjk)
    simp only [hj, hd, Bool.and_eq_true, Bool.or_eq_true, decide_eq_true_eq, Bool.not_eq_true', List.contains_eq_mem] at h2
    refine ⟨fun he => ?_, fun ht => ?_⟩
    · rcases h2.1 with e | e
      · exact e
      · exact absurd he e
    · rcases h2.2 with (e | e) | e
      · exact absurd ht (by simpa using e)
      · exact .inl e
      · exact .inr e

theorem slotsAt_writerK {l : List Oper} {k : Nat} (hB : orderBk l k = true) (hk : k ≤ l.length) (s : Slots) (Vs : List AVal) {j : Nat} {oj : Oper} {t : Nat} (hjk : j < k) (hj : l[j]? = some oj) (hd : oj.dst = some t) : ∀ i, j < i → i ≤ k → (Qv s l Vs i).get t = Vs.getD j .dead
  | 0, h, _ => by omega
  | i + 1, h, hi => by
    obtain ⟨o, ho⟩ : ∃ o, l[i]? = some o := ⟨_, List.getElem?_eq_getElem (show i < l.length by omega)⟩
    simp only [Qv, ho, put_get]
    by_cases e : o.dst = some t
    · have : i = j := (((orderBk_spec hB (by omega) ho).2 j oj t hjk hj hd).1 e)
      subst this
      rw [if_pos e]
    · rw [if_neg e]
      refine slotsAt_writerK hB hk s Vs hjk hj hd i ?_ (by omega)
      rcases Nat.eq_or_lt_of_le (Nat.le_of_lt_succ h) with e' | e'
      · subst e'
        rw [hj] at ho
        obtain rfl := Option.some.inj ho
        exact absurd hd e
      · exact e'

/-- The first k of m are listed. -/
def firstK (m k : Nat) : Array Bool := ((List.range m).map fun j => decide (j < k)).toArray

structure AnyInvK (l : List Oper) (k : Nat) (Vs : List AVal) (s : Slots) (ψ : PMap) (n : Nat) (listed : Array Bool) (a : Act) : Prop where
  head : HeadInv .any l.toArray k listed
  tsize : a.tmps.size = n
  defers : a.defers = []
  done : ∀ t j oj, j < k → l[j]? = some oj → oj.dst = some t → listed.getD j false = true → VR ψ (Vs.getD j .dead) (a.tmps.getD t undef)
  still : ∀ t, (∀ j oj, j < k → l[j]? = some oj → oj.dst = some t → listed.getD j false = false) → VR ψ (s.get t) (a.tmps.getD t undef)

theorem any_okK {l : List Oper} {k : Nat} (hk : k < l.length) (hall : Xt n l = true) (hB : orderBk l k = true) (hsink : Region.sinkB .any l.toArray k = true) (hchain : Region.chainB .any l.toArray k = true)
    (hseq : Region.seqB .any l.toArray (l.length - k) k (firstK l.length k) = true) {s : Slots} {Vs : List AVal} (hst : ∀ i o, i < k → l[i]? = some o → StepOk P w₀ n h l o (Qv s l Vs i) (Vs.getD i .dead)) {φ : PMap} {Q : Exit → Act → World → Prop}
    (hq : ∀ ψ a w, φ.le ψ → HRel w₀ ψ h w → SRel ψ n (Qv s l Vs k) a → wpList P l.toArray Q (l.drop k) a w) : ∀ (fuel : Nat) (listed : Array Bool) (a : Act) (w : World) (ψ : PMap), φ.le ψ → HRel w₀ ψ h w → AnyInvK l k Vs s ψ n listed a →
    (listed.toList.filter (!·)).length = fuel → wpAny P .any l.toArray Q fuel listed a w := by
  have hsize : k < l.toArray.size := by simpa using hk
  -- all of the head are listed
  have fin : ∀ (fuel : Nat) (listed : Array Bool) (a : Act) (w : World) (ψ : PMap), φ.le ψ → HRel w₀ ψ h w → AnyInvK l k Vs s ψ n listed a → (∀ j, j < k → listed.getD j false = true) → (listed.toList.filter (!·)).length = fuel → wpAny P .any l.toArray Q fuel listed a w := by
    intro fuel listed a w ψ hle hr inv hdone hc
    have hls : listed.size = l.length := by have := inv.head.size; simpa using this
    have hl : listed = firstK l.length k := by
      apply Array.ext
      · rw [hls]; simp [firstK]
      · intro i h1 h2
        have hi : i < l.length := by omega
        have e2 : (firstK l.length k)[i] = decide (i < k) := by simp [firstK]
        rw [e2]
        by_cases hik : i < k
        · have := hdone i hik
          simp [Array.getD, h1] at this
          simp [this, hik]
        · have := inv.head.tail i (by omega) (by simpa using hi)
          simp [Array.getD, h1] at this
          simp [this, hik]
    have hfuel : fuel = (l.drop k).length := by
      rw [← hc, hl]
      have : ∀ m k, k ≤ m → (((List.range m).map fun j => decide (j < k)).filter (!·)).length = m - k := by
        intro m k
        induction m with
        | zero => intro _; simp
        | succ m ih =>
          intro hkm
          rw [List.range_succ, List.map_append, List.filter_append, List.length_append]
          rcases Nat.lt_or_ge m k with c | c
          · have e1 : m + 1 = k := by omega
            have e2 : ((List.range m).map fun j => decide (j < k)).filter (!·) = [] := by
              rw [List.filter_eq_nil_iff]
              intro b hb
              simp only [List.mem_map, List.mem_range] at hb
              obtain ⟨j, hj, rfl⟩ := hb
              have : j < k := by omega
              simp [this]
            rw [e2]
            simp [c]
            omega
          · rw [ih c]
            have : ¬ m < k := by omega
            simp [this]
            omega
      simp only [firstK, List.length_drop]
      exact this l.length k (by omega)
    rw [hfuel, hl]
    refine wpAny_of_seq (l.drop k) k _ a w (fun j => by simp [List.getElem?_drop]) (by rw [List.length_drop]; exact hseq) ?_
    refine hq ψ a w hle hr ⟨inv.tsize, inv.defers, fun t => ?_⟩
    by_cases hw : ∃ (j : Nat) (oj : Oper), j < k ∧ l[j]? = some oj ∧ oj.dst = some t
    · obtain ⟨j, oj, hjk, hj, hd⟩ := hw
      rw [slotsAt_writerK hB (by omega) s Vs hjk hj hd k hjk (Nat.le_refl _)]
      exact inv.done t j oj hjk hj hd (hdone j hjk)
    · rw [slotsAt_none s Vs k fun j oj hjk hj hd => hw ⟨j, oj, hjk, hj, hd⟩]
      exact inv.still t fun j oj hjk hj hd => absurd ⟨j, oj, hjk, hj, hd⟩ hw
  intro fuel
  induction fuel with
  | zero =>
    intro listed a w ψ hle hr inv hc
    exfalso
    have hls : listed.size = l.length := by have := inv.head.size; simpa using this
    have h1 := inv.head.tail k (Nat.le_refl _) hsize
    have hkz : k < listed.size := by omega
    have h2 : listed.toList[k]? = some false := by
      simp [Array.getD, hkz] at h1
      simp [hkz, h1]
    have hmem : false ∈ listed.toList.filter (!·) := by simp [List.mem_filter, List.mem_of_getElem? h2]
    have := List.length_pos_of_mem hmem
    omega
  | succ fuel ih =>
    intro listed a w ψ hle hr inv hc
    have hls : listed.size = l.length := by have := inv.head.size; simpa using this
    by_cases hdone : ∀ j, j < k → listed.getD j false = true
    · exact fin _ listed a w ψ hle hr inv hdone hc
    · obtain ⟨u, hu, hul⟩ : ∃ u, u < k ∧ listed.getD u true = false := by
        refine Classical.byContradiction fun hne => hdone fun j hj => ?_
        have hjs : j < listed.size := by omega
        cases e : listed.getD j false with
        | true => rfl
        | false =>
          exfalso
          refine hne ⟨j, hj, ?_⟩
          simp [Array.getD, hjs] at e ⊢; exact e
      refine ⟨fun hrd => ?_, fun i hi => ?_⟩
      · exfalso
        -- the least that is not listed may come up
        have : ∀ i, i < k → listed.getD i false = true := by
          intro i
          induction i using Nat.strongRecOn with
          | ind i ihh =>
            intro hik
            cases hl : listed.getD i false with
            | true => rfl
            | false =>
              exfalso
              obtain ⟨o, ho⟩ : ∃ o, l[i]? = some o := ⟨_, List.getElem?_eq_getElem (by omega)⟩
              have : i ∈ Region.ready .any l.toArray listed := by
                rw [mem_ready]
                refine ⟨?_, o, by simpa using ho, fun e he hb => ?_⟩
                · have hi' : i < listed.size := by omega
                  simp [Array.getD, hi'] at hl ⊢; exact hl
                · have hlt := (orderBk_spec hB hik ho).1 e he hb
                  exact ihh e.on hlt (by omega)
              rw [hrd] at this
              cases this
        exact hdone this
      · have hik : i < k := by
          rcases Nat.lt_or_ge i k with c | c
          · exact c
          · exact absurd hi (tail_waits hsink hchain hsize inv.head _ u rfl hu hul i c)
        obtain ⟨h1, o, ho, hedges⟩ := mem_ready.1 hi
        have hol : l[i]? = some o := by simpa using ho
        have hisz : i < listed.size := by omega
        have hif : listed.getD i false = false := by simp [Array.getD, hisz] at h1 ⊢; exact h1
        have spec := orderBk_spec hB hik hol
        have hs : SRel ψ n ((Qv s l Vs i).keep (QS l o)) a := by
          refine ⟨inv.tsize, inv.defers, fun t => ?_⟩
          rw [Slots.get_keep]
          by_cases ht : (QS l o).contains t = true
          · rw [if_pos ht]
            have ht' : t ∈ QS l o := by simpa using ht
            by_cases hw : ∃ (j : Nat) (oj : Oper), j < k ∧ l[j]? = some oj ∧ oj.dst = some t
            · obtain ⟨j, oj, hjk, hj, hd⟩ := hw
              rcases (spec.2 j oj t hjk hj hd).2 ht' with ⟨c1, c2⟩ | ⟨c1, c2⟩
              · rw [slotsAt_writerK hB (by omega) s Vs hjk hj hd i c1 (by omega)]
                refine inv.done t j oj hjk hj hd ?_
                obtain ⟨oi, g1, e, g2, g3, g4⟩ := Region.waitsFor_spec c2
                rw [ho] at g1
                obtain rfl := Option.some.inj g1
                rw [← g4]
                exact hedges e g2 g3
              · rw [slotsAt_none s Vs i fun j' oj' hj'' hj' hd' => by
                  have := ((orderBk_spec hB (by omega) hj').2 j oj t hjk hj hd).1 hd'
                  omega]
                refine inv.still t fun j' oj' hjk' hj' hd' => ?_
                have e := ((orderBk_spec hB hjk' hj').2 j oj t hjk hj hd).1 hd'
                subst e
                cases hl : listed.getD j' false with
                | false => rfl
                | true =>
                  exfalso
                  obtain ⟨oi, g1, e, g2, g3, g4⟩ := Region.waitsFor_spec c2
                  have := inv.head.closed j' oi g1 hl e g2 g3
                  rw [g4, hif] at this
                  cases this
            · rw [slotsAt_none s Vs i fun j oj hji hj hd => hw ⟨j, oj, by omega, hj, hd⟩]
              exact inv.still t fun j oj hjk hj hd => absurd ⟨j, oj, hjk, hj, hd⟩ hw
          · rw [if_neg ht]
            trivial
        have step := hst i o hik hol ψ w a (wpAny P .any l.toArray Q fuel (listed.setIfInBounds i true)) Q hr hs fun ψ' v w' hle' hr' hv => by
          have hdn : ∀ d, o.dst = some d → d < n := fun d hd => nth_lt l i d hall (by rw [nthDst_eq, hol]; exact hd)
          refine ih _ _ _ ψ' (PMap.le_trans hle hle') hr' ⟨inv.head.set hi hik, ?_, ?_, fun t j oj hjk hj hd hl => ?_, fun t hun => ?_⟩ ?_
          · cases hod : o.dst with
            | none => simpa [Act.put] using inv.tsize
            | some d => simpa [Act.put] using inv.tsize
          · cases hod : o.dst with
            | none => simpa [Act.put] using inv.defers
            | some d => simpa [Act.put] using inv.defers
          · by_cases e : j = i
            · subst e
              rw [hol] at hj
              obtain rfl := Option.some.inj hj
              have hlt : t < a.tmps.size := by rw [inv.tsize]; exact hdn t hd
              have : (a.put o.dst v).tmps.getD t undef = v := by rw [hd]; simp [Act.put, hlt]
              rw [this]; exact hv
            · rw [XV e] at hl
              have hne : o.dst ≠ some t := fun hod => e (((spec.2 j oj t hjk hj hd).1 hod).symm)
              have : (a.put o.dst v).tmps.getD t undef = a.tmps.getD t undef := by
                cases hod : o.dst with
                | none => rfl
                | some d =>
                  have hdt : d ≠ t := fun e => hne (by rw [hod, e])
                  simp [Act.put, Array.getD_eq_getD_getElem?, Array.getElem?_setIfInBounds_ne hdt]
              rw [this]
              exact VR_mono hle' _ _ (inv.done t j oj hjk hj hd hl)
          · have hne : o.dst ≠ some t := fun hod => by
              have := hun i o hik hol hod
              rw [set_self hisz] at this
              cases this
            have : (a.put o.dst v).tmps.getD t undef = a.tmps.getD t undef := by
              cases hod : o.dst with
              | none => rfl
              | some d =>
                have hdt : d ≠ t := fun e => hne (by rw [hod, e])
                simp [Act.put, Array.getD_eq_getD_getElem?, Array.getElem?_setIfInBounds_ne hdt]
            rw [this]
            refine VR_mono hle' _ _ (inv.still t fun j oj hjk hj hd => ?_)
            have e : j ≠ i := fun e => by subst e; rw [hol] at hj; obtain rfl := Option.some.inj hj; exact hne hd
            have := hun j oj hjk hj hd
            rwa [XV e] at this
          · have h2 : listed.toList[i]? = some false := by
              simp [Array.getD, hisz] at h1
              simp [hisz, h1]
            have := count_set listed.toList i h2
            have e : (listed.setIfInBounds i true).toList = listed.toList.set i true := by simp
            rw [e]
            omega
        simp only [wpOp, ho]
        split
        · rename_i hw
          rw [if_pos hw] at step
          exact .inl step
        · rename_i hw
          rw [if_neg hw] at step
          exact step

/-- The static conditions of a statement of open order with k operations ahead of those that write. -/
def tailB (l : List Oper) (k : Nat) : Bool :=
  decide (k < l.length) && orderBk l k && Region.sinkB .any l.toArray k && Region.chainB .any l.toArray k && Region.seqB .any l.toArray (l.length - k) k (firstK l.length k)

theorem awp_draw_anyT {Q : Exit → Slots → AHeap → Prop} {s : Slots} {id : Nat} {l : List Oper} (k : Nat) (hm : P.follows .mixedOrders = true) (hB : tailB l k = true) (hd : Xt n l = true)
    (hc : vOps P w₀ l (l.take k) s h (fun s' h' => QO P w₀ l (l.drop k) s' h' (fun s'' h'' => Q .normal s'' h''))) : Awp P w₀ n (.region id l.toArray true) Q s h := by
  intro φ a w hr hs
  simp only [tailB, Bool.and_eq_true, decide_eq_true_eq] at hB
  obtain ⟨⟨⟨⟨hk, h1⟩, h2⟩, h3⟩, h4⟩ := hB
  obtain ⟨Vs, g1, g2, g3⟩ := vOps_stepsT (P := P) (w₀ := w₀) (n := n) (h := h) (l.drop k) hd (s := s) (l.take k) [] [] (by simp) rfl hc
  have htl : (l.take k).length = k := by simp; omega
  simp only [List.nil_append, List.length_nil, Nat.zero_le, true_implies, Nat.zero_add, htl] at g1 g2 g3
  refine wp_region_any hm ?_
  have dtake : ∀ (l : List Oper) (m : Nat), Xt n l = true → Xt n (l.drop m) = true := by
    intro l
    induction l with
    | nil => intro m _; simp [Xt]
    | cons o r ih =>
      intro m h
      cases m with
      | zero => simpa using h
      | succ m =>
        simp only [Xt, Bool.and_eq_true] at h
        simpa using ih m h.2
  refine any_okK (φ := φ) hk hd h1 h2 h3 h4 (s := s) (Vs := Vs) (fun i o hi ho => g2 i o hi ho) (fun ψ a' w' hle hr' hs' => ?_) _ _ _ _ φ φ.le_refl hr.drew ?_ ?_
  · have := aOps_ok (P := P) (w₀ := w₀) l n hd (l.drop k) k ψ _ h a' w' _ (fun e a' w' => ∃ χ s' h', φ.le χ ∧ HRel w₀ χ h' w' ∧ SRel χ n s' a' ∧ Q e s' h') (fun j => by simp [List.getElem?_drop]) (dtake l k hd) g3 hr' hs'
      (fun χ s' h' a' w' e1 e2 e3 e4 => ⟨χ, s', h', PMap.le_trans hle e1, e2, e3, e4⟩)
    rw [wpOps_eq_wpList (l.drop k) k (fun j => by simp [List.getElem?_drop])] at this
    exact this
  · have hf : ∀ j, (Array.replicate l.toArray.size false).getD j false = false := fun j => by
      simp [Array.getD]
    exact ⟨⟨by simp, fun j oj _ hl => (by rw [getD_replicate_false] at hl; cases hl), fun t _ ht => getD_in (by simpa using ht) (getD_replicate_false _ _)⟩, hs.size, hs.defers, fun t j oj _ _ _ hl => (by rw [hf] at hl; cases hl), fun t _ => hs.val t⟩
  · simp

end
end Go.AM

/-
  An assertion layer over the model's wp, part S: statements of open order whose heap hangs on what has been listed (an alloc among the operations).
  Conditions: none. Nothing here is about a particular program.
-/
namespace Go.AM
open Go.RowKit (Below)

section
variable {P : Program} {w₀ : World} {n : Nat} {h : AHeap}

theorem put_tmps_ne (a : Act) (d : Option Tmp) (v : Value) {t : Nat} (hne : d ≠ some t) : (a.put d v).tmps.getD t undef = a.tmps.getD t undef := by
  cases d with
  | none => rfl
  | some d =>
    have hdt : d ≠ t := fun e => hne (by rw [e])
    simp [Act.put, Array.getD_eq_getD_getElem?, Array.getElem?_setIfInBounds_ne hdt]

variable {ops rest : List Oper} {dst : Option Tmp} {ty : TypeId} {pos : String} {af : Array Edge}
end
end Go.AM

/-
  An assertion layer over the model's wp, part T: one rule for statements of open order: operations that read, call or lay blocks in any order, late ones that only look at slots, and a chained tail.
  Conditions: none. Nothing here is about a particular program.
-/
namespace Go.AM
open Go.RowKit (Below)

/-! ### What an operation does hangs on what it looks at -/
theorem ev_mem {s : Slots} {L : List Nat} {op : Op} (hL : ∀ t ∈ opTmps op, t ∈ L) : ∀ x ∈ op.operands.toList, ev (s.keep L) x = ev s x := by
  intro x hx
  refine ev_keep fun t ht => hL t ?_
  subst ht
  exact List.mem_filterMap.2 ⟨_, hx, rfl⟩
theorem evs_mem {s s' : Slots} : ∀ {xs : List Operand}, (∀ x ∈ xs, ev s' x = ev s x) → evs s' xs = evs s xs
  | [], _ => rfl
  | x :: xs, h => by
    have := evs_mem (s := s) (s' := s') (xs := xs) fun y hy => h y (List.mem_cons_of_mem _ hy)
    simp only [evs, List.map_cons] at this ⊢
    rw [h x List.mem_cons_self, this]
theorem evP_mem {s s' : Slots} : ∀ {xs : List (Nat × Operand)}, (∀ p ∈ xs, ev s' p.2 = ev s p.2) → evP s' xs = evP s xs
  | [], _ => rfl
  | x :: xs, h => by
    have := evP_mem (s := s) (s' := s') (xs := xs) fun y hy => h y (List.mem_cons_of_mem _ hy)
    simp only [evP, List.map_cons] at this ⊢
    rw [h x List.mem_cons_self, this]
theorem evO_mem {s s' : Slots} {x : Option Operand} (h : ∀ y, x = some y → ev s' y = ev s y) : evO s' x = evO s x := by
  cases x with
  | none => rfl
  | some y => simp only [evO, h y rfl]

theorem pop_congr {P : Program} {w₀ : World} {h : AHeap} {s s' : Slots} (op : Op) (E : ∀ x ∈ op.operands.toList, ev s' x = ev s x) : pop P w₀ h s' op = pop P w₀ h s op := by
  cases op with
  | move x => simp only [pop, E x (by simp [Op.operands])]
  | assign x => simp only [pop, E x (by simp [Op.operands])]
  | pick c a b => simp only [pop, E c (by simp [Op.operands]), E a (by simp [Op.operands]), E b (by simp [Op.operands])]
  | binOp o t x y u => simp only [pop, E x (by simp [Op.operands]), E y (by simp [Op.operands])]
  | unOp o t x => simp only [pop, E x (by simp [Op.operands])]
  | convert a b x => simp only [pop, E x (by simp [Op.operands])]
  | load t x => simp only [pop, E x (by simp [Op.operands])]
  | field t x f => simp only [pop, E x (by simp [Op.operands])]
  | fieldAddr t x f => simp only [pop, E x (by simp [Op.operands])]
  | index t x i => simp only [pop, E x (by simp [Op.operands]), E i (by simp [Op.operands])]
  | indexAddr t x i => simp only [pop, E x (by simp [Op.operands]), E i (by simp [Op.operands])]
  | slice t x lo hi mx =>
    simp only [pop, E x (by simp [Op.operands])]
    rw [evO_mem (s := s) (s' := s') (x := lo) fun y hy => E y (by subst hy; simp [Op.operands]), evO_mem (s := s) (s' := s') (x := hi) fun y hy => E y (by subst hy; simp [Op.operands]), evO_mem (s := s) (s' := s') (x := mx) fun y hy => E y (by subst hy; simp [Op.operands])]
  | extract x i => simp only [pop, E x (by simp [Op.operands])]
  | nilCheck x => simp only [pop, E x (by simp [Op.operands])]
  | build t ps =>
    simp only [pop]
    rw [evP_mem (s := s) (s' := s') fun p hp => E p.2 (by simp only [Op.operands, List.toList_toArray, List.mem_map]; exact ⟨p, hp, rfl⟩)]
  | makeFunc fn first cap =>
    simp only [pop]
    rw [evs_mem (s := s) (s' := s') (xs := cap.toList) fun x hx => E x (by simp only [Op.operands, Array.toList_append, List.mem_append]; exact .inr hx)]
  | makeInterface t x => simp only [pop, E x (by simp [Op.operands])]
  | call c =>
    obtain ⟨callee, args, ts⟩ := c
    simp only [pop]
    cases callee with
    | builtin b =>
      simp only
      rw [evs_mem (s := s) (s' := s') (xs := args.toList) fun x hx => E x (by simp only [Op.operands, Call.operands, Array.toList_append, List.mem_append]; exact .inr hx)]
    | _ => rfl
  | _ => rfl

theorem eop_congr {P : Program} {w₀ : World} {h : AHeap} {s s' : Slots} (op : Op) {K : AVal → AHeap → Prop} (E : ∀ x ∈ op.operands.toList, ev s' x = ev s x) : eop P w₀ h s' op K = eop P w₀ h s op K := by
  have hp := pop_congr (P := P) (w₀ := w₀) (h := h) (s := s) (s' := s') op E
  cases op with
  | box e x => simp only [eop, E x (by simp [Op.operands])]
  | buildSlice t n ps =>
    simp only [eop]
    rw [evP_mem (s := s) (s' := s') fun p hp => E p.2 (by simp only [Op.operands, List.toList_toArray, List.mem_map]; exact ⟨p, hp, rfl⟩)]
  | store t x v => simp only [eop, E x (by simp [Op.operands]), E v (by simp [Op.operands])]
  | makeSlice t n c => simp only [eop, E n (by simp [Op.operands]), E c (by simp [Op.operands])]
  | convert a b x => simp only [eop, E x (by simp [Op.operands]), hp]
  | call c =>
    obtain ⟨callee, args, ts⟩ := c
    have hx : evs s' args.toList = evs s args.toList := evs_mem fun x hx => E x (by simp only [Op.operands, Call.operands, Array.toList_append, List.mem_append]; exact .inr hx)
    cases callee with
    | value f =>
      simp only [eop, hx]
      rw [E f (by simp [Op.operands, Call.operands])]
    | builtin b => cases b <;> simp only [eop, hx] <;> rw [hp]
    | invoke r m => simp only [eop, hp]
  | alloc e => rfl
  | _ => simp only [eop, hp]

/-! ### Names that a value bears -/
mutual
/-- Each own block that the value names has a place. -/
def AVal.okIn (f : Nat → Bool) : AVal → Prop
  | .ptr (.own k) _ => f k = true
  | .slice (.own k) _ len c => match c with
    | .exact c => (c ≠ 0 ∨ len ≠ 0 → f k = true)
    | .grow _ => f k = true
  | .func _ cs => okInL f cs
  | .iface _ x => x.okIn f
  | .agg cs => okInL f cs
  | .tuple cs => okInL f cs
  | _ => True
def okInL (f : Nat → Bool) : List AVal → Prop
  | [] => True
  | x :: xs => x.okIn f ∧ okInL f xs
end

mutual
theorem okIn_of_VR {φ : PMap} : ∀ (x : AVal) (v : Value), VR φ x v → x.okIn (fun k => (φ k).isSome)
  | .dead, _, _ => by simp only [AVal.okIn]
  | .bool _, _, _ => by simp only [AVal.okIn]
  | .int _ _, _, _ => by simp only [AVal.okIn]
  | .str _, _, _ => by simp only [AVal.okIn]
  | .nilPtr, _, _ => by simp only [AVal.okIn]
  | .nilSlice, _, _ => by simp only [AVal.okIn]
  | .nilFunc, _, _ => by simp only [AVal.okIn]
  | .nilIface, _, _ => by simp only [AVal.okIn]
  | .nilMap, _, _ => by simp only [AVal.okIn]
  | .ptr (.base b) _, _, _ => by simp only [AVal.okIn]
  | .ptr (.own k) o, v, h => by
    simp only [VR, Xc, Option.map_eq_some_iff] at h
    obtain ⟨a, ⟨p, hp, _⟩, _⟩ := h
    simp only [AVal.okIn, hp, Option.isSome_some]
  | .slice (.base b) _ _ _, _, _ => by simp only [AVal.okIn]
  | .slice (.own k) o len (.exact c), v, h => by
    simp only [VR, Xc, Option.map_eq_some_iff] at h
    obtain ⟨a, _, h2⟩ := h
    simp only [AVal.okIn]
    intro hc
    obtain ⟨p, hp, _⟩ := h2 hc
    simp only [hp, Option.isSome_some]
  | .slice (.own k) o len (.grow es), v, h => by
    simp only [VR] at h
    obtain ⟨k', p, c, a, e, hp, _⟩ := h
    cases e
    simp only [AVal.okIn, hp, Option.isSome_some]
  | .func f cs, v, h => by
    simp only [VR] at h
    obtain ⟨vs, _, h2⟩ := h
    simp only [AVal.okIn]
    exact okInL_of_VRs cs vs h2
  | .iface t x, v, h => by
    simp only [VR] at h
    obtain ⟨y, _, h2⟩ := h
    simp only [AVal.okIn]
    exact okIn_of_VR x y h2
  | .agg cs, v, h => by
    simp only [VR] at h
    obtain ⟨vs, _, h2⟩ := h
    simp only [AVal.okIn]
    exact okInL_of_VRs cs vs h2
  | .tuple cs, v, h => by
    simp only [VR] at h
    obtain ⟨vs, _, h2⟩ := h
    simp only [AVal.okIn]
    exact okInL_of_VRs cs vs h2
theorem okInL_of_VRs {φ : PMap} : ∀ (xs : List AVal) (vs : List Value), VRs φ xs vs → okInL (fun k => (φ k).isSome) xs
  | [], _, _ => by simp only [okInL]
  | x :: xs, vs, h => by
    simp only [VRs] at h
    obtain ⟨v, vs', _, h1, h2⟩ := h
    simp only [okInL]
    exact ⟨okIn_of_VR x v h1, okInL_of_VRs xs vs' h2⟩
end

mutual
theorem VR_limit {φ ψ : PMap} {f : Nat → Bool} (hf : ∀ k, f k = true → φ k = ψ k) : ∀ (x : AVal) (v : Value), x.okIn f → VR φ x v → VR ψ x v
  | .dead, _, _, h => h
  | .bool _, _, _, h => h
  | .int _ _, _, _, h => h
  | .str _, _, _, h => h
  | .nilPtr, _, _, h => h
  | .nilSlice, _, _, h => h
  | .nilFunc, _, _, h => h
  | .nilIface, _, _, h => h
  | .nilMap, _, _, h => h
  | .ptr (.base b) _, _, _, h => h
  | .ptr (.own k) o, v, ok, h => by
    simp only [AVal.okIn] at ok
    simp only [VR, Xc, ← hf k ok] at h ⊢
    exact h
  | .slice (.base b) _ _ (.exact c), _, _, h => h
  | .slice (.base b) _ _ (.grow c), v, _, h => by
    simp only [VR] at h
    obtain ⟨k, p, c, a, e, _⟩ := h
    cases e
  | .slice (.own k) o len (.exact c), v, ok, h => by
    simp only [AVal.okIn] at ok
    simp only [VR, Xc] at h ⊢
    obtain ⟨a, h1, h2⟩ := h
    exact ⟨a, h1, fun hc => by rw [← hf k (ok hc)]; exact h2 hc⟩
  | .slice (.own k) o len (.grow es), v, ok, h => by
    simp only [AVal.okIn] at ok
    simp only [VR] at h ⊢
    obtain ⟨k', p, c, a, e, hp, rest⟩ := h
    cases e
    exact ⟨k, p, c, a, rfl, by rw [← hf k ok]; exact hp, rest⟩
  | .func f cs, v, ok, h => by
    simp only [AVal.okIn] at ok
    simp only [VR] at h ⊢
    obtain ⟨vs, h1, h2⟩ := h
    exact ⟨vs, h1, VRs_limit hf cs vs ok h2⟩
  | .iface t x, v, ok, h => by
    simp only [AVal.okIn] at ok
    simp only [VR] at h ⊢
    obtain ⟨y, h1, h2⟩ := h
    exact ⟨y, h1, VR_limit hf x y ok h2⟩
  | .agg cs, v, ok, h => by
    simp only [AVal.okIn] at ok
    simp only [VR] at h ⊢
    obtain ⟨vs, h1, h2⟩ := h
    exact ⟨vs, h1, VRs_limit hf cs vs ok h2⟩
  | .tuple cs, v, ok, h => by
    simp only [AVal.okIn] at ok
    simp only [VR] at h ⊢
    obtain ⟨vs, h1, h2⟩ := h
    exact ⟨vs, h1, VRs_limit hf cs vs ok h2⟩
theorem VRs_limit {φ ψ : PMap} {f : Nat → Bool} (hf : ∀ k, f k = true → φ k = ψ k) : ∀ (xs : List AVal) (vs : List Value), okInL f xs → VRs φ xs vs → VRs ψ xs vs
  | [], _, _, h => h
  | x :: xs, vs, ok, h => by
    simp only [okInL] at ok
    simp only [VRs] at h ⊢
    obtain ⟨v, vs', h0, h1, h2⟩ := h
    exact ⟨v, vs', h0, VR_limit hf x v ok.1 h1, VRs_limit hf xs vs' ok.2 h2⟩
end



/-- Names that nothing bears may be taken back. -/
theorem HRel.limit {w₀ w w' : World} {φ ψ ψ' : PMap} {g : AHeap} (hr : HRel w₀ φ g w) (hr' : HRel w₀ ψ g w') (hl : ψ'.le ψ) (hk : ∀ k, (φ k).isSome = true → ψ k = ψ' k) : HRel w₀ ψ' g w' := by
  refine ⟨hr'.below, fun k b hb => ?_, fun k k' b b' p p' hb hb' hp hp' => hr'.inj k k' b b' p p' hb hb' (hl _ _ hp) (hl _ _ hp'), fun k p hp => hr'.lt k p (hl _ _ hp), ?_, fun k p hp => hr'.typ k p (hl _ _ hp)⟩
  · obtain ⟨p, hp, h1, h2⟩ := hr'.own k b hb
    obtain ⟨q, hq, _, c2⟩ := hr.own k b hb
    refine ⟨p, by rw [← hk k (by simp [hq])]; exact hp, h1, ?_⟩
    obtain ⟨cs, e, lo, hi, r1, r2, r3, r4, r5, r6⟩ := h2.row
    obtain ⟨cs', e', lo', hi', s1, s2, s3, s4, s5, s6⟩ := c2.row
    exact ⟨cs, e, lo, hi, r1, r2, r3, r4, VRs_limit (f := fun k => (φ k).isSome) (fun k hf => hk k hf) _ _ (okInL_of_VRs _ _ s5) r5, r6⟩
  · obtain ⟨N, hN⟩ := hr'.fin
    refine ⟨N, fun k hk' => ?_⟩
    cases e : ψ' k with
    | none => rfl
    | some p => have := hl k p e; rw [hN k hk'] at this; cases this

/-- 0: lays a block; 1: calls; 2: reads; 3: none of these. -/
def kindF (P : Program) : Op → Nat
  | .alloc _ => 0
  | .box _ _ => 0
  | .buildSlice _ _ _ => 0
  | .makeSlice _ _ _ => 0
  | .store _ _ _ => 3
  | .convert src dst _ => if eStrBytes P src dst = true then 0 else if eSame P src dst = true then 3 else 2
  | .call c => match c.callee with
    | .value _ => 1
    | .builtin .append => 3
    | .builtin .copy => 3
    | .builtin _ => 2
    | .invoke _ _ => 3
  | _ => 2

/-- An operation that lays a block does so under a name of our choice, beside whatever else lies there. -/
theorem lay_ok {P : Program} {w₀ : World} {h : AHeap} {s : Slots} {op : Op} {K : AVal → AHeap → Prop} (hk0 : kindF P op = 0) (he : eop P w₀ h s op K) :
    ∃ (val : Nat → AVal) (b : Blk), (∀ k, h k = none → K (val k) (h.set k b)) ∧
      ∀ (k : Nat) (o : Oper), o.op = op → ∀ {w : World} {φ : PMap} {g : AHeap} {n : Nat} {a : Act} {next : Act → World → Prop} {Q : Exit → Act → World → Prop}, HRel w₀ φ g w → SRel φ n s a → g k = none → φ k = none → tyOf k = none →
        (∀ p v w', HRel w₀ (φ.upd k p) (g.set k b) w' → VR (φ.upd k p) (val k) v → next (a.put o.dst v) w') → o.wp P a w next Q := by
  cases op <;> simp only [kindF] at hk0 <;> first
    | (cases hk0; done)
    | skip
  case alloc e =>
    simp only [eop] at he
    split at he <;> first | exact he.elim | skip
    rename_i z hz
    refine ⟨fun k => .ptr (.own k) 0, ⟨z.cells.toList.map qH, 0⟩, he, ?_⟩
    rintro k ⟨dst, op, type, pos, after, guard⟩ rfl w φ g n a next Q hr hs hk hφ hkt hn
    obtain ⟨e1, e2⟩ := hr.alloc k hk hφ (z.cells.toList.map qH) z.cells e 0 0 (by rw [List.length_map, List.take_length]; exact VRs_absS φ z.cells.toList) no_frz (fun t ht => by rw [hkt] at ht; cases ht)
    refine XU (v := .pointer (some ⟨w.heap.size, 0, none⟩)) (w' := w.alloc (.cells z.cells e)) ?_ (hn _ _ _ e2 (VR_new _ _ _))
    simp [execOp, Instr.alloc, run_zero' hz, newVar, newRow]
  case box e x =>
    simp only [eop] at he
    obtain ⟨hl, he⟩ := he
    refine ⟨fun k => .ptr (.own k) 0, ⟨(ev s x).cells, 0⟩, he, ?_⟩
    rintro k ⟨dst, op, type, pos, after, guard⟩ rfl w φ g n a next Q hr hs hk hφ hkt hn
    have hx := VRs_cells (hs.ev x) hl
    have hlen := XC hx
    obtain ⟨e1, e2⟩ := hr.alloc k hk hφ (ev s x).cells (a.eval x).cells e 0 0 (by rw [← hlen, List.take_length]; exact hx) no_frz (fun t ht => by rw [hkt] at ht; cases ht)
    refine XU (v := .pointer (some ⟨w.heap.size, 0, none⟩)) (w' := w.alloc (.cells (a.eval x).cells e)) ?_ (hn _ _ _ e2 (VR_new _ _ _))
    simp [execOp, Instr.box, newVar, newRow]
  case buildSlice t m parts =>
    simp only [eop] at he
    split at he <;> first | exact he.elim | skip
    rename_i cs hb
    refine ⟨fun k => .slice (.own k) 0 m (.exact m), ⟨cs, 0⟩, he, ?_⟩
    rintro k ⟨dst, op, type, pos, after, guard⟩ rfl w φ g n a next Q hr hs hk hφ hkt hn
    unfold buildSliceA at hb
    split at hb <;> first | (cases hb; done) | skip
    rename_i e ht
    split at hb <;> first | (cases hb; done) | skip
    rename_i es z hes hz
    split at hb <;> first | (cases hb; done) | skip
    rename_i hc
    obtain ⟨c1, c2, c3⟩ := hc
    have hzs : VRs φ (z.cells.toList.map qH) z.cells.toList := VRs_absS φ _
    obtain ⟨r, f1, f2⟩ := fill_ok (φ := φ) (fun i => some (i * es, es)) (vs := (parts.map fun (i, x) => (i, a.eval x)).toList) (us := (Array.range (m * es)).map (z.cells[· % z.cells.size]!)) (by simpa using hs.evP parts.toList) (VRs_rep hzs (by omega) (m * es)) hb
    have hlen := XC f2
    simp only [Array.length_toList] at hlen
    have hcl : cs.length = m * es := by rw [fill_length _ hb]; simp [repCells]
    obtain ⟨e1, e2⟩ := hr.alloc k hk hφ cs r e 0 0 (by rw [← hlen, ← Array.length_toList, List.take_length]; exact f2) no_frz (fun t ht => by rw [hkt] at ht; cases ht)
    refine XU (v := .slice (some ⟨w.heap.size, 0, none⟩) m m) (w' := w.alloc (.cells r e)) ?_ (hn _ _ _ e2 ?_)
    · have hbig : ¬ (m * es > 2 ^ 24) := by omega
      have hb' : ¬ (16777216 < m * es) := by omega
      by_cases hz0 : m * es = 0
      · have hr0 : r = #[] := Array.eq_empty_of_size_eq_zero (by omega)
        have harr : ((Array.range (m * es)).map (z.cells[· % z.cells.size]!)) = #[] := by rw [hz0]; simp
        rw [harr] at f1
        simp at f1
        simp [execOp, Instr.buildSlice, qW ht, Zi hes, hz0, Array.range_zero', f1, newRow]
      · simp [execOp, Instr.buildSlice, qW ht, Zi hes, hz0, hb', run_zero' hz]
        simp at f1
        simp [f1, newRow]
    · simp only [VR]
      exact ⟨_, rfl, fun _ => by simp [Xc, PMap.upd]⟩
  case makeSlice t m c =>
    simp only [eop] at he
    unfold eMake at he
    split at he <;> first | exact he.elim | skip
    rename_i e len cap ht hlen hcap
    split at he <;> first | exact he.elim | skip
    rename_i es by' z hes hby hz
    obtain ⟨⟨g1, g2, g3, g4, g5, g6⟩, he⟩ := he
    refine ⟨fun k => .slice (.own k) 0 len.toNat (.exact cap.toNat), ⟨repCells (z.cells.toList.map qH) (cap.toNat * es), 0⟩, he, ?_⟩
    rintro k ⟨dst, op, type, pos, after, guard⟩ rfl w φ g n a next Q hr hs hk hφ hkt hn
    have i1 : ∃ k, a.eval m = .int k len := by
      have := hs.ev m
      revert hlen this
      cases ev s m <;> simp [intA, VR]
      intro e1 e2
      subst e1
      exact ⟨_, e2⟩
    have i2 : ∃ k, a.eval c = .int k cap := by
      have := hs.ev c
      revert hcap this
      cases ev s c <;> simp [intA, VR]
      intro e1 e2
      subst e1
      exact ⟨_, e2⟩
    obtain ⟨k1, i1⟩ := i1
    obtain ⟨k2, i2⟩ := i2
    simp only [szOf, Option.map_eq_some_iff] at hes
    obtain ⟨ii, hi, hes⟩ := hes
    simp only [byOf, hi, Option.map_some, Option.some.injEq] at hby
    simp only [zeOf, hi, Option.bind_some] at hz
    subst hby
    have hmake := run_make (P := P) w t e ii z ht hi hz k1 k2 len cap g1 g2 g3 g4
    rw [hes] at hmake
    have hzs : VRs φ (z.cells.toList.map qH) z.cells.toList := VRs_absS φ _
    have hrep := VRs_rep hzs (by omega) (cap.toNat * es)
    obtain ⟨e1, e2⟩ := hr.alloc k hk hφ (repCells (z.cells.toList.map qH) (cap.toNat * es)) (madeCells z.cells (cap.toNat * es)) e 0 0 (by
      have hl := XC hrep
      rw [← hl]
      unfold madeCells
      rw [List.take_length]
      exact hrep) no_frz (fun t ht => by rw [hkt] at ht; cases ht)
    refine XU (v := .slice (some ⟨w.heap.size, 0, none⟩) len.toNat cap.toNat) (w' := w.alloc (.cells (madeCells z.cells (cap.toNat * es)) e)) ?_ (hn _ _ _ e2 ?_)
    · simp only [execOp, i1, i2]
      exact run_value hmake
    · simp only [VR]
      exact ⟨_, rfl, fun _ => by simp [Xc, PMap.upd]⟩
  case convert src dst' x =>
    split at hk0
    · rename_i hc
      simp only [eop] at he
      split at he
      · rename_i b hb
        rw [if_pos hc] at he
        obtain ⟨g1, he⟩ := he
        refine ⟨fun k => .slice (.own k) 0 b.length (.grow 1), ⟨byteCells b, 0⟩, he, ?_⟩
        rintro k ⟨dst, op, type, pos, after, guard⟩ rfl w φ g n a next Q hr hs hk hφ hkt hn
        unfold eStrBytes at hc
        split at hc <;> first | (cases hc; done) | skip
        rename_i e h1 h2
        split at hc <;> first | (cases hc; done) | skip
        rename_i h3
        have hx := hs.ev x
        rw [hb] at hx
        simp only [VR] at hx
        have hcap : b.length ≤ grownCap w b.length 0 e := by
          simp only [grownCap, Question.cut]
          omega
        have hrun := run_bytes_of_string (P := P) w src dst' e ⟨⟨b⟩⟩ h1 h2 h3
        rw [bsize] at hrun
        generalize hG : grownCap w b.length 0 e = G at *
        have hrow : (bytesRow ⟨⟨b⟩⟩ G).toList = (b.map fun c => Value.int .u8 c.toNat) ++ List.replicate (G - b.length) (.int .u8 0) := by
          simp [bytesRow, bsize]
        have hsize : (bytesRow ⟨⟨b⟩⟩ G).size = G := by
          rw [← Array.length_toList, hrow]
          simp
          omega
        rw [hsize] at hrun
        have hcells : (byteCells b).length = b.length := byteCells_length b
        obtain ⟨e1, e2⟩ := hr.drew.alloc k hk hφ (byteCells b) (bytesRow ⟨⟨b⟩⟩ G) e G (G + 1) (by
          rw [hcells, hrow, List.take_append_of_le_length (by simp)]
          rw [List.take_of_length_le (by simp)]
          exact VRs_bytes φ b) (fun i h1 h2 => by rw [hsize]; exact h1) (fun t ht => by rw [hkt] at ht; cases ht)
        refine XU (v := .slice (some ⟨w.heap.size, 0, none⟩) b.length G) (w' := w.drew.alloc (.cells (bytesRow ⟨⟨b⟩⟩ G) e (G, G + 1))) ?_ (hn _ _ _ e2 ?_)
        · simp only [execOp, hx]
          exact run_value hrun
        · simp only [VR]
          exact ⟨k, _, G, ⟨w.heap.size, 0, none⟩, rfl, PMap.upd_same _ _ _, rfl, hcap, fun _ => ⟨rfl, by simp [hsize]⟩⟩
      · rename_i k o m c hx
        simp only [eStrBytes] at hc
        split at he
        · rename_i hc'
          simp only [eSame, Bool.and_eq_true, beq_iff_eq] at hc'
          obtain ⟨rfl, hc'⟩ := hc'
          split at hc <;> first | (cases hc; done) | skip
          rename_i e h1 h2
          rw [h1] at h2; cases h2
        · exfalso
          simp only [pop, hx, pConv] at he
          split at hc <;> first | (cases hc; done) | skip
          rename_i e h1 h2
          simp [h1, h2] at he
          exact he.1
      · rename_i hn1 hn2
        exfalso
        unfold eStrBytes at hc
        split at hc <;> first | (cases hc; done) | skip
        rename_i e h1 h2
        have he1 := he.1
        simp only [pop] at he1
        cases hx : ev s x with
        | str b => exact hn1 b hx
        | _ => simp [hx, pConv, h1, h2, PR.no] at he1
    · split at hk0 <;> cases hk0
  case call c =>
    obtain ⟨callee, args, ts⟩ := c
    cases callee with
    | value f => cases hk0
    | invoke r m => cases hk0
    | builtin b => cases b <;> cases hk0

section
variable {P : Program} {w₀ : World} {n : Nat} {h₀ : AHeap}

/-! ### The heads of statements of open order -/
def stepF (P : Program) (w₀ : World) (h₀ h : AHeap) (S : Slots) (op : Op) (V : AVal) : Prop :=
  if kindF P op = 2 then (pop P w₀ h S op).pre ∧ V = (pop P w₀ h S op).val
  else kindF P op = 1 ∧ V.okIn (fun k => (h₀ k).isSome) ∧ ∀ g, (∀ k b, h₀ k = some b → g k = some b) → eop P w₀ g S op (fun x h' => x = V ∧ h' = g)

def fOps (P : Program) (w₀ : World) (ops : List Oper) (h₀ : AHeap) : List Oper → Slots → AHeap → (Slots → AHeap → Prop) → Prop
  | [], s, h, K => K s h
  | o :: rest, s, h, K =>
    if kindF P o.op = 0 then o.guard = none ∧ eop P w₀ h (s.keep (QS ops o)) o.op (fun x h' => fOps P w₀ ops h₀ rest (putD s o.dst x) h' K)
    else match o.guard with
      | none => ∃ V, stepF P w₀ h₀ h (s.keep (QS ops o)) o.op V ∧ fOps P w₀ ops h₀ rest (putD s o.dst V) h K
      | some (j, want) => match qI ops j with
        | none => fOps P w₀ ops h₀ rest (putD s o.dst (.tuple [])) h K
        | some d => gKnown (s.get d) = true ∧ ∃ V, (Xg (s.get d) want = true → stepF P w₀ h₀ h (s.keep (QS ops o)) o.op V) ∧ fOps P w₀ ops h₀ rest (putD s o.dst (Qu (Xg (s.get d) want) V)) h K

theorem fOps_mono {ops : List Oper} {K K' : Slots → AHeap → Prop} (hk : ∀ s h, K s h → K' s h) : ∀ {l : List Oper} {s : Slots} {h : AHeap}, fOps P w₀ ops h₀ l s h K → fOps P w₀ ops h₀ l s h K'
  | [], s, h, hv => hk _ _ hv
  | o :: rest, s, h, hv => by
    simp only [fOps] at hv ⊢
    split
    · rename_i h0
      rw [if_pos h0] at hv
      exact ⟨hv.1, eop_mono hv.2 fun x h' hx => fOps_mono hk hx⟩
    · rename_i h0
      rw [if_neg h0] at hv
      split
      · rename_i hg
        rw [hg] at hv
        obtain ⟨V, h1, h2⟩ := hv
        exact ⟨V, h1, fOps_mono hk h2⟩
      · rename_i j want hg
        rw [hg] at hv
        simp only at hv
        split
        · rename_i hj
          rw [hj] at hv
          exact fOps_mono hk hv
        · rename_i d hj
          rw [hj] at hv
          obtain ⟨h1, V, h2, h3⟩ := hv
          exact ⟨h1, V, h2, fOps_mono hk h3⟩

/-- The heap when some of the blocks are laid; the block that operation i lays bears the name N + i. -/
def gOf (h₀ : AHeap) (N : Nat) (bl : List (Option Blk)) (listed : Nat → Bool) : AHeap := fun k => if N ≤ k then (bif listed (k - N) then bl.getD (k - N) none else none) else h₀ k

def HH (w₀ : World) (h₀ : AHeap) (N : Nat) (bl : List (Option Blk)) (listed : Array Bool) (ψ : PMap) (w : World) : Prop :=
  HRel w₀ ψ (gOf h₀ N bl fun i => listed.getD i false) w ∧ ∀ i, i < bl.length → listed.getD i false = false → ψ (N + i) = none

/-- What operation i of the head does, whatever is listed. -/
def HeadStep (P : Program) (w₀ : World) (n : Nat) (h₀ : AHeap) (l : List Oper) (N : Nat) (bl : List (Option Blk)) (S : Slots) (i : Nat) (o : Oper) (V : AVal) : Prop :=
  ∀ (listed : Array Bool) (ψ : PMap) (w : World) (a : Act) (next : Act → World → Prop) (Q : Exit → Act → World → Prop), listed.getD i false = false → i < listed.size → HH w₀ h₀ N bl listed ψ w → SRel ψ n (S.keep (QS l o)) a →
    (∀ ψ' v w', ψ.le ψ' → HH w₀ h₀ N bl (listed.setIfInBounds i true) ψ' w' → VR ψ' V v → next (a.put o.dst v) w') →
    if Region.wanted o (yielded l.toArray a.tmps) = true then o.wp P a w next Q else next (a.put o.dst undef) w

theorem cells_up {ψ : PMap} {H g : AHeap} (hg : ∀ k b, H k = some b → (ψ k).isSome = true → g k = some b) {l : Loc} (hl : ∀ k, l = .own k → (ψ k).isSome = true ∨ False) : ∀ (n o : Nat), allLive (qf w₀ H l o n) = true → qf w₀ g l o n = qf w₀ H l o n
  | 0, _, _ => rfl
  | n + 1, o, ha => by
    simp only [qf, allLive, Bool.and_eq_true] at ha ⊢
    rw [cells_up hg hl n (o + 1) ha.2]
    congr 1
    cases l with
    | base b => rfl
    | own k =>
      have hs := (hl k rfl).resolve_right id
      have h1 := ha.1
      simp only [rd] at h1 ⊢
      cases hH : H k with
      | none => simp [hH, AVal.live] at h1
      | some b => simp [hg k b hH hs]

theorem rd_up {ψ : PMap} {H g : AHeap} (hg : ∀ k b, H k = some b → (ψ k).isSome = true → g k = some b) {l : Loc} (hl : ∀ k, l = .own k → (ψ k).isSome = true) (o : Nat) (ha : (rd w₀ H l o).live = true) : rd w₀ g l o = rd w₀ H l o := by
  have := cells_up (w₀ := w₀) hg (l := l) (fun k e => .inl (hl k e)) 1 o (by simp [qf, allLive, ha])
  simpa [qf] using this

theorem ptr_some {ψ : PMap} {l : Loc} {o : Nat} {v : Value} (h : VR ψ (.ptr l o) v) : ∀ k, l = .own k → (ψ k).isSome = true := by
  rintro k rfl
  have := okIn_of_VR _ _ h
  simpa only [AVal.okIn] using this

/-- What is read here is read alike where more lies. -/
theorem pop_up {ψ : PMap} {H g : AHeap} {S : Slots} {a : Act} {op : Op} (hk : kindF P op = 2) (hg : ∀ k b, H k = some b → (ψ k).isSome = true → g k = some b) (hs : SRel ψ n S a) (hp : (pop P w₀ H S op).pre) : pop P w₀ g S op = pop P w₀ H S op := by
  cases op <;> first
    | rfl
    | skip
  case load t x =>
    simp only [pop] at hp ⊢
    have hx := hs.ev x
    cases hv : ev S x with
    | ptr l o =>
      rw [hv] at hx hp
      have hl := ptr_some hx
      simp only [pLoad] at hp ⊢
      split at hp
      · rename_i h1 h2
        rw [cells_up hg (fun k e => .inl (hl k e)) _ _ hp]
      · rename_i h1
        rw [rd_up hg hl _ hp]
      · exact hp.elim
    | _ => rfl
  case convert src dst x =>
    simp only [pop] at hp ⊢
    have hx := hs.ev x
    cases hv : ev S x with
    | slice l o len c =>
      rw [hv] at hx hp
      simp only [pConv] at hp ⊢
      split at hp <;> first | exact hp.elim | skip
      rename_i e h1 h2
      split at hp <;> first | exact hp.elim | skip
      rename_i h3
      by_cases hz : len = 0
      · subst hz; rfl
      · have hl : ∀ k, l = .own k → (ψ k).isSome = true ∨ False := by
          rintro k rfl
          have := okIn_of_VR _ _ hx
          simp only [AVal.okIn] at this
          cases c with
          | exact c => exact .inl (this (.inr hz))
          | grow es => exact .inl this
        rw [cells_up hg hl _ _ (allLive_of_u8 hp)]
    | _ => rfl

theorem gOf_set {h₀ : AHeap} {N : Nat} {bl : List (Option Blk)} {i : Nat} {b : Blk} (hb : bl.getD i none = some b) {listed : Array Bool} (hsz : i < listed.size) :
    (gOf h₀ N bl fun j => listed.getD j false).set (N + i) b = gOf h₀ N bl fun j => (listed.setIfInBounds i true).getD j false := by
  funext k
  simp only [gOf, AHeap.set]
  by_cases e : k = N + i
  · subst e
    rw [if_pos rfl, if_pos (by omega), show N + i - N = i by omega, set_self hsz, hb]
    rfl
  · rw [if_neg e]
    by_cases hN : N ≤ k
    · rw [if_pos hN, if_pos hN, XV (by omega)]
    · rw [if_neg hN, if_neg hN]

theorem gOf_none {h₀ : AHeap} {N : Nat} {bl : List (Option Blk)} {i : Nat} (hb : bl.getD i none = none) {listed : Array Bool} :
    (gOf h₀ N bl fun j => (listed.setIfInBounds i true).getD j false) = gOf h₀ N bl fun j => listed.getD j false := by
  funext k
  simp only [gOf]
  by_cases hN : N ≤ k
  · rw [if_pos hN, if_pos hN]
    by_cases e : k - N = i
    · rw [e, hb]; simp
    · rw [XV e]
  · rw [if_neg hN, if_neg hN]

theorem HH.quiet {N : Nat} {bl : List (Option Blk)} {i : Nat} (hb : bl.getD i none = none) {listed : Array Bool} {ψ : PMap} {w : World} (h : HH w₀ h₀ N bl listed ψ w) : HH w₀ h₀ N bl (listed.setIfInBounds i true) ψ w := by
  refine ⟨by rw [gOf_none hb]; exact h.1, fun j hj hl => h.2 j hj ?_⟩
  by_cases e : j = i
  · subst e
    cases hc : listed.getD j false with
    | false => rfl
    | true =>
      have hsz : j < listed.size := by
        refine Nat.lt_of_not_le fun hge => ?_
        simp [Array.getD, Nat.not_lt.2 hge] at hc
      rw [set_self hsz] at hl
      cases hl
  · rwa [XV e] at hl

/-- The facts of one step of the head. -/
theorem HeadStep.of_step {l : List Oper} (hall : Xt n l = true) {N : Nat} (hN : ∀ j, N ≤ j → h₀ j = none) {bl : List (Option Blk)} {H : AHeap} {i : Nat} (hH : ∀ k b, H k = some b → k < N ∧ h₀ k = some b ∨ N ≤ k ∧ k - N < bl.length ∧ bl.getD (k - N) none = some b) (hb : bl.getD i none = none) {S : Slots} {o : Oper} {V : AVal}
    (hstep : stepF P w₀ h₀ H (S.keep (QS l o)) o.op V) {ψ : PMap} {w : World} {a : Act} {listed : Array Bool} {next : Act → World → Prop} {Q : Exit → Act → World → Prop} (hh : HH w₀ h₀ N bl listed ψ w) (hs : SRel ψ n (S.keep (QS l o)) a)
    (hn : ∀ ψ' v w', ψ.le ψ' → HH w₀ h₀ N bl (listed.setIfInBounds i true) ψ' w' → VR ψ' V v → next (a.put o.dst v) w') : o.wp P a w next Q := by
  unfold stepF at hstep
  split at hstep
  · rename_i hk
    obtain ⟨h1, h2⟩ := hstep
    have hup : ∀ k b, H k = some b → (ψ k).isSome = true → (gOf h₀ N bl fun j => listed.getD j false) k = some b := by
      intro k b hb' hs'
      simp only [gOf]
      rcases hH k b hb' with ⟨c1, c2⟩ | ⟨c1, c2, c3⟩
      · rw [if_neg (by omega)]; exact c2
      · rw [if_pos c1]
        cases hl : listed.getD (k - N) false with
        | true => simpa using c3
        | false =>
          have := hh.2 (k - N) c2 hl
          rw [show N + (k - N) = k by omega] at this
          rw [this] at hs'
          cases hs'
    have e := pop_up (P := P) (w₀ := w₀) (n := n) hk hup hs h1
    obtain ⟨r, e1, e2⟩ := pop_ok o (by rw [e]; exact h1) hh.1 hs
    rw [e, ← h2] at e2
    exact XU (e1 w (Same.refl w)) (hn ψ r w ψ.le_refl (hh.quiet hb) e2)
  · obtain ⟨_, hok, he⟩ := hstep
    have hsub : ∀ k b, h₀ k = some b → (gOf h₀ N bl fun j => listed.getD j false) k = some b := by
      intro k b hb'
      have hlt : k < N := by
        refine Nat.lt_of_not_le fun hge => ?_
        rw [hN k hge] at hb'; cases hb'
      simp only [gOf]
      rw [if_neg (by omega)]; exact hb'
    refine eop_ok o (he _ hsub) hh.1 hs fun ψ' x h' v w' h1 h2 h3 ⟨e1, e2⟩ => ?_
    subst e1 e2
    -- the names in store are taken back
    have hle : ψ.le fun k => if N ≤ k ∧ k - N < bl.length ∧ listed.getD (k - N) false = false then none else ψ' k := by
      intro k p hp
      simp only
      rw [if_neg]
      · exact h1 k p hp
      · rintro ⟨c1, c2, c3⟩
        have := hh.2 (k - N) c2 c3
        rw [show N + (k - N) = k by omega, hp] at this
        cases this
    have hlt : (PMap.le (fun k => if N ≤ k ∧ k - N < bl.length ∧ listed.getD (k - N) false = false then none else ψ' k) ψ') := by
      intro k p hp
      simp only at hp
      split at hp
      · cases hp
      · exact hp
    have hsame : ∀ k, (ψ k).isSome = true → ψ' k = (fun k => if N ≤ k ∧ k - N < bl.length ∧ listed.getD (k - N) false = false then none else ψ' k) k := by
      intro k hk
      obtain ⟨p, hp⟩ := Option.isSome_iff_exists.1 hk
      rw [hle k p hp, h1 k p hp]
    refine hn _ v w' hle (HH.quiet hb ⟨hh.1.limit h2 hlt hsame, fun j hj hl => ?_⟩) (VR_limit (f := fun k => (h₀ k).isSome) (fun k hk => ?_) _ _ hok h3)
    · simp only
      rw [if_pos ⟨by omega, by rw [show N + j - N = j by omega]; exact hj, by rw [show N + j - N = j by omega]; exact hl⟩]
    · have hlt : k < N := by
        refine Nat.lt_of_not_le fun hge => ?_
        simp [hN k hge] at hk
      rw [if_neg (by omega)]

theorem HeadStep.lay {l : List Oper} {N : Nat} {bl : List (Option Blk)} {i : Nat} (hil : i < bl.length) {S : Slots} {o : Oper} {val : Nat → AVal} {b : Blk} (hb : bl.getD i none = some b) (hg : o.guard = none)
    (hlay : ∀ {w : World} {φ : PMap} {g : AHeap} {a : Act} {next : Act → World → Prop} {Q : Exit → Act → World → Prop}, HRel w₀ φ g w → SRel φ n (S.keep (QS l o)) a → g (N + i) = none → φ (N + i) = none →
        (∀ p v w', HRel w₀ (φ.upd (N + i) p) (g.set (N + i) b) w' → VR (φ.upd (N + i) p) (val (N + i)) v → next (a.put o.dst v) w') → o.wp P a w next Q) : HeadStep P w₀ n h₀ l N bl S i o (val (N + i)) := by
  intro listed ψ w a next Q hl hsz hh hs hn
  have hw : Region.wanted o (yielded l.toArray a.tmps) = true := by simp [Region.wanted, hg]
  rw [if_pos hw]
  have hφ := hh.2 i hil hl
  refine hlay hh.1 hs (by simp only [gOf]; rw [if_pos (by omega), show N + i - N = i by omega, hl]; rfl) hφ fun p v w' h1 h2 => ?_
  refine hn _ v w' (PMap.le_upd hφ p) ⟨by rw [← gOf_set hb hsz]; exact h1, fun j hj hl' => ?_⟩ h2
  have e : j ≠ i := fun e => by subst e; rw [set_self hsz] at hl'; cases hl'
  rw [XV e] at hl'
  have := hh.2 j hj hl'
  simp only [PMap.upd]
  rw [if_neg (by omega)]
  exact this

theorem HeadStep.one {l : List Oper} (hall : Xt n l = true) {N : Nat} (hN : ∀ j, N ≤ j → h₀ j = none) {bl : List (Option Blk)} {H : AHeap} {i : Nat} (hH : ∀ k b, H k = some b → k < N ∧ h₀ k = some b ∨ N ≤ k ∧ k - N < bl.length ∧ bl.getD (k - N) none = some b) (hb : bl.getD i none = none) {S : Slots} {o : Oper} {V : AVal} (hg : o.guard = none)
    (hstep : stepF P w₀ h₀ H (S.keep (QS l o)) o.op V) : HeadStep P w₀ n h₀ l N bl S i o V := by
  intro listed ψ w a next Q _ _ hh hs hn
  have hw : Region.wanted o (yielded l.toArray a.tmps) = true := by simp [Region.wanted, hg]
  rw [if_pos hw]
  exact HeadStep.of_step hall hN hH hb hstep hh hs hn

theorem HeadStep.guarded {l : List Oper} (hall : Xt n l = true) {N : Nat} (hN : ∀ j, N ≤ j → h₀ j = none) {bl : List (Option Blk)} {H : AHeap} {i : Nat} (hH : ∀ k b, H k = some b → k < N ∧ h₀ k = some b ∨ N ≤ k ∧ k - N < bl.length ∧ bl.getD (k - N) none = some b) (hb : bl.getD i none = none) {S : Slots} {o : Oper} {V : AVal} {j d : Nat} {want : Bool} (hg : o.guard = some (j, want)) (hj : qI l j = some d) (hk : gKnown (S.get d) = true)
    (hstep : Xg (S.get d) want = true → stepF P w₀ h₀ H (S.keep (QS l o)) o.op V) : HeadStep P w₀ n h₀ l N bl S i o (Qu (Xg (S.get d) want) V) := by
  intro listed ψ w a next Q _ _ hh hs hn
  have hd : (S.keep (QS l o)).get d = S.get d := by
    rw [Slots.get_keep, if_pos]
    simp [QS, hg, hj]
  have hw : Region.wanted o (yielded l.toArray a.tmps) = Xg (S.get d) want := by
    have := guard_ok hs l j d hj (nth_lt l j d hall hj) (by rw [hd]; exact hk) want
    rw [hd] at this
    simp only [Region.wanted, hg]
    exact this
  cases hb' : Xg (S.get d) want with
  | true =>
    rw [hw, hb', if_pos rfl]
    rw [hb'] at hn
    exact HeadStep.of_step hall hN hH hb (hstep hb') hh hs hn
  | false =>
    rw [hw, hb', if_neg (by decide)]
    rw [hb'] at hn
    exact hn ψ undef w ψ.le_refl (hh.quiet hb) (VR_undef ψ)

theorem HeadStep.never {l : List Oper} {N : Nat} {bl : List (Option Blk)} {i : Nat} (hb : bl.getD i none = none) {S : Slots} {o : Oper} {j : Nat} {want : Bool} (hg : o.guard = some (j, want)) (hj : qI l j = none) : HeadStep P w₀ n h₀ l N bl S i o (.tuple []) := by
  intro listed ψ w a next Q _ _ hh hs hn
  have hd : (l.toArray[j]?).bind (·.dst) = none := by rw [← hj, nthDst_eq]; simp
  have hw : Region.wanted o (yielded l.toArray a.tmps) = false := by
    simp only [Region.wanted, hg, yielded, hd]
    rfl
  rw [if_neg (by rw [hw]; decide)]
  exact hn ψ undef w ψ.le_refl (hh.quiet hb) (VR_undef ψ)

theorem gOf_at {N : Nat} (hN : ∀ j, N ≤ j → h₀ j = none) (A B : List (Option Blk)) : ∀ k b, (gOf h₀ N A fun _ => true) k = some b → k < N ∧ h₀ k = some b ∨ N ≤ k ∧ k - N < (A ++ B).length ∧ (A ++ B).getD (k - N) none = some b := by
  intro k b h
  simp only [gOf] at h
  by_cases c : N ≤ k
  · rw [if_pos c] at h
    simp only [cond_true] at h
    right
    have hlt : k - N < A.length := by
      refine Nat.lt_of_not_le fun hge => ?_
      simp [List.getD, List.getElem?_eq_none hge] at h
    refine ⟨c, by simp; omega, ?_⟩
    simpa [List.getD, List.getElem?_append, hlt] using h
  · rw [if_neg c] at h
    exact .inl ⟨by omega, h⟩

theorem gOf_of {N : Nat} (hN : ∀ j, N ≤ j → h₀ j = none) {C : List (Option Blk)} {k : Nat} {b : Blk} (h : k < N ∧ h₀ k = some b ∨ N ≤ k ∧ k - N < C.length ∧ C.getD (k - N) none = some b) : (gOf h₀ N C fun _ => true) k = some b := by
  simp only [gOf, cond_true]
  rcases h with ⟨c, e⟩ | ⟨c, _, e⟩
  · rw [if_neg (by omega)]; exact e
  · rw [if_pos c]; exact e

theorem gOf_push {N : Nat} (A : List (Option Blk)) (b : Blk) : (gOf h₀ N A fun _ => true).set (N + A.length) b = gOf h₀ N (A ++ [some b]) fun _ => true := by
  funext k
  simp only [gOf, AHeap.set, cond_true]
  by_cases e : k = N + A.length
  · subst e
    rw [if_pos rfl, if_pos (by omega), show N + A.length - N = A.length by omega]
    simp [List.getD]
  · rw [if_neg e]
    by_cases c : N ≤ k
    · rw [if_pos c, if_pos c]
      rcases Nat.lt_or_ge (k - N) A.length with c2 | c2
      · simp [List.getD, List.getElem?_append, c2]
      · have h1 : A[k - N]? = none := List.getElem?_eq_none c2
        have h2 : (A ++ [some b])[k - N]? = none := List.getElem?_eq_none (by simp; omega)
        simp [List.getD, h1, h2]
    · rw [if_neg c, if_neg c]

theorem gOf_skip {N : Nat} (A : List (Option Blk)) : (gOf h₀ N A fun _ => true) = gOf h₀ N (A ++ [none]) fun _ => true := by
  funext k
  simp only [gOf, cond_true]
  by_cases c : N ≤ k
  · rw [if_pos c, if_pos c]
    rcases Nat.lt_trichotomy (k - N) A.length with c2 | c2 | c2
    · simp [List.getD, List.getElem?_append, c2]
    · have h1 : A[k - N]? = none := List.getElem?_eq_none (by omega)
      simp [List.getD, h1, c2]
    · have h1 : A[k - N]? = none := List.getElem?_eq_none (by omega)
      have h2 : (A ++ [none])[k - N]? = none := List.getElem?_eq_none (by simp; omega)
      simp [List.getD, h1, h2]
  · rw [if_neg c, if_neg c]

theorem fOps_steps {l : List Oper} (hall : Xt n l = true) {N : Nat} (hN : ∀ j, N ≤ j → h₀ j = none) (hNt : ∀ i, i < l.length → tyOf (N + i) = none) (tl : List Oper) {s : Slots} {K : Slots → AHeap → Prop} : ∀ (rest pre : List Oper) (A : List AVal) (B : List (Option Blk)), l = pre ++ rest ++ tl → A.length = pre.length → B.length = pre.length →
    fOps P w₀ l h₀ rest (Qv s l A pre.length) (gOf h₀ N B fun _ => true) K →
    ∃ A' B', A'.length = rest.length ∧ B'.length = rest.length ∧
      (∀ i o, pre.length ≤ i → i < pre.length + rest.length → l[i]? = some o →
        (B ++ B').length = pre.length + rest.length ∧ HeadStep P w₀ n h₀ l N (B ++ B') (Qv s l (A ++ A') i) i o ((A ++ A').getD i .dead) ∧ (kindF P o.op = 2 → (B ++ B').getD i none = none ∧ (o.guard = none → ∃ H, (∀ j b, H j = some b → (gOf h₀ N (B ++ B') fun _ => true) j = some b) ∧ (pop P w₀ H ((Qv s l (A ++ A') i).keep (QS l o)) o.op).pre ∧ (A ++ A').getD i .dead = (pop P w₀ H ((Qv s l (A ++ A') i).keep (QS l o)) o.op).val))) ∧
      K (Qv s l (A ++ A') (pre.length + rest.length)) (gOf h₀ N (B ++ B') fun _ => true)
  | [], pre, A, B, hl, hA, hB, hv => ⟨[], [], rfl, rfl, fun i o h1 h2 _ => by simp at h2; omega, by simpa [fOps] using hv⟩
  | o :: rest, pre, A, B, hl, hA, hB, hv => by
    have hat : l[pre.length]? = some o := by rw [hl]; simp
    have hAt : ∀ V A', (A ++ V :: A').getD pre.length .dead = V := fun V A' => by simp [List.getD, ← hA]
    have hBt : ∀ b B', (B ++ b :: B').getD pre.length none = b := fun b B' => by simp [List.getD, ← hB]
    have hS : ∀ V, Qv s l (A ++ [V]) (pre ++ [o]).length = putD (Qv s l A pre.length) o.dst V := fun V => by
      rw [List.length_append, List.length_singleton, Qv, hat]
      simp only
      rw [slotsAt_take s l A [V] _ (by omega)]
      congr 1
      simp [List.getD, ← hA]
    have go : ∀ (V : AVal) (b : Option Blk), (∀ (A' : List AVal) (B' : List (Option Blk)), (B ++ b :: B').length = pre.length + (o :: rest).length → HeadStep P w₀ n h₀ l N (B ++ b :: B') (Qv s l A pre.length) pre.length o V) →
        (kindF P o.op = 2 → b = none ∧ (o.guard = none → ∃ H, (∀ B' j b', H j = some b' → (gOf h₀ N (B ++ b :: B') fun _ => true) j = some b') ∧ (pop P w₀ H ((Qv s l A pre.length).keep (QS l o)) o.op).pre ∧ V = (pop P w₀ H ((Qv s l A pre.length).keep (QS l o)) o.op).val)) →
        fOps P w₀ l h₀ rest (putD (Qv s l A pre.length) o.dst V) (gOf h₀ N (B ++ [b]) fun _ => true) K →
        ∃ A' B', A'.length = (o :: rest).length ∧ B'.length = (o :: rest).length ∧
          (∀ i o', pre.length ≤ i → i < pre.length + (o :: rest).length → l[i]? = some o' →
            (B ++ B').length = pre.length + (o :: rest).length ∧ HeadStep P w₀ n h₀ l N (B ++ B') (Qv s l (A ++ A') i) i o' ((A ++ A').getD i .dead) ∧ (kindF P o'.op = 2 → (B ++ B').getD i none = none ∧ (o'.guard = none → ∃ H, (∀ j b, H j = some b → (gOf h₀ N (B ++ B') fun _ => true) j = some b) ∧ (pop P w₀ H ((Qv s l (A ++ A') i).keep (QS l o')) o'.op).pre ∧ (A ++ A').getD i .dead = (pop P w₀ H ((Qv s l (A ++ A') i).keep (QS l o')) o'.op).val))) ∧
          K (Qv s l (A ++ A') (pre.length + (o :: rest).length)) (gOf h₀ N (B ++ B') fun _ => true) := by
      intro V b hst hpo hv'
      obtain ⟨A', B', h1, h2, h3, h4⟩ := fOps_steps hall hN hNt tl rest (pre ++ [o]) (A ++ [V]) (B ++ [b]) (by simp [hl]) (by simp [hA]) (by simp [hB]) (by rw [hS]; exact hv')
      have hlen : (B ++ b :: B').length = pre.length + (o :: rest).length := by simp [hB, h2]
      refine ⟨V :: A', b :: B', by simp [h1], by simp [h2], fun i o' hi hi' ho' => ?_, ?_⟩
      · rcases Nat.eq_or_lt_of_le hi with e' | e'
        · subst e'
          rw [hat] at ho'
          obtain rfl := Option.some.inj ho'
          rw [slotsAt_take s l A (V :: A') _ (by omega), hAt]
          rw [hBt]
          exact ⟨hlen, hst A' B' hlen, fun e => ⟨(hpo e).1, fun e' => (hpo e).2 e' |>.elim fun H ⟨q0, q1⟩ => ⟨H, q0 B', q1⟩⟩⟩
        · have := h3 i o' (by simp; omega) (by simp at hi' ⊢; omega) ho'
          refine ⟨hlen, ?_⟩
          simpa using this.2
      · have e : pre.length + (o :: rest).length = (pre ++ [o]).length + rest.length := by simp; omega
        rw [e]
        simpa using h4
    simp only [fOps] at hv
    split at hv
    · rename_i hk
      obtain ⟨hg, he⟩ := hv
      obtain ⟨val, b, hc, hlay⟩ := lay_ok hk he
      have hfree : (gOf h₀ N B fun _ => true) (N + B.length) = none := by
        simp only [gOf]
        rw [if_pos (by omega), show N + B.length - N = B.length by omega]
        simp [List.getD]
      have hc' := hc (N + B.length) hfree
      rw [gOf_push] at hc'
      refine go (val (N + B.length)) (some b) (fun A' B' hlen => ?_) (fun e => by rw [hk] at e; cases e) hc'
      rw [hB]
      exact HeadStep.lay (by rw [hlen]; simp) (hBt _ _) hg fun h1 h2 h3 h4 h5 => hlay (N + pre.length) o rfl h1 h2 h3 h4 (hNt _ (by rw [hl]; simp)) h5
    · rename_i hk
      have hH := fun b B' => gOf_at (h₀ := h₀) hN B (b :: B')
      split at hv
      · rename_i hg
        obtain ⟨V, h1, h2⟩ := hv
        rw [gOf_skip] at h2
        refine go V none (fun A' B' _ => HeadStep.one hall hN (hH none B') (hBt _ _) hg h1) (fun e => ⟨rfl, fun _ => ?_⟩) h2
        unfold stepF at h1
        rw [if_pos e] at h1
        exact ⟨_, fun B' j b' hb' => gOf_of hN (hH none B' j b' hb'), h1⟩
      · rename_i j want hg
        split at hv
        · rename_i hj
          rw [gOf_skip] at hv
          exact go _ none (fun A' B' _ => HeadStep.never (hBt _ _) hg hj) (fun _ => ⟨rfl, fun e => by rw [hg] at e; cases e⟩) hv
        · rename_i d hj
          obtain ⟨hk', V, h1, h2⟩ := hv
          rw [gOf_skip] at h2
          exact go _ none (fun A' B' _ => HeadStep.guarded hall hN (hH none B') (hBt _ _) hg hj hk' h1) (fun _ => ⟨rfl, fun e => by rw [hg] at e; cases e⟩) h2

def heapless : Op → Bool
  | .load _ _ => false
  | .convert _ _ _ => false
  | _ => true

def isLoad : Op → Bool
  | .load _ _ => true
  | _ => false

/-- The late loads look into blocks that the tail leaves (ks). -/
def lateOK (l : List Oper) (ks : List Nat) (s : Slots) : List Nat → Prop
  | [] => True
  | i :: r => (match l[i]? with
      | some o => (match o.op with
        | .load _ x => (match ev s x with
          | .ptr (.own k) _ => k ∈ ks
          | .ptr (.base _) _ => True
          | _ => False)
        | _ => True)
      | none => True) ∧ lateOK l ks s r
theorem lateOK_mem {l : List Oper} {ks : List Nat} {s : Slots} : ∀ {late : List Nat}, lateOK l ks s late → ∀ i ∈ late, ∀ o t x, l[i]? = some o → o.op = .load t x → (∃ k p, ev s x = .ptr (.own k) p ∧ k ∈ ks) ∨ ∃ b p, ev s x = .ptr (.base b) p
  | j :: r, h, i, hi, o, t, x, ho, hop => by
    simp only [lateOK] at h
    rcases List.mem_cons.1 hi with e | e
    · subst e
      have h1 := h.1
      simp only [ho, hop] at h1
      split at h1
      · rename_i k p hv; exact .inl ⟨k, p, hv, h1⟩
      · rename_i b p hv; exact .inr ⟨b, p, hv⟩
      · exact h1.elim
    · exact lateOK_mem h.2 i e o t x ho hop

/-- A tail that leaves the blocks ks. -/
def kOps (P : Program) (w₀ : World) (ks : List Nat) : List Oper → Slots → AHeap → (Slots → AHeap → Prop) → Prop
  | [], s, h, K => K s h
  | o :: rest, s, h, K => o.guard = none ∧ eop P w₀ h s o.op fun x h' => (∀ k ∈ ks, h' k = h k) ∧ kOps P w₀ ks rest (putD s o.dst x) h' K
theorem kOps_of_aOps {ops : List Oper} {K : Slots → AHeap → Prop} : ∀ {l : List Oper} {s : Slots} {h : AHeap}, (∀ o ∈ l, o.guard = none) → QO P w₀ ops l s h K → kOps P w₀ [] l s h K
  | [], _, _, _, ha => ha
  | o :: r, s, h, hg, ha => by
    have h0 := hg o List.mem_cons_self
    simp only [QO, h0] at ha
    exact ⟨h0, eop_mono ha fun x h' hx => ⟨fun k hk => (by cases hk), kOps_of_aOps (fun o ho => hg o (List.mem_cons_of_mem _ ho)) hx⟩⟩
theorem kOps_mono {ks : List Nat} {K K' : Slots → AHeap → Prop} (hk : ∀ s h, K s h → K' s h) : ∀ {l : List Oper} {s : Slots} {h : AHeap}, kOps P w₀ ks l s h K → kOps P w₀ ks l s h K'
  | [], _, _, ha => hk _ _ ha
  | o :: r, s, h, ha => ⟨ha.1, eop_mono ha.2 fun x h' hx => ⟨hx.1, kOps_mono hk hx.2⟩⟩

/-- A load reads alike where its block is the same. -/
theorem load_same {H g : AHeap} {S : Slots} {t : TypeId} {x : Operand} (hx : (∃ k p, ev S x = .ptr (.own k) p ∧ ∀ b, H k = some b → g k = some b) ∨ ∃ b p, ev S x = .ptr (.base b) p) (hp : (pop P w₀ H S (.load t x)).pre) : pop P w₀ g S (.load t x) = pop P w₀ H S (.load t x) := by
  simp only [pop] at hp ⊢
  rcases hx with ⟨k, p, hv, hg⟩ | ⟨b, p, hv⟩
  · rw [hv] at hp ⊢
    have up : ∀ (n o : Nat), allLive (qf w₀ H (.own k) o n) = true → qf w₀ g (.own k) o n = qf w₀ H (.own k) o n := by
      intro n
      induction n with
      | zero => intro o _; rfl
      | succ n ih =>
        intro o ha
        simp only [qf, allLive, Bool.and_eq_true] at ha ⊢
        rw [ih (o + 1) ha.2]
        congr 1
        have h1 := ha.1
        simp only [rd] at h1 ⊢
        cases hH : H k with
        | none => simp [hH, AVal.live] at h1
        | some b => simp [hg b hH]
    simp only [pLoad] at hp ⊢
    split at hp
    · rw [up _ _ hp]
    · have := up 1 p (by simp only [qf, allLive, Bool.and_true]; exact hp)
      simp only [qf, List.cons.injEq, and_true] at this
      rw [this]
    · exact hp.elim
  · rw [hv] at hp ⊢
    have same : ∀ (n o : Nat), qf w₀ g (.base b) o n = qf w₀ H (.base b) o n := by
      intro n
      induction n with
      | zero => intro o; rfl
      | succ n ih => intro o; simp only [qf]; rw [ih]; rfl
    simp only [pLoad, same]
    rfl

theorem pop_heapless {g H : AHeap} {S : Slots} {op : Op} (h : heapless op = true) : pop P w₀ g S op = pop P w₀ H S op := by
  cases op <;> first
    | rfl
    | (cases h; done)

/-- The static conditions of a statement: k operations in its head, of them the late ones may come behind the tail's first. -/
def floatB (P : Program) (l : List Oper) (k : Nat) (late : List Nat) : Bool :=
  orderB l && decide (k ≤ l.length) && (late.all fun i => decide (i < k)) &&
  ((List.range k).all fun i => if late.contains i then (match l[i]? with | some o => o.guard.isNone && (heapless o.op || isLoad o.op) && (kindF P o.op == 2) && (List.range k).all (fun j => decide (j ≤ i) || match l[j]? with | some oj => (match oj.dst with | some t => !(QS l o).contains t | none => true) | none => true) | none => true)
    else decide (k = l.length) || (List.range (k + 1)).any fun j => decide (i < j) && !late.contains j && Region.waitsFor .any l.toArray j i) &&
  ((List.range l.length).all fun t => decide (t < k) || ((match l[t]? with | some o => o.guard.isNone | none => true) && (decide (t = k) || Region.waitsFor .any l.toArray t (t - 1))))

structure FloatS (P : Program) (l : List Oper) (k : Nat) (late : List Nat) : Prop where
  order : orderB l = true
  kle : k ≤ l.length
  latek : ∀ i, late.contains i = true → i < k
  lateo : ∀ i o, late.contains i = true → l[i]? = some o → o.guard = none ∧ (heapless o.op = true ∨ isLoad o.op = true) ∧ kindF P o.op = 2
  latew : ∀ i o, late.contains i = true → l[i]? = some o → ∀ j oj t, i < j → j < k → l[j]? = some oj → oj.dst = some t → t ∉ QS l o
  sink : ∀ i, i < k → late.contains i = false → k < l.length → ∃ j, i < j ∧ j ≤ k ∧ late.contains j = false ∧ Region.waitsFor .any l.toArray j i = true
  tailg : ∀ t o, k ≤ t → l[t]? = some o → o.guard = none
  chain : ∀ t, k < t → t < l.length → Region.waitsFor .any l.toArray t (t - 1) = true

theorem floatB_spec {l : List Oper} {k : Nat} {late : List Nat} (h : floatB P l k late = true) : FloatS P l k late := by
  unfold floatB at h
  simp only [Bool.and_eq_true, decide_eq_true_eq, List.all_eq_true, List.mem_range] at h
  obtain ⟨⟨⟨⟨h1, h2⟩, h3⟩, h4⟩, h5⟩ := h
  have hlk : ∀ i, late.contains i = true → i < k := fun i hi => by
    have := h3 i (by simpa using hi)
    simpa using this
  refine ⟨h1, h2, hlk, fun i o hi ho => ?_, fun i o hi ho j oj t hij hjk hj hd => ?_, fun i hi hl hk => ?_, fun t o ht ho => ?_, fun t ht htl => ?_⟩
  · have := h4 i (hlk i hi)
    rw [if_pos hi, ho] at this
    simp only [Bool.and_eq_true, beq_iff_eq, Option.isNone_iff_eq_none, Bool.or_eq_true] at this
    exact ⟨this.1.1.1, this.1.1.2, this.1.2⟩
  · have := h4 i (hlk i hi)
    rw [if_pos hi, ho] at this
    simp only [Bool.and_eq_true, List.all_eq_true, List.mem_range] at this
    have h6 := this.2 j hjk
    rw [hj] at h6
    simp only [hd, Bool.or_eq_true, decide_eq_true_eq, Bool.not_eq_true'] at h6
    rcases h6 with e | e
    · omega
    · intro hm
      rw [← List.contains_iff_mem] at hm
      rw [hm] at e
      cases e
  · have := h4 i hi
    rw [if_neg (by rw [hl]; decide)] at this
    simp only [Bool.or_eq_true, decide_eq_true_eq] at this
    rcases this with e | e
    · omega
    · rw [List.any_eq_true] at e
      obtain ⟨j, hj, e⟩ := e
      simp only [Bool.and_eq_true, decide_eq_true_eq, Bool.not_eq_true'] at e
      rw [List.mem_range] at hj
      exact ⟨j, e.1.1, by omega, e.1.2, e.2⟩
  · have hlt := (List.getElem?_eq_some_iff.1 ho).1
    have := h5 t hlt
    rw [ho] at this
    simp only [Bool.or_eq_true, decide_eq_true_eq, Bool.and_eq_true, Option.isNone_iff_eq_none] at this
    rcases this with e | e
    · omega
    · exact e.1
  · have := h5 t htl
    simp only [Bool.or_eq_true, decide_eq_true_eq, Bool.and_eq_true] at this
    rcases this with e | ⟨_, e | e⟩
    · omega
    · omega
    · exact e

structure InvF (l : List Oper) (k : Nat) (Vs : List AVal) (s : Slots) (ψ : PMap) (n : Nat) (listed : Array Bool) (a : Act) : Prop where
  size : listed.size = l.length
  closed : ∀ j oj, l[j]? = some oj → listed.getD j false = true → ∀ e ∈ oj.after, Region.binds .any e = true → listed.getD e.on false = true
  tsize : a.tmps.size = n
  defers : a.defers = []
  done : ∀ t j oj, j < k → l[j]? = some oj → oj.dst = some t → listed.getD j false = true → VR ψ (Vs.getD j .dead) (a.tmps.getD t undef)
  still : ∀ t, (∀ j oj, l[j]? = some oj → oj.dst = some t → listed.getD j false = false) → VR ψ (s.get t) (a.tmps.getD t undef)

theorem put_get_ne (a : Act) {d : Option Tmp} {v : Value} {t : Nat} (hne : d ≠ some t) : (a.put d v).tmps.getD t undef = a.tmps.getD t undef := put_tmps_ne a d v hne
theorem put_get_eq (a : Act) {d : Option Tmp} {v : Value} {t : Nat} (hd : d = some t) (ht : t < a.tmps.size) : (a.put d v).tmps.getD t undef = v := by rw [hd]; simp [Act.put, ht]
theorem put_size (a : Act) (d : Option Tmp) (v : Value) : (a.put d v).tmps.size = a.tmps.size := by cases d <;> simp [Act.put]
theorem put_defers (a : Act) (d : Option Tmp) (v : Value) : (a.put d v).defers = a.defers := by cases d <;> simp [Act.put]

/-- What operation i looks at lies in its slots. -/
theorem InvF.looks {l : List Oper} {k : Nat} (hB : orderB l = true) {Vs : List AVal} {s : Slots} {ψ : PMap} {listed : Array Bool} {a : Act} (inv : InvF l k Vs s ψ n listed a) {i : Nat} (hik : i < k) {o : Oper} (hol : l[i]? = some o) (hif : listed.getD i false = false)
    (hedges : ∀ e ∈ o.after, Region.binds .any e = true → listed.getD e.on false = true) : SRel ψ n ((Qv s l Vs i).keep (QS l o)) a := by
  have hilt : i < l.length := (List.getElem?_eq_some_iff.1 hol).1
  have spec := orderB_spec hB hol
  refine ⟨inv.tsize, inv.defers, fun t => ?_⟩
  rw [Slots.get_keep]
  by_cases ht : (QS l o).contains t = true
  · rw [if_pos ht]
    have ht' : t ∈ QS l o := by simpa using ht
    by_cases hw : ∃ (j : Nat) (oj : Oper), l[j]? = some oj ∧ oj.dst = some t
    · obtain ⟨j, oj, hj, hd⟩ := hw
      rcases (spec.2 j oj t hj hd).2 ht' with ⟨c1, c2⟩ | ⟨c1, c2⟩
      · rw [slotsAt_writer hB s Vs hj hd i c1 (by omega)]
        refine inv.done t j oj (by omega) hj hd ?_
        obtain ⟨oi, g1, e, g2, g3, g4⟩ := Region.waitsFor_spec c2
        have g1' : l[i]? = some oi := by simpa using g1
        rw [hol] at g1'
        obtain rfl := Option.some.inj g1'
        rw [← g4]
        exact hedges e g2 g3
      · rw [slotsAt_none s Vs i fun j' oj' hj'' hj' hd' => by
          have := ((orderB_spec hB hj').2 j oj t hj hd).1 hd'
          omega]
        refine inv.still t fun j' oj' hj' hd' => ?_
        have e := ((orderB_spec hB hj').2 j oj t hj hd).1 hd'
        subst e
        cases hl : listed.getD j' false with
        | false => rfl
        | true =>
          exfalso
          obtain ⟨oi, g1, e, g2, g3, g4⟩ := Region.waitsFor_spec c2
          have g1' : l[j']? = some oi := by simpa using g1
          have := inv.closed j' oi g1' hl e g2 g3
          rw [g4, hif] at this
          cases this
    · rw [slotsAt_none s Vs i fun j oj _ hj hd => hw ⟨j, oj, hj, hd⟩]
      exact inv.still t fun j oj hj hd => absurd ⟨j, oj, hj, hd⟩ hw
  · rw [if_neg ht]
    trivial

/-- One operation more is listed. -/
theorem InvF.next {l : List Oper} {k : Nat} (hall : Xt n l = true) (hB : orderB l = true) {Vs : List AVal} {s : Slots} {ψ ψ' : PMap} (hle : ψ.le ψ') {listed : Array Bool} {a : Act} (inv : InvF l k Vs s ψ n listed a) {i : Nat} {o : Oper} (hol : l[i]? = some o)
    (hedges : ∀ e ∈ o.after, Region.binds .any e = true → listed.getD e.on false = true) {v : Value} (hv : i < k → VR ψ' (Vs.getD i .dead) v) : InvF l k Vs s ψ' n (listed.setIfInBounds i true) (a.put o.dst v) := by
  have hilt : i < l.length := (List.getElem?_eq_some_iff.1 hol).1
  have hisz : i < listed.size := by rw [inv.size]; exact hilt
  have spec := orderB_spec hB hol
  have hdn : ∀ d, o.dst = some d → d < n := fun d hd => nth_lt l i d hall (by rw [nthDst_eq, hol]; exact hd)
  refine ⟨by simp [inv.size], fun j oj hj hl e he hb => ?_, by rw [put_size]; exact inv.tsize, by rw [put_defers]; exact inv.defers, fun t j oj hjk hj hd hl => ?_, fun t hun => ?_⟩
  · by_cases e1 : e.on = i
    · rw [e1]; exact set_self hisz
    · rw [XV e1]
      by_cases e2 : j = i
      · subst e2
        rw [hol] at hj
        obtain rfl := Option.some.inj hj
        exact hedges e he hb
      · rw [XV e2] at hl
        exact inv.closed j oj hj hl e he hb
  · by_cases e : j = i
    · subst e
      rw [hol] at hj
      obtain rfl := Option.some.inj hj
      rw [put_get_eq a hd (by rw [inv.tsize]; exact hdn t hd)]
      exact hv hjk
    · rw [XV e] at hl
      rw [put_get_ne a fun hod => e (((spec.2 j oj t hj hd).1 hod).symm)]
      exact VR_mono hle _ _ (inv.done t j oj hjk hj hd hl)
  · have hne : o.dst ≠ some t := fun hod => by
      have := hun i o hol hod
      rw [set_self hisz] at this
      cases this
    rw [put_get_ne a hne]
    refine VR_mono hle _ _ (inv.still t fun j oj hj hd => ?_)
    have e : j ≠ i := fun e => by subst e; rw [hol] at hj; obtain rfl := Option.some.inj hj; exact hne hd
    have := hun j oj hj hd
    rwa [XV e] at this

/-- The tail is under way: p is the next of it. -/
def PhaseT (P : Program) (w₀ : World) (l : List Oper) (k : Nat) (late ks : List Nat) (hf : AHeap) (Vs : List AVal) (K : Slots → AHeap → Prop) (listed : Array Bool) (ψ : PMap) (a : Act) (w : World) : Prop :=
  ∃ p S g, k ≤ p ∧ p ≤ l.length ∧ (∀ t, k ≤ t → t < l.length → (listed.getD t false = true ↔ t < p)) ∧ (∀ i, i < k → late.contains i = false → listed.getD i false = true) ∧ HRel w₀ ψ g w ∧ kOps P w₀ ks (l.drop p) S g K ∧ (∀ j ∈ ks, g j = hf j) ∧
    (∀ i oi t, i < k → l[i]? = some oi → oi.dst = some t → S.get t = Vs.getD i .dead) ∧
    ∀ t, (∃ i oi, i < k ∧ l[i]? = some oi ∧ oi.dst = some t ∧ listed.getD i false = false) ∨ VR ψ (S.get t) (a.tmps.getD t undef)

def PhaseH (w₀ : World) (h₀ : AHeap) (l : List Oper) (k N : Nat) (bl : List (Option Blk)) (listed : Array Bool) (ψ : PMap) (w : World) : Prop :=
  (∀ t, k ≤ t → t < l.length → listed.getD t false = false) ∧ HH w₀ h₀ N bl listed ψ w

theorem head_done {l : List Oper} {k : Nat} {late : List Nat} (F : FloatS P l k late) {Vs : List AVal} {s : Slots} {ψ : PMap} {listed : Array Bool} {a : Act} (inv : InvF l k Vs s ψ n listed a) (hkl : k < l.length)
    (hedges : ∀ o, l[k]? = some o → ∀ e ∈ o.after, Region.binds .any e = true → listed.getD e.on false = true) : ∀ d i, i + d = k → i < k → late.contains i = false → listed.getD i false = true := by
  intro d
  induction d using Nat.strongRecOn with
  | ind d ih =>
    intro i hd hik hl
    obtain ⟨j, h1, h2, h3, h4⟩ := F.sink i hik hl hkl
    obtain ⟨oj, g1, e, g2, g3, g4⟩ := Region.waitsFor_spec h4
    have g1' : l[j]? = some oj := by simpa using g1
    rw [← g4]
    rcases Nat.eq_or_lt_of_le h2 with e' | e'
    · subst e'
      exact hedges oj g1' e g2 g3
    · exact inv.closed j oj g1' (ih (k - j) (by omega) j (by omega) e' h3) e g2 g3

theorem any_okF {l : List Oper} {k : Nat} {late ks : List Nat} (hall : Xt n l = true) (F : FloatS P l k late) {s : Slots} {Vs : List AVal} {N : Nat} {bl : List (Option Blk)} (hbl : bl.length = k)
    (hst : ∀ i o, i < k → l[i]? = some o → HeadStep P w₀ n h₀ l N bl (Qv s l Vs i) i o (Vs.getD i .dead))
    (hlb : ∀ i, late.contains i = true → bl.getD i none = none)
    (hlo : lateOK l ks (Qv s l Vs k) late)
    (hlate : ∀ i o, late.contains i = true → l[i]? = some o → ∃ H, (∀ j b, H j = some b → (gOf h₀ N bl fun _ => true) j = some b) ∧ (pop P w₀ H ((Qv s l Vs i).keep (QS l o)) o.op).pre ∧ Vs.getD i .dead = (pop P w₀ H ((Qv s l Vs i).keep (QS l o)) o.op).val)
    {K : Slots → AHeap → Prop} (hK : kOps P w₀ ks (l.drop k) (Qv s l Vs k) (gOf h₀ N bl fun _ => true) K) {φ : PMap} {Q : Exit → Act → World → Prop}
    (hq : ∀ ψ S g a w, φ.le ψ → HRel w₀ ψ g w → SRel ψ n S a → K S g → Q .normal a w) : ∀ (fuel : Nat) (listed : Array Bool) (a : Act) (w : World) (ψ : PMap), φ.le ψ → InvF l k Vs s ψ n listed a →
    (PhaseH w₀ h₀ l k N bl listed ψ w ∨ PhaseT P w₀ l k late ks (gOf h₀ N bl fun _ => true) Vs K listed ψ a w) → (listed.toList.filter (!·)).length ≤ fuel → wpAny P .any l.toArray Q fuel listed a w := by
  have hB := F.order
  -- from the head to the tail
  have turn : ∀ (listed : Array Bool) (a : Act) (w : World) (ψ : PMap), InvF l k Vs s ψ n listed a → PhaseH w₀ h₀ l k N bl listed ψ w → (∀ i, i < k → late.contains i = false → listed.getD i false = true) → PhaseT P w₀ l k late ks (gOf h₀ N bl fun _ => true) Vs K listed ψ a w := by
    intro listed a w ψ inv ⟨h1, h2, h3⟩ hd
    have hS : ∀ i oi t, i < k → l[i]? = some oi → oi.dst = some t → (Qv s l Vs k).get t = Vs.getD i .dead := fun i oi t hi ho hdt => slotsAt_writer hB s Vs ho hdt k hi F.kle
    refine ⟨k, _, _, Nat.le_refl _, F.kle, fun t ht htl => ?_, hd, ?_, hK, fun _ _ => rfl, hS, fun t => ?_⟩
    · rw [h1 t ht htl]
      simp; omega
    · have e : (gOf h₀ N bl fun i => listed.getD i false) = gOf h₀ N bl fun _ => true := by
        funext j
        simp only [gOf, cond_true]
        by_cases c : N ≤ j
        · rw [if_pos c, if_pos c]
          cases hl : listed.getD (j - N) false with
          | true => rfl
          | false =>
            simp only [cond_false]
            cases hc : late.contains (j - N) with
            | true => exact (hlb _ hc).symm
            | false =>
              by_cases c2 : j - N < k
              · rw [hd _ c2 hc] at hl; cases hl
              · have : bl[j - N]? = none := List.getElem?_eq_none (by omega)
                simp [List.getD, this]
        · rw [if_neg c, if_neg c]
      rw [← e]; exact h2
    · by_cases hw : ∃ i oi, i < k ∧ l[i]? = some oi ∧ oi.dst = some t
      · obtain ⟨i, oi, c1, c2, c3⟩ := hw
        cases hl : listed.getD i false with
        | false => exact .inl ⟨i, oi, c1, c2, c3, hl⟩
        | true =>
          right
          rw [hS i oi t c1 c2 c3]
          exact inv.done t i oi c1 c2 c3 hl
      · right
        rw [slotsAt_none s Vs k fun j oj hj ho hd' => hw ⟨j, oj, hj, ho, hd'⟩]
        refine inv.still t fun j oj ho hd' => ?_
        rcases Nat.lt_or_ge j k with c | c
        · exact absurd ⟨j, oj, c, ho, hd'⟩ hw
        · exact h1 j c (List.getElem?_eq_some_iff.1 ho).1
  have fin : ∀ (listed : Array Bool) (a : Act) (w : World) (ψ : PMap), φ.le ψ → InvF l k Vs s ψ n listed a → (PhaseH w₀ h₀ l k N bl listed ψ w ∨ PhaseT P w₀ l k late ks (gOf h₀ N bl fun _ => true) Vs K listed ψ a w) → Region.ready .any l.toArray listed = [] → Q .normal a w := by
    intro listed a w ψ hle inv hph hrd
    have hal := all_listed hB inv.size hrd
    have hT : PhaseT P w₀ l k late ks (gOf h₀ N bl fun _ => true) Vs K listed ψ a w := by
      rcases hph with hph | hph
      · exact turn listed a w ψ inv hph fun i hi _ => hal i (by have := F.kle; omega)
      · exact hph
    obtain ⟨p, S, g, h1, h2, h3, h4, h5, h6, _, h7, h8⟩ := hT
    have hp : p = l.length := by
      rcases Nat.eq_or_lt_of_le h2 with e | e
      · exact e
      · have := (h3 p h1 e).1 (hal p e)
        omega
    subst hp
    rw [List.drop_length] at h6
    refine hq ψ S g a w hle h5 ⟨inv.tsize, inv.defers, fun t => ?_⟩ h6
    rcases h8 t with ⟨i, oi, c1, c2, _, c4⟩ | c
    · rw [hal i (List.getElem?_eq_some_iff.1 c2).1] at c4; cases c4
    · exact c
  intro fuel
  induction fuel with
  | zero =>
    intro listed a w ψ hle inv hph hc
    have hrd : Region.ready .any l.toArray listed = [] := by
      cases hrd : Region.ready .any l.toArray listed with
      | nil => rfl
      | cons i r =>
        exfalso
        have hm : i ∈ Region.ready .any l.toArray listed := by rw [hrd]; exact List.mem_cons_self
        obtain ⟨h1, o, ho, _⟩ := mem_ready.1 hm
        have hi : i < listed.size := by
          have : l[i]? = some o := by simpa using ho
          rw [inv.size]; exact (List.getElem?_eq_some_iff.1 this).1
        have h2 : listed.toList[i]? = some false := by
          simp [Array.getD, hi] at h1
          simp [hi, h1]
        have := List.mem_of_getElem? h2
        have hmem : false ∈ listed.toList.filter (!·) := by simp [List.mem_filter, this]
        have := List.length_pos_of_mem hmem
        omega
    exact ⟨hrd, fin listed a w ψ hle inv hph hrd⟩
  | succ fuel ih =>
    intro listed a w ψ hle inv hph hc
    refine ⟨fun hrd => fin listed a w ψ hle inv hph hrd, fun i hi => ?_⟩
    obtain ⟨h1, o, ho, hedges⟩ := mem_ready.1 hi
    have hol : l[i]? = some o := by simpa using ho
    have hilt : i < l.length := (List.getElem?_eq_some_iff.1 hol).1
    have hisz : i < listed.size := by rw [inv.size]; exact hilt
    have hif : listed.getD i false = false := by simp [Array.getD, hisz] at h1 ⊢; exact h1
    have hcount : ((listed.setIfInBounds i true).toList.filter (!·)).length ≤ fuel := by
      have h2 : listed.toList[i]? = some false := by
        simp [Array.getD, hisz] at h1
        simp [hisz, h1]
      have := count_set listed.toList i h2
      have e : (listed.setIfInBounds i true).toList = listed.toList.set i true := by simp
      rw [e]
      omega
    have goal : (if Region.wanted o (yielded l.toArray a.tmps) = true then o.wp P a w (wpAny P .any l.toArray Q fuel (listed.setIfInBounds i true)) Q else wpAny P .any l.toArray Q fuel (listed.setIfInBounds i true) (a.put o.dst undef) w) := by
      -- the tail's next operation
      have tailstep : ∀ (hT : PhaseT P w₀ l k late ks (gOf h₀ N bl fun _ => true) Vs K listed ψ a w), k ≤ i → (if Region.wanted o (yielded l.toArray a.tmps) = true then o.wp P a w (wpAny P .any l.toArray Q fuel (listed.setIfInBounds i true)) Q else wpAny P .any l.toArray Q fuel (listed.setIfInBounds i true) (a.put o.dst undef) w) := by
        rintro ⟨p, S, g, t1, t2, t3, t4, t5, t6, tk, t7, t8⟩ hki
        have hg := F.tailg i o hki hol
        have hw : Region.wanted o (yielded l.toArray a.tmps) = true := by simp [Region.wanted, hg]
        rw [if_pos hw]
        have hpi : p ≤ i := by
          refine Nat.le_of_not_lt fun hlt => ?_
          rw [(t3 i hki hilt).2 hlt] at hif; cases hif
        have hip : i = p := by
          rcases Nat.eq_or_lt_of_le hpi with e | e
          · exact e.symm
          · exfalso
            have hch := F.chain i (by omega) hilt
            obtain ⟨oi, g1, e', g2, g3, g4⟩ := Region.waitsFor_spec hch
            have g1' : l[i]? = some oi := by simpa using g1
            rw [hol] at g1'
            obtain rfl := Option.some.inj g1'
            have h5 := hedges e' g2 g3
            rw [g4] at h5
            have := (t3 (i - 1) (by omega) (by omega)).1 h5
            omega
        subst hip
        have hdrop : l.drop i = o :: l.drop (i + 1) := by
          rw [List.drop_eq_getElem_cons hilt]
          congr 1
          exact (List.getElem?_eq_some_iff.1 hol).2
        rw [hdrop] at t6
        have t6 := t6.2
        have spec := orderB_spec hB hol
        have hlook : ∀ t, t ∈ QS l o → VR ψ (S.get t) (a.tmps.getD t undef) := by
          intro t ht
          rcases t8 t with ⟨j, oj, c1, c2, c3, c4⟩ | c
          · exfalso
            rcases (spec.2 j oj t c2 c3).2 ht with ⟨d1, d2⟩ | ⟨d1, d2⟩
            · obtain ⟨oi, g1, e', g2, g3, g4⟩ := Region.waitsFor_spec d2
              have g1' : l[i]? = some oi := by simpa using g1
              rw [hol] at g1'
              obtain rfl := Option.some.inj g1'
              have := hedges e' g2 g3
              rw [g4, c4] at this
              cases this
            · omega
          · exact c
        have hs : SRel ψ n (S.keep (QS l o)) a := by
          refine ⟨inv.tsize, inv.defers, fun t => ?_⟩
          rw [Slots.get_keep]
          by_cases ht : (QS l o).contains t = true
          · rw [if_pos ht]; exact hlook t (by simpa using ht)
          · rw [if_neg ht]; trivial
        have t6' := t6
        rw [← eop_congr (s' := S.keep (QS l o)) o.op (ev_mem fun t ht => by unfold QS; exact List.mem_append_left _ ht)] at t6'
        refine eop_ok o t6' t5 hs fun ψ' x h' v w' e1 e2 e3 ⟨ek, e4⟩ => ?_
        refine ih _ _ _ ψ' (PMap.le_trans hle e1) (inv.next hall hB e1 hol hedges fun hik => absurd hik (by omega)) (.inr ⟨i + 1, _, h', by omega, by omega, fun t ht htl => ?_, fun j hj hl => ?_, e2, e4, fun j hj => (ek j hj).trans (tk j hj), fun j oj t hj hoj hd => ?_, fun t => ?_⟩) hcount
        · by_cases e : t = i
          · subst e
            rw [set_self hisz]
            simp
          · rw [XV e, t3 t ht htl]
            omega
        · rw [XV (by omega)]
          exact t4 j hj hl
        · rw [put_get, if_neg fun hod => by have := (spec.2 j oj t hoj hd).1 hod; omega]
          exact t7 j oj t hj hoj hd
        · by_cases hod : o.dst = some t
          · right
            rw [put_get, if_pos hod, put_get_eq a hod (by rw [inv.tsize]; exact nth_lt l i t hall (by rw [nthDst_eq, hol]; exact hod))]
            exact e3
          · rcases t8 t with ⟨j, oj, c1, c2, c3, c4⟩ | c
            · exact .inl ⟨j, oj, c1, c2, c3, by rw [XV (by omega)]; exact c4⟩
            · right
              rw [put_get, if_neg hod, put_get_ne a hod]
              exact VR_mono e1 _ _ c
      rcases hph with hH | hT
      · rcases Nat.lt_or_ge i k with hik | hki
        · -- an operation of the head
          refine hst i o hik hol listed ψ w a _ Q hif hisz hH.2 (inv.looks hB hik hol hif hedges) fun ψ' v w' hle' hh' hv => ?_
          exact ih _ _ _ ψ' (PMap.le_trans hle hle') (inv.next hall hB hle' hol hedges fun _ => hv) (.inl ⟨fun t ht htl => by rw [XV (by omega)]; exact hH.1 t ht htl, hh'⟩) hcount
        · have hik : i = k := by
            rcases Nat.eq_or_lt_of_le hki with e | e
            · exact e.symm
            · exfalso
              have hch := F.chain i e hilt
              obtain ⟨oi, g1, e', g2, g3, g4⟩ := Region.waitsFor_spec hch
              have g1' : l[i]? = some oi := by simpa using g1
              rw [hol] at g1'
              obtain rfl := Option.some.inj g1'
              have h5 := hedges e' g2 g3
              rw [g4, hH.1 (i - 1) (by omega) (by omega)] at h5
              cases h5
          refine tailstep (turn listed a w ψ inv hH fun j hj hl => ?_) hki
          exact head_done F inv (by omega) (fun o' ho' => by
            subst hik
            rw [hol] at ho'
            obtain rfl := Option.some.inj ho'
            exact hedges) (k - j) j (by omega) hj hl
      · rcases Nat.lt_or_ge i k with hik | hki
        · -- a late one
          obtain ⟨p, S, g, t1, t2, t3, t4, t5, t6, tk, t7, t8⟩ := hT
          have hlt : late.contains i = true := by
            cases hc : late.contains i with
            | true => rfl
            | false => rw [t4 i hik hc] at hif; cases hif
          obtain ⟨hg, hhl, hkf⟩ := F.lateo i o hlt hol
          have hw : Region.wanted o (yielded l.toArray a.tmps) = true := by simp [Region.wanted, hg]
          rw [if_pos hw]
          obtain ⟨H, q0, q1, q2⟩ := hlate i o hlt hol
          have hs := inv.looks hB hik hol hif hedges
          have same : pop P w₀ g ((Qv s l Vs i).keep (QS l o)) o.op = pop P w₀ H ((Qv s l Vs i).keep (QS l o)) o.op := by
            rcases hhl with hhl | hhl
            · exact pop_heapless hhl
            · cases hop : o.op with
              | load ty x =>
                rw [hop] at q1
                refine load_same ?_ q1
                have hev : ev ((Qv s l Vs i).keep (QS l o)) x = ev (Qv s l Vs k) x := by
                  rw [ev_keep (Xz (by rw [hop]; simp [Op.operands]))]
                  cases x with
                  | tmp t =>
                    have htl : t ∈ QS l o := Xz (x := .tmp t) (by rw [hop]; simp [Op.operands]) t rfl
                    simp only [ev]
                    have noW : ∀ m, i ≤ m → m ≤ k → (Qv s l Vs m).get t = (Qv s l Vs i).get t := by
                      intro m
                      induction m with
                      | zero => intro h1 _; rw [Nat.le_zero.1 h1]
                      | succ m ihm =>
                        intro h1 h2
                        rcases Nat.eq_or_lt_of_le h1 with e | e
                        · rw [e]
                        · rw [Qv]
                          cases hm : l[m]? with
                          | none => exact ihm (by omega) (by omega)
                          | some om =>
                            simp only
                            rw [put_get, if_neg fun hd => ?_]
                            · exact ihm (by omega) (by omega)
                            · rcases Nat.eq_or_lt_of_le (show i ≤ m by omega) with e' | e'
                              · subst e'
                                rw [hol] at hm
                                obtain rfl := Option.some.inj hm
                                rcases ((orderB_spec hB hol).2 i o t hol hd).2 htl with ⟨c, _⟩ | ⟨c, _⟩ <;> omega
                              · exact F.latew i o hlt hol m om t e' (by omega) hm hd htl
                    exact (noW k (by omega) (Nat.le_refl _)).symm
                  | _ => rfl
                rcases lateOK_mem hlo i (by simpa using hlt) o ty x hol hop with ⟨j, pp, c1, c2⟩ | ⟨b, pp, c1⟩
                · exact .inl ⟨j, pp, by rw [hev]; exact c1, fun b hb => by rw [tk j c2]; exact q0 j b hb⟩
                · exact .inr ⟨b, pp, by rw [hev]; exact c1⟩
              | _ => rw [hop] at hhl; cases hhl
          rw [← same] at q1 q2
          obtain ⟨r, e1, e2⟩ := pop_ok o q1 t5 hs
          rw [← q2] at e2
          refine XU (e1 w (Same.refl w)) ?_
          refine ih _ _ _ ψ hle (inv.next hall hB ψ.le_refl hol hedges fun _ => e2) (.inr ⟨p, S, g, t1, t2, fun t ht htl => ?_, fun j hj hl => ?_, t5, t6, tk, t7, fun t => ?_⟩) hcount
          · rw [XV (by omega)]; exact t3 t ht htl
          · by_cases e : j = i
            · subst e; exact set_self hisz
            · rw [XV e]; exact t4 j hj hl
          · by_cases hod : o.dst = some t
            · right
              rw [t7 i o t hik hol hod, put_get_eq a hod (by rw [inv.tsize]; exact nth_lt l i t hall (by rw [nthDst_eq, hol]; exact hod))]
              exact e2
            · rcases t8 t with ⟨j, oj, c1, c2, c3, c4⟩ | c
              · refine .inl ⟨j, oj, c1, c2, c3, ?_⟩
                have e : j ≠ i := fun e => by subst e; rw [hol] at c2; obtain rfl := Option.some.inj c2; exact hod c3
                rw [XV e]; exact c4
              · right
                rw [put_get_ne a hod]
                exact c
        · exact tailstep hT hki
    simp only [wpOp, ho]
    split
    · rename_i hw
      rw [if_pos hw] at goal
      exact .inl goal
    · rename_i hw
      rw [if_neg hw] at goal
      exact goal

/-- A statement of open order: operations that read, call or lay blocks, in any order; late ones that only look at slots; a chained tail. -/
theorem awp_draw_G {Q : Exit → Slots → AHeap → Prop} {s : Slots} {h : AHeap} {id : Nat} {l : List Oper} (k : Nat) (late ks : List Nat) (hm : P.follows .mixedOrders = true) (hB : floatB P l k late = true) (hd : Xt n l = true)
    (hc : fOps P w₀ l h (l.take k) s h (fun s' h' => lateOK l ks s' late ∧ kOps P w₀ ks (l.drop k) s' h' fun s'' h'' => Q .normal s'' h'')) : Awp P w₀ n (.region id l.toArray true) Q s h := by
  intro φ a w hr hs
  have F := floatB_spec hB
  obtain ⟨N₀, hN₀⟩ := hr.fin
  obtain ⟨N, hN1, hNt⟩ := tyOf_run N₀ l.length
  have hNφ : ∀ j, N ≤ j → φ j = none := fun j hj => hN₀ j (Nat.le_trans hN1 hj)
  have hN : ∀ j, N ≤ j → h j = none := fun j hj => hr.free (hNφ j hj)
  have hg0 : gOf h N [] (fun _ => true) = h := by
    funext j
    simp only [gOf, cond_true]
    by_cases c : N ≤ j
    · rw [if_pos c, hN j c]; rfl
    · rw [if_neg c]
  have htl : (l.take k).length = k := by have := F.kle; simp; omega
  obtain ⟨Vs, bl, g1, g2, g3, g4⟩ := fOps_steps (P := P) (w₀ := w₀) (n := n) (h₀ := h) hd hN hNt (l.drop k) (s := s) (l.take k) [] [] [] (by simp) rfl rfl (by rw [hg0]; exact hc)
  simp only [List.nil_append, List.length_nil, Nat.zero_le, true_implies, Nat.zero_add, htl] at g1 g2 g3 g4
  refine wp_region_any hm ?_
  have hf : ∀ j, (Array.replicate l.toArray.size false).getD j false = false := fun j => by simp [Array.getD]
  refine any_okF (φ := φ) hd F (s := s) (Vs := Vs) (N := N) (bl := bl) g2 (fun i o hi ho => (g3 i o hi ho).2.1) (fun i hl => ?_) g4.1 (fun i o hl ho => ?_) g4.2 (fun ψ S g a' w' hle h1 h2 h3 => ⟨ψ, S, g, hle, h1, h2, h3⟩) _ _ _ _ φ φ.le_refl
    ⟨by simp, fun j oj _ hl => (by rw [hf] at hl; cases hl), hs.size, hs.defers, fun t j oj _ _ _ hl => (by rw [hf] at hl; cases hl), fun t _ => hs.val t⟩ (.inl ⟨fun t _ _ => hf t, ?_, fun i hi _ => hNφ _ (by omega)⟩) ?_
  · obtain ⟨o, ho⟩ : ∃ o, l[i]? = some o := ⟨_, List.getElem?_eq_getElem (by have := F.latek i hl; have := F.kle; omega)⟩
    obtain ⟨_, _, q3⟩ := F.lateo i o hl ho
    exact ((g3 i o (F.latek i hl) ho).2.2 q3).1
  · obtain ⟨q1, q2, q3⟩ := F.lateo i o hl ho
    exact ((g3 i o (F.latek i hl) ho).2.2 q3).2 q1
  · have e : (gOf h N bl fun i => (Array.replicate l.toArray.size false).getD i false) = h := by
      funext j
      simp only [gOf, hf, cond_false]
      by_cases c : N ≤ j
      · rw [if_pos c, hN j c]
      · rw [if_neg c]
    rw [e]
    exact hr.drew
  · have := List.length_filter_le (!·) (Array.replicate l.toArray.size false).toList
    simpa using this

theorem awp_dseq_G {Q : Exit → Slots → AHeap → Prop} {s : Slots} {h : AHeap} {id : Nat} {l : List Oper} {y : Code} (k : Nat) (late ks L : List Nat) (hm : P.follows .mixedOrders = true) (hB : floatB P l k late = true) (hd : Xt n l = true)
    (hc : ∀ K : Slots → AHeap → Prop, (∀ s h, Awp P w₀ n y Q s h → K s h) → fOps P w₀ l h (l.take k) s h (fun s' h' => lateOK l ks s' late ∧ kOps P w₀ ks (l.drop k) s' h' fun s'' h'' => K (s''.keep L) h'')) : Awp P w₀ n (.seq (.region id l.toArray true) y) Q s h :=
  qN (awp_draw_G k late ks hm hB hd (fOps_mono (fun _ _ ha => ⟨ha.1, kOps_mono (fun _ _ hk => Awp.keep L hk) ha.2⟩) (hc (fun s h => Awp P w₀ n y Q s h) (fun _ _ hk => hk))))

/-- No late loads. -/
def heaplessB (l : List Oper) (late : List Nat) : Bool := late.all fun i => match l[i]? with | some o => !isLoad o.op | none => true
theorem lateOK_heapless {l : List Oper} {s : Slots} : ∀ {late : List Nat}, heaplessB l late = true → lateOK l [] s late
  | [], _ => trivial
  | i :: r, h => by
    unfold heaplessB at h
    simp only [List.all_cons, Bool.and_eq_true] at h
    refine ⟨?_, lateOK_heapless h.2⟩
    cases hi : l[i]? with
    | none => trivial
    | some o =>
      simp only
      have h1 := h.1
      rw [hi] at h1
      simp only [Bool.not_eq_true'] at h1
      cases hop : o.op <;> first | trivial | (rw [hop] at h1; cases h1)

theorem awp_draw_F {Q : Exit → Slots → AHeap → Prop} {s : Slots} {h : AHeap} {id : Nat} {l : List Oper} (k : Nat) (late : List Nat) (hm : P.follows .mixedOrders = true) (hB : (floatB P l k late && heaplessB l late) = true) (hd : Xt n l = true)
    (hc : fOps P w₀ l h (l.take k) s h (fun s' h' => QO P w₀ l (l.drop k) s' h' fun s'' h'' => Q .normal s'' h'')) : Awp P w₀ n (.region id l.toArray true) Q s h := by
  rw [Bool.and_eq_true] at hB
  have F := floatB_spec hB.1
  refine awp_draw_G k late [] hm hB.1 hd (fOps_mono (fun s' h' ha => ⟨lateOK_heapless hB.2, kOps_of_aOps (fun o ho => ?_) ha⟩) hc)
  obtain ⟨j, hj⟩ := List.getElem?_of_mem ho
  rw [List.getElem?_drop] at hj
  exact F.tailg (k + j) o (by omega) hj

theorem awp_dseq_F {Q : Exit → Slots → AHeap → Prop} {s : Slots} {h : AHeap} {id : Nat} {l : List Oper} {y : Code} (k : Nat) (late L : List Nat) (hm : P.follows .mixedOrders = true) (hB : (floatB P l k late && heaplessB l late) = true) (hd : Xt n l = true)
    (hc : ∀ K : Slots → AHeap → Prop, (∀ s h, Awp P w₀ n y Q s h → K s h) → fOps P w₀ l h (l.take k) s h (fun s' h' => QO P w₀ l (l.drop k) s' h' fun s'' h'' => K (s''.keep L) h'')) : Awp P w₀ n (.seq (.region id l.toArray true) y) Q s h :=
  qN (awp_draw_F k late hm hB hd (fOps_mono (fun _ _ ha => awp_rseq.aOps_mono (fun _ _ hk => Awp.keep L hk) ha) (hc (fun s h => Awp P w₀ n y Q s h) (fun _ _ hk => hk))))
end
end Go.AM

/-
  An assertion layer over the model's wp, part U: rewriting lemmas for the heads of statements of open order.
  Conditions: none. Nothing here is about a particular program.
-/
namespace Go.AM
open Go.RowKit (Below)
section
variable {P : Program} {w₀ : World} {ops rest : List Oper} {s : Slots} {h h₀ : AHeap} {K : Slots → AHeap → Prop} {dst : Option Tmp} {ty : TypeId} {pos : String} {af : Array Edge}

theorem fOps_nil : fOps P w₀ ops h₀ [] s h K = K s h := rfl
theorem fp_of {op : Op} (hk : kindF P op = 2) : fOps P w₀ ops h₀ (⟨dst, op, ty, pos, af, none⟩ :: rest) s h K = ((pop P w₀ h s op).pre ∧ fOps P w₀ ops h₀ rest (putD s dst (pop P w₀ h s op).val) h K) := by
  have e : pop P w₀ h (s.keep (QS ops ⟨dst, op, ty, pos, af, none⟩)) op = pop P w₀ h s op := pop_congr op (ev_mem fun t ht => by unfold QS; exact List.mem_append_left _ ht)
  have h0 : ¬ kindF P op = 0 := by omega
  simp only [fOps, if_neg h0, stepF, if_pos hk, e]
  exact propext ⟨fun ⟨V, ⟨h1, h2⟩, h3⟩ => ⟨h1, h2 ▸ h3⟩, fun ⟨h1, h2⟩ => ⟨_, ⟨h1, rfl⟩, h2⟩⟩
def fgP (P : Program) (w₀ : World) (ops rest : List Oper) (h₀ : AHeap) (s : Slots) (h : AHeap) (K : Slots → AHeap → Prop) (dst : Option Tmp) (g : AVal) (want : Bool) (r : PR) : Prop :=
  gKnown g = true ∧ (Xg g want = true → r.pre) ∧ fOps P w₀ ops h₀ rest (putD s dst (Qu (Xg g want) r.val)) h K
def fgQ (P : Program) (w₀ : World) (ops rest : List Oper) (h₀ : AHeap) (s : Slots) (h : AHeap) (K : Slots → AHeap → Prop) (dst : Option Tmp) (want : Bool) (r : PR) : Option Tmp → Prop
  | none => fOps P w₀ ops h₀ rest (putD s dst (.tuple [])) h K
  | some d => fgP P w₀ ops rest h₀ s h K dst (s.get d) want r
theorem fgQ_some {want : Bool} {r : PR} {d : Tmp} : fgQ P w₀ ops rest h₀ s h K dst want r (some d) = fgP P w₀ ops rest h₀ s h K dst (s.get d) want r := rfl
theorem fg_of {op : Op} {j : Nat} {want : Bool} (hk : kindF P op = 2) : fOps P w₀ ops h₀ (⟨dst, op, ty, pos, af, some (j, want)⟩ :: rest) s h K = fgQ P w₀ ops rest h₀ s h K dst want (pop P w₀ h s op) (qI ops j) := by
  have e : pop P w₀ h (s.keep (QS ops ⟨dst, op, ty, pos, af, some (j, want)⟩)) op = pop P w₀ h s op := pop_congr op (ev_mem fun t ht => by unfold QS; exact List.mem_append_left _ ht)
  have h0 : ¬ kindF P op = 0 := by omega
  simp only [fOps, if_neg h0]
  cases qI ops j with
  | none => rfl
  | some d =>
    simp only [fgQ, fgP, stepF, if_pos hk, e]
    refine propext ⟨fun ⟨g0, V, g1, g2⟩ => ?_, fun ⟨g0, g1, g2⟩ => ⟨g0, _, fun hg => ⟨g1 hg, rfl⟩, g2⟩⟩
    cases hg : Xg (s.get d) want with
    | false =>
      rw [hg] at g2
      exact ⟨g0, fun e => (by cases e), g2⟩
    | true =>
      obtain ⟨c1, c2⟩ := g1 hg
      subst c2
      rw [hg] at g2
      exact ⟨g0, fun _ => c1, g2⟩
theorem fp_move (x : Operand) : fOps P w₀ ops h₀ (⟨dst, .move x, ty, pos, af, none⟩ :: rest) s h K = ((pop P w₀ h s (.move x)).pre ∧ fOps P w₀ ops h₀ rest (putD s dst (pop P w₀ h s (.move x)).val) h K) := fp_of (by rfl)
theorem fg_move (x : Operand) {j : Nat} {want : Bool} : fOps P w₀ ops h₀ (⟨dst, .move x, ty, pos, af, some (j, want)⟩ :: rest) s h K = fgQ P w₀ ops rest h₀ s h K dst want (pop P w₀ h s (.move x)) (qI ops j) := fg_of (by rfl)
theorem fp_pick (c a b : Operand) : fOps P w₀ ops h₀ (⟨dst, .pick c a b, ty, pos, af, none⟩ :: rest) s h K = ((pop P w₀ h s (.pick c a b)).pre ∧ fOps P w₀ ops h₀ rest (putD s dst (pop P w₀ h s (.pick c a b)).val) h K) := fp_of (by rfl)
theorem fp_binOp (o : BinOp) (t : TypeId) (x y : Operand) (u : TypeId) : fOps P w₀ ops h₀ (⟨dst, .binOp o t x y u, ty, pos, af, none⟩ :: rest) s h K = ((pop P w₀ h s (.binOp o t x y u)).pre ∧ fOps P w₀ ops h₀ rest (putD s dst (pop P w₀ h s (.binOp o t x y u)).val) h K) := fp_of (by rfl)
theorem fg_binOp (o : BinOp) (t : TypeId) (x y : Operand) (u : TypeId) {j : Nat} {want : Bool} : fOps P w₀ ops h₀ (⟨dst, .binOp o t x y u, ty, pos, af, some (j, want)⟩ :: rest) s h K = fgQ P w₀ ops rest h₀ s h K dst want (pop P w₀ h s (.binOp o t x y u)) (qI ops j) := fg_of (by rfl)
theorem fp_load (t : TypeId) (x : Operand) : fOps P w₀ ops h₀ (⟨dst, .load t x, ty, pos, af, none⟩ :: rest) s h K = ((pop P w₀ h s (.load t x)).pre ∧ fOps P w₀ ops h₀ rest (putD s dst (pop P w₀ h s (.load t x)).val) h K) := fp_of (by rfl)
theorem fp_fieldAddr (t : TypeId) (x : Operand) (f : Nat) : fOps P w₀ ops h₀ (⟨dst, .fieldAddr t x f, ty, pos, af, none⟩ :: rest) s h K = ((pop P w₀ h s (.fieldAddr t x f)).pre ∧ fOps P w₀ ops h₀ rest (putD s dst (pop P w₀ h s (.fieldAddr t x f)).val) h K) := fp_of (by rfl)
theorem fp_indexAddr (t : TypeId) (x i : Operand) : fOps P w₀ ops h₀ (⟨dst, .indexAddr t x i, ty, pos, af, none⟩ :: rest) s h K = ((pop P w₀ h s (.indexAddr t x i)).pre ∧ fOps P w₀ ops h₀ rest (putD s dst (pop P w₀ h s (.indexAddr t x i)).val) h K) := fp_of (by rfl)
theorem fp_extract (x : Operand) (i : Nat) : fOps P w₀ ops h₀ (⟨dst, .extract x i, ty, pos, af, none⟩ :: rest) s h K = ((pop P w₀ h s (.extract x i)).pre ∧ fOps P w₀ ops h₀ rest (putD s dst (pop P w₀ h s (.extract x i)).val) h K) := fp_of (by rfl)
theorem fp_nilCheck (x : Operand) : fOps P w₀ ops h₀ (⟨dst, .nilCheck x, ty, pos, af, none⟩ :: rest) s h K = ((pop P w₀ h s (.nilCheck x)).pre ∧ fOps P w₀ ops h₀ rest (putD s dst (pop P w₀ h s (.nilCheck x)).val) h K) := fp_of (by rfl)
theorem fp_len (a : List Operand) (t : Array TypeId) : fOps P w₀ ops h₀ (⟨dst, .call ⟨.builtin .len, a.toArray, t⟩, ty, pos, af, none⟩ :: rest) s h K = ((pop P w₀ h s (.call ⟨.builtin .len, a.toArray, t⟩)).pre ∧ fOps P w₀ ops h₀ rest (putD s dst (pop P w₀ h s (.call ⟨.builtin .len, a.toArray, t⟩)).val) h K) := fp_of (by rfl)
theorem fp_slice (t : TypeId) (x : Operand) (a b c : Option Operand) : fOps P w₀ ops h₀ (⟨dst, .slice t x a b c, ty, pos, af, none⟩ :: rest) s h K = ((pop P w₀ h s (.slice t x a b c)).pre ∧ fOps P w₀ ops h₀ rest (putD s dst (pop P w₀ h s (.slice t x a b c)).val) h K) := fp_of (by rfl)
theorem fp_build (t : TypeId) (ps : List (Nat × Operand)) : fOps P w₀ ops h₀ (⟨dst, .build t ps.toArray, ty, pos, af, none⟩ :: rest) s h K = ((pop P w₀ h s (.build t ps.toArray)).pre ∧ fOps P w₀ ops h₀ rest (putD s dst (pop P w₀ h s (.build t ps.toArray)).val) h K) := fp_of (by rfl)
/-- A block is laid. -/
theorem fOps_lay {op : Op} (hk : kindF P op = 0) (he : QO P w₀ ops [⟨dst, op, ty, pos, af, none⟩] s h (fun s' h' => fOps P w₀ ops h₀ rest s' h' K)) : fOps P w₀ ops h₀ (⟨dst, op, ty, pos, af, none⟩ :: rest) s h K := by
  simp only [QO] at he
  simp only [fOps, if_pos hk]
  refine ⟨trivial, ?_⟩
  rw [eop_congr op (ev_mem fun t ht => by unfold QS; exact List.mem_append_left _ ht)]
  exact he
/-- A call whose answer is one value and that leaves the heap. -/
theorem fOps_callV {fo : Operand} {args : List Operand} {ts : Array TypeId} {f : FuncId} {cap xs : List AVal} {V : AVal} (hf : ev s fo = .func f cap) (hx : evs s args ++ cap = xs) (hV : V.okIn (fun k => (h₀ k).isSome)) (hc : ∀ g, Sub h₀ g → ACall P w₀ f xs g (fun x h' => x = V ∧ h' = g))
    (hk : fOps P w₀ ops h₀ rest (putD s dst V) h K) : fOps P w₀ ops h₀ (⟨dst, .call ⟨.value fo, args.toArray, ts⟩, ty, pos, af, none⟩ :: rest) s h K := by
  have h0 : ¬ kindF P (.call ⟨.value fo, args.toArray, ts⟩) = 0 := by simp [kindF]
  simp only [fOps, if_neg h0]
  refine ⟨V, ?_, hk⟩
  have h2 : ¬ kindF P (.call ⟨.value fo, args.toArray, ts⟩) = 2 := by simp [kindF]
  rw [stepF, if_neg h2]
  refine ⟨rfl, hV, fun g hg => ?_⟩
  rw [eop_congr _ (ev_mem fun t ht => by unfold QS; exact List.mem_append_left _ ht)]
  simp only [eop, hf, hx]
  exact hc g hg
theorem fOps_gcall {fo : Operand} {args : List Operand} {ts : Array TypeId} {j : Nat} {want : Bool} {f : FuncId} {cap xs : List AVal} {V : AVal} (hk : gKnown (gv s ops j) = true)
    (hf : Xg (gv s ops j) want = true → ev s fo = .func f cap ∧ evs s args ++ cap = xs) (hV : V.okIn (fun k => (h₀ k).isSome)) (hc : Xg (gv s ops j) want = true → ∀ g, Sub h₀ g → ACall P w₀ f xs g (fun x h' => x = V ∧ h' = g))
    (hr : fOps P w₀ ops h₀ rest (putD s dst (Qu (Xg (gv s ops j) want) V)) h K) :
    fOps P w₀ ops h₀ (⟨dst, .call ⟨.value fo, args.toArray, ts⟩, ty, pos, af, some (j, want)⟩ :: rest) s h K := by
  unfold gv at hk hf hc hr
  have h0 : ¬ kindF P (.call ⟨.value fo, args.toArray, ts⟩) = 0 := by simp [kindF]
  have h2 : ¬ kindF P (.call ⟨.value fo, args.toArray, ts⟩) = 2 := by simp [kindF]
  simp only [fOps, if_neg h0]
  cases hj : qI ops j with
  | none => rw [hj] at hk; cases hk
  | some d =>
    simp only [hj] at hk hf hc hr ⊢
    refine ⟨hk, V, fun hg => ?_, hr⟩
    rw [stepF, if_neg h2]
    refine ⟨rfl, hV, fun g hsub => ?_⟩
    rw [eop_congr _ (ev_mem fun t ht => by unfold QS; exact List.mem_append_left _ ht)]
    simp only [eop, (hf hg).1, (hf hg).2]
    exact hc hg g hsub
theorem kOps_nil {ks : List Nat} : kOps P w₀ ks [] s h K = K s h := rfl
/-- One operation of a tail that leaves blocks. -/
theorem kOps_step {ks : List Nat} {op : Op} (ha : QO P w₀ [] [⟨dst, op, ty, pos, af, none⟩] s h (fun s' h' => (∀ k ∈ ks, h' k = h k) ∧ kOps P w₀ ks rest s' h' K)) : kOps P w₀ ks (⟨dst, op, ty, pos, af, none⟩ :: rest) s h K := by
  simp only [QO] at ha
  exact ⟨rfl, ha⟩
theorem kp_of {ks : List Nat} {op : Op} (hp : Zf P op = true) : kOps P w₀ ks (⟨dst, op, ty, pos, af, none⟩ :: rest) s h K = ((pop P w₀ h s op).pre ∧ kOps P w₀ ks rest (putD s dst (pop P w₀ h s op).val) h K) := by
  refine propext ⟨fun ⟨_, h1⟩ => ?_, fun ⟨h1, h2⟩ => ⟨rfl, (eop_pure hp).2 ⟨h1, fun _ _ => rfl, h2⟩⟩⟩
  obtain ⟨g1, _, g2⟩ := (eop_pure hp).1 h1
  exact ⟨g1, g2⟩
theorem kp_fieldAddr {ks : List Nat} (t : TypeId) (x : Operand) (f : Nat) : kOps P w₀ ks (⟨dst, .fieldAddr t x f, ty, pos, af, none⟩ :: rest) s h K = ((pop P w₀ h s (.fieldAddr t x f)).pre ∧ kOps P w₀ ks rest (putD s dst (pop P w₀ h s (.fieldAddr t x f)).val) h K) := kp_of rfl
end
end Go.AM

/-
  An assertion layer over the model's wp, part V: heaps that are chains of blocks; slices whose elements are rows of cells.
  Conditions: none. Nothing here is about a particular program.
-/
namespace Go.AM
open Go.RowKit (Below)

theorem AHeap.set_none (h : AHeap) (k j : Nat) (b : Blk) : ((h.set k b) j = none) = (j ≠ k ∧ k ≠ j ∧ h j = none) := by
  refine propext ⟨fun e => ?_, fun ⟨e1, _, e2⟩ => by rw [AHeap.set_ne _ _ e1]; exact e2⟩
  have hne : j ≠ k := fun e' => by subst e'; rw [AHeap.set_same] at e; cases e
  exact ⟨hne, Ne.symm hne, by rwa [AHeap.set_ne _ _ hne] at e⟩
theorem XG (w₀ : World) (h : AHeap) {j k : Nat} (hj : j ≠ k) (b : Blk) (o : Nat) : rd w₀ (h.set k b) (.own j) o = rd w₀ h (.own j) o := rd_ne w₀ h b hj o
theorem Sub.set_both {h h' : AHeap} (hs : Sub h h') (k : Nat) (b : Blk) : Sub (h.set k b) (h'.set k b) := fun j c e => by
  by_cases ej : j = k
  · subst ej; rw [AHeap.set_same] at e ⊢; exact e
  · rw [AHeap.set_ne _ _ ej] at e ⊢; exact hs j c e
theorem qC (b : Bool) : (AVal.bool b).live = true := rfl
theorem qj (k : IntKind) (n : Int) : (AVal.int k n).live = true := rfl
theorem qE (s : List UInt8) : (AVal.str s).live = true := rfl
theorem lv_nilSlice : AVal.nilSlice.live = true := rfl
theorem lv_slice (l : Loc) (o n : Nat) (c : Cap) : (AVal.slice l o n c).live = true := rfl
section
variable {P : Program} {w₀ : World} {s : Slots} {h : AHeap}
end

section
variable {P : Program}
theorem pSliceS_0i {t : TypeId} (ht : P.underlying t = some .string) (s : List UInt8) (k : IntKind) (b : Int) : pSlice P t (.str s) none (some (.int k b)) none = pSliceS s (bndA none 0) (bndA (some (.int k b)) s.length) := pSliceS_str ht s _ _
theorem pSliceS_i0 {t : TypeId} (ht : P.underlying t = some .string) (s : List UInt8) (k : IntKind) (b : Int) : pSlice P t (.str s) (some (.int k b)) none none = pSliceS s (bndA (some (.int k b)) 0) (bndA none s.length) := pSliceS_str ht s _ _
theorem pSliceS_ii {t : TypeId} (ht : P.underlying t = some .string) (s : List UInt8) (k k' : IntKind) (a b : Int) : pSlice P t (.str s) (some (.int k a)) (some (.int k' b)) none = pSliceS s (bndA (some (.int k a)) 0) (bndA (some (.int k' b)) s.length) := pSliceS_str ht s _ _
end
end Go.AM

/-
  An assertion layer over the model's wp, part W: names that promise a type; strings.Builder as a block of the call's own.
  Conditions: none. Nothing here is about a particular program.
-/
namespace Go.AM
open Go.RowKit (Below)

/-- A variable is laid under a name that promises its type. -/
theorem awp_aseqT {P : Program} {w₀ : World} {n : Nat} {s : Slots} {h : AHeap} {Q : Exit → Slots → AHeap → Prop} {id : Nat} {d : Tmp} {e : TypeId} {z : Value} {cs : List AVal} {ty : TypeId} {pos : String} {af : Array Edge} {y : Code} (L : List Nat)
    (hd : d < n) (he : e < 4096) (hz : zeOf P e = some z) (hc : z.cells.toList.map qH = cs)
    (hk : ∀ k, h k = none → tyOf k = some e → Awp P w₀ n y Q ((s.put d (.ptr (.own k) 0)).keep L) (h.set k ⟨cs, 0⟩)) :
    Awp P w₀ n (.seq (.region id [⟨some d, .alloc e, ty, pos, af, none⟩].toArray false) y) Q s h :=
  qN fun φ a w hr hs => wp_region (by
    obtain ⟨k, hk0, hφ, hke, hkt⟩ := hr.freshE e
    obtain ⟨e1, e2⟩ := hr.alloc k hk0 hφ (z.cells.toList.map qH) z.cells e 0 0 (by rw [List.length_map, List.take_length]; exact VRs_absS φ z.cells.toList) no_frz hkt
    have hw : Region.wanted (⟨some d, .alloc e, ty, pos, af, none⟩ : Oper) (yielded #[⟨some d, .alloc e, ty, pos, af, none⟩] a.tmps) = true := by simp [Region.wanted]
    simp only [List.size_toArray, List.length_singleton, List.range_succ, List.range_zero, List.nil_append, wpOps, List.getElem?_toArray, List.getElem?_cons_zero]
    rw [if_pos hw]
    refine .inl (XU (v := .pointer (some ⟨w.heap.size, 0, none⟩)) (w' := w.alloc (.cells z.cells e)) ?_ ?_)
    · simp [execOp, Instr.alloc, run_zero' hz, newVar, newRow]
    · refine ⟨_, _, _, e1, e2, (hs.mono e1).put d hd (VR_new _ _ _), ?_⟩
      rw [hc]
      exact Awp.keep L (hk k hk0 (hke he)))

/-- A row turns that is then forgotten. -/
theorem HRel.dropRow {w₀ w w' : World} {φ : PMap} {h h' : AHeap} (hr : HRel w₀ φ h w) {k : Nat} {b : Blk} {p : Place} (hk : h k = some b) (hp : φ k = some p)
    (hsize : w'.heap.size = w.heap.size) (hos : w'.os = w.os) (htape : w'.tape = w.tape) (hout : w'.output = w.output)
    (hother : ∀ i, i ≠ p.blk → w'.heap[i]? = w.heap[i]?) (hty : ∀ cs e fr, w.heap[p.blk]? = some (.cells cs e fr) → ∃ cs' fr', w'.heap[p.blk]? = some (.cells cs' e fr'))
    (hs : ∀ j c, h' j = some c → h j = some c ∧ j ≠ k) : HRel w₀ φ h' w' := by
  obtain ⟨q, hq, hq1, hq2⟩ := hr.own k b hk
  have hpq : q = p := by rw [hp] at hq; exact (Option.some.inj hq).symm
  subst hpq
  refine ⟨⟨hos.trans hr.below.os, htape.trans hr.below.tape, hout.trans hr.below.output, by rw [hsize]; exact hr.below.size, fun i hi => ?_⟩, fun j c hj => ?_, fun j j' b1 b2 p1 p2 h1 h2 f1 f2 e => ?_, fun j r hj => by rw [hsize]; exact hr.lt j r hj, hr.fin, fun j r hj t ht => ?_⟩
  · rw [hother i (by omega)]
    exact hr.below.block i hi
  · obtain ⟨h1, h2⟩ := hs j c hj
    obtain ⟨r, hr0, hr1, hr2⟩ := hr.own j c h1
    exact ⟨r, hr0, hr1, hr2.world (hother _ fun e' => h2 (hr.inj j k c b r q h1 hk hr0 hp e'))⟩
  · exact hr.inj j j' b1 b2 p1 p2 (hs j b1 h1).1 (hs j' b2 h2).1 f1 f2 e
  · obtain ⟨h0, cs, fr, hcs⟩ := hr.typ j r hj t ht
    refine ⟨h0, ?_⟩
    by_cases e : r.blk = q.blk
    · rw [e] at hcs ⊢
      exact hty cs t fr hcs
    · exact ⟨cs, fr, by rw [hother _ e]; exact hcs⟩

theorem freeze_facts (w : World) (a : Addr) (n : Nat) : (w.freeze a n).heap.size = w.heap.size ∧ (w.freeze a n).os = w.os ∧ (w.freeze a n).tape = w.tape ∧ (w.freeze a n).output = w.output ∧
    (∀ i, i ≠ a.block → (w.freeze a n).heap[i]? = w.heap[i]?) ∧ (∀ cs e fr, w.heap[a.block]? = some (.cells cs e fr) → ∃ cs' fr', (w.freeze a n).heap[a.block]? = some (.cells cs' e fr')) := by
  unfold World.freeze
  split
  · exact ⟨rfl, rfl, rfl, rfl, fun _ _ => rfl, fun cs e fr h => ⟨cs, fr, h⟩⟩
  · refine ⟨by simp, rfl, rfl, rfl, fun i hi => by simp [Array.getElem?_modify, Ne.symm hi], fun cs e fr h => ?_⟩
    obtain ⟨lo, hi⟩ := fr
    refine ⟨cs, if lo == hi then (a.off, a.off + n) else (min lo a.off, max hi (a.off + n)), ?_⟩
    simp only [Array.getElem?_modify, if_true, h, Option.map_some]

theorem HRel.setCell {w₀ w : World} {φ : PMap} {h : AHeap} (hr : HRel w₀ φ h w) {k : Nat} {b : Blk} {p : Place} (hk : h k = some b) (hp : φ k = some p) {o : Nat} {x : AVal} {v : Value}
    (hx : VR φ x v) (hs : x.scal = true) (hfit : o < b.cells.length) (hfrz : b.frz ≤ o) : HRel w₀ φ (h.set k ⟨b.cells.set o x, b.frz⟩) (w.setCell ⟨p.blk, p.off + o, none⟩ v) := by
  obtain ⟨q, hq, hq1, ok⟩ := hr.own k b hk
  have hpq : q = p := by rw [hp] at hq; exact (Option.some.inj hq).symm
  subst hpq
  obtain ⟨cs, e, lo, hi, h1, h2, h3, h4, h5, h6⟩ := ok.row
  have hgl : q.blk < w.heap.size := hr.lt k q hp
  rw [setCell_putRow w q.blk (q.off + o) cs e (lo, hi) h1 v]
  refine hr.write k b _ q hk hp (by simp [AM.World.putRow]) rfl rfl rfl (fun i hi => putRow_other w _ _ _ _ i hi) (fun cs' e' fr' h' => by rw [h1] at h'; cases h'; exact ⟨_, _, putRow_get w _ _ _ _ hgl⟩) ?_
  refine ⟨cs.setIfInBounds (q.off + o) v, e, lo, hi, putRow_get w _ _ _ _ hgl, by simp [h2], by simp [h3], by simp [h4], ?_, ?_⟩
  · have := take_drop_setAt cs.toList q.off b.cells.length o [v] (by simp; omega)
    simp only [setAt] at this
    simp only [Array.toList_setIfInBounds, List.length_set]
    rw [this]
    exact VRs_set h5 o hx
  · refine ⟨h6.1, fun i hi1 hi2 => ?_⟩
    have := h6.2 i hi1 hi2
    simpa using this

/-- What is laid out first in one variable is so in any number of them. -/
theorem liesAt_first {P : Program} {T U : TypeId} (h : liesAt P P.depth T 1 0 U 1 = true) (hU : ∀ m u, P.underlying U ≠ some (.array m u)) {c : Nat} (hc : 1 ≤ c) : liesAt P P.depth T c 0 U 1 = true := by
  have noarr : ∀ (d c' : Nat), liesAt P (d + 1) T c' 0 U 1 = rowAt P (sameLayout P P.depth · U) P.depth T c' 0 1 := fun d c' => by
    unfold liesAt
    cases e : P.underlying U with
    | none => simp
    | some t => cases t <;> first | exact absurd e (hU _ _) | simp
  cases hd : P.depth with
  | zero => rw [hd] at h; simp [liesAt] at h
  | succ d =>
    rw [hd] at h
    rw [noarr d] at h ⊢
    rw [hd] at h ⊢
    unfold rowAt at h ⊢
    simp only at h ⊢
    split at h
    · cases h
    · rename_i hs
      rw [if_neg hs]
      simp only [Nat.zero_div, Nat.zero_mod, Nat.zero_add, beq_self_eq_true, Bool.true_and, Nat.le_refl, decide_true, Nat.lt_add_one, show (0 : Nat) < 1 from Nat.one_pos] at h ⊢
      rw [decide_eq_true hc, decide_eq_true (show 0 < c by omega), Bool.true_and, Bool.true_and]
      exact h

/-! ### A builder: two cells at the head of a block -/
structure Bld where
  used : Bool
  buf : Option (Nat × List UInt8)
def Bld.bytes (b : Bld) : List UInt8 := match b.buf with | none => [] | some (_, l) => l
def Bld.head (b : Bld) (k : Nat) : AVal := if b.used = true then .ptr (.own k) 0 else .nilPtr
def Bld.slice (b : Bld) : AVal := match b.buf with | none => .nilSlice | some (kb, l) => .slice (.own kb) 0 l.length (.grow 1)
def Bld.none : Bld := ⟨false, Option.none⟩
/-- Its buffer lies apart from all else, in a row of bytes (type e), and is not empty. -/
def Bld.ok (e : TypeId) (h : AHeap) (k : Nat) (b : Bld) : Prop := match b.buf with | Option.none => True | some (kb, l) => kb ≠ k ∧ h kb = Option.none ∧ tyOf kb = some e ∧ l ≠ []
def bldH (h : AHeap) (k : Nat) (rest : List AVal) (b : Bld) : AHeap := match b.buf with
  | Option.none => h.set k ⟨b.head k :: .nilSlice :: rest, 0⟩
  | some (kb, l) => (h.set k ⟨b.head k :: .slice (.own kb) 0 l.length (.grow 1) :: rest, 0⟩).set kb ⟨byteCells l, 0⟩
theorem Bld.none_ok {e : TypeId} {h : AHeap} {k : Nat} : Bld.none.ok e h k := trivial
theorem bldH_nil {h : AHeap} {k : Nat} {rest : List AVal} {b : Bld} (hb : b.buf = Option.none) : bldH h k rest b = h.set k ⟨b.head k :: .nilSlice :: rest, 0⟩ := by unfold bldH; rw [hb]
theorem bldH_some {h : AHeap} {k : Nat} {rest : List AVal} {b : Bld} {kb : Nat} {l : List UInt8} (hb : b.buf = some (kb, l)) :
    bldH h k rest b = (h.set k ⟨b.head k :: .slice (.own kb) 0 l.length (.grow 1) :: rest, 0⟩).set kb ⟨byteCells l, 0⟩ := by unfold bldH; rw [hb]
theorem Bld.slice_nil {b : Bld} (hb : b.buf = Option.none) : b.slice = .nilSlice := by unfold Bld.slice; rw [hb]
theorem Bld.slice_some {b : Bld} {kb : Nat} {l : List UInt8} (hb : b.buf = some (kb, l)) : b.slice = .slice (.own kb) 0 l.length (.grow 1) := by unfold Bld.slice; rw [hb]
theorem Bld.bytes_nil {b : Bld} (hb : b.buf = Option.none) : b.bytes = [] := by unfold Bld.bytes; rw [hb]
theorem Bld.bytes_some {b : Bld} {kb : Nat} {l : List UInt8} (hb : b.buf = some (kb, l)) : b.bytes = l := by unfold Bld.bytes; rw [hb]
theorem Bld.ok_nil {e : TypeId} {h : AHeap} {k : Nat} {b : Bld} (hb : b.buf = Option.none) : b.ok e h k := by unfold Bld.ok; rw [hb]; trivial
theorem Bld.ok_some {e : TypeId} {h : AHeap} {k : Nat} {b : Bld} {kb : Nat} {l : List UInt8} (hb : b.buf = some (kb, l)) : b.ok e h k ↔ (kb ≠ k ∧ h kb = Option.none ∧ tyOf kb = some e ∧ l ≠ []) := by unfold Bld.ok; rw [hb]
theorem Bld.ok_sub {e : TypeId} {h h' : AHeap} {k : Nat} {b : Bld} (hb : b.ok e h k) (hs : Sub h' h) : b.ok e h' k := by
  cases hbuf : b.buf with
  | none => exact Bld.ok_nil hbuf
  | some q =>
    obtain ⟨h1, h2, h3, h4⟩ := (Bld.ok_some hbuf).1 hb
    exact (Bld.ok_some hbuf).2 ⟨h1, hs.none h2, h3, h4⟩
theorem Sub.bldH {h : AHeap} {k : Nat} {rest : List AVal} {e : TypeId} {b : Bld} (hk : h k = Option.none) (hb : b.ok e h k) : Sub h (AM.bldH h k rest b) := by
  cases hbuf : b.buf with
  | none => rw [bldH_nil hbuf]; exact Sub.set hk
  | some q =>
    obtain ⟨h1, h2, h3, h4⟩ := (Bld.ok_some hbuf).1 hb
    rw [bldH_some hbuf]
    exact (Sub.set hk).trans (Sub.set (by rw [AHeap.set_ne _ _ h1]; exact h2))
/-- Another block, laid beside. -/
theorem bldH_set {h : AHeap} {k : Nat} {rest : List AVal} {b : Bld} {j : Nat} {c : Blk} (hj : bldH h k rest b j = none) : (bldH h k rest b).set j c = bldH (h.set j c) k rest b := by
  cases hbuf : b.buf with
  | none =>
    rw [bldH_nil hbuf] at hj ⊢
    rw [bldH_nil hbuf]
    have : j ≠ k := fun e => by subst e; rw [AHeap.set_same] at hj; cases hj
    rw [AHeap.set_comm _ _ _ this]
  | some q =>
    rw [bldH_some hbuf] at hj ⊢
    rw [bldH_some hbuf]
    have h1 : j ≠ q.1 := fun e => by subst e; rw [AHeap.set_same] at hj; cases hj
    rw [AHeap.set_ne _ _ h1] at hj
    have h2 : j ≠ k := fun e => by subst e; rw [AHeap.set_same] at hj; cases hj
    rw [AHeap.set_comm _ _ _ h1, AHeap.set_comm _ _ _ h2]
theorem bldH_head {h : AHeap} {k : Nat} {rest : List AVal} {e : TypeId} {b : Bld} (hb : b.ok e h k) : bldH h k rest b k = some ⟨b.head k :: b.slice :: rest, 0⟩ := by
  cases hbuf : b.buf with
  | none => rw [bldH_nil hbuf, Bld.slice_nil hbuf]; exact AHeap.set_same _ _ _
  | some q =>
    obtain ⟨h1, h2, h3, h4⟩ := (Bld.ok_some hbuf).1 hb
    rw [bldH_some hbuf, Bld.slice_some hbuf, AHeap.set_ne _ _ h1.symm, AHeap.set_same]
theorem bldH_buf {h : AHeap} {k : Nat} {rest : List AVal} {b : Bld} {kb : Nat} {l : List UInt8} (hb : b.buf = some (kb, l)) : bldH h k rest b kb = some ⟨byteCells l, 0⟩ := by
  rw [bldH_some hb]
  exact AHeap.set_same _ _ _
/-- Its own address is laid down. -/
theorem bldH_used {h : AHeap} {k : Nat} {rest : List AVal} {e : TypeId} {b : Bld} (hb : b.ok e h k) : (bldH h k rest b).set k ⟨.ptr (.own k) 0 :: b.slice :: rest, 0⟩ = bldH h k rest ⟨true, b.buf⟩ := by
  cases hbuf : b.buf with
  | none =>
    rw [bldH_nil hbuf, Bld.slice_nil hbuf, AHeap.set_set, bldH_nil rfl]
    rfl
  | some q =>
    obtain ⟨h1, h2, h3, h4⟩ := (Bld.ok_some hbuf).1 hb
    rw [bldH_some hbuf, Bld.slice_some hbuf, bldH_some rfl, AHeap.set_comm _ _ _ h1.symm, AHeap.set_set]
    rfl
theorem Bld.slice_live (b : Bld) : b.slice.live = true := by unfold Bld.slice; split <;> rfl
theorem Bld.slice_scal (b : Bld) : b.slice.scal = true := by unfold Bld.slice; split <;> rfl
theorem Bld.slice_cells (b : Bld) : b.slice.cells = [b.slice] := by unfold Bld.slice; split <;> rfl
theorem Zj {h : AHeap} {k : Nat} {b : Blk} (hk : h k = some b) : h.set k b = h := by
  funext j
  by_cases e : j = k
  · subst e; rw [AHeap.set_same, hk]
  · rw [AHeap.set_ne _ _ e]

section
variable {P : Program} {w₀ : World} {ops rest : List Oper} {s : Slots} {h : AHeap} {K : Slots → AHeap → Prop} {dst : Option Tmp} {ty : TypeId} {pos : String} {af : Array Edge}
/-- Bytes behind a builder's; the slice is laid down by the next store. -/
theorem aOps_appendBld {ts : Array TypeId} {t u e : TypeId} {d : TypeDesc} {x y : Operand} {v : AVal} {src : List UInt8} {h₀ : AHeap} {k : Nat} {cs : List AVal} {st : Bld}
    (h0 : ts[0]? = some t) (h1 : ts[1]? = some u) (ht : P.underlying t = some (.slice e)) (hu : P.underlying u = some d) (hd : ∀ k, d ≠ .int k)
    (hs : szOf P e = some 1) (hb : byOf P e = some 1) (hz : zeOf P e = some (.int .u8 0)) (he : e < 4096)
    (hx : ev s x = st.slice) (hk0 : h₀ k = none) (hst : st.ok e h₀ k) (hh : Sub (bldH h₀ k cs st) h) (hy : ev s y = v) (hv : SrcB w₀ h v src) (hl : st.bytes.length + src.length ≤ 140737488355328)
    (hk : ∀ st' : Bld, st'.used = st.used → st'.ok e h₀ k → st'.bytes = st.bytes ++ src → ∀ h', h' k = some ⟨st.head k :: st.slice :: cs, 0⟩ → Sub (bldH h₀ k cs st') (h'.set k ⟨st'.head k :: st'.slice :: cs, 0⟩) →
      QO P w₀ ops rest (putD s dst st'.slice) h' K) :
    QO P w₀ ops (⟨dst, .call ⟨.builtin .append, [x, y].toArray, ts⟩, ty, pos, af, none⟩ :: rest) s h K := by
  obtain ⟨g1, g2⟩ := hv
  obtain ⟨p1, p2⟩ := g2 src.length (Nat.le_refl _)
  rw [List.take_of_length_le (Nat.le_refl _)] at p2
  have hkc : h k = some ⟨st.head k :: st.slice :: cs, 0⟩ := hh _ _ (bldH_head hst)
  have h₀h : Sub h₀ h := (Sub.bldH hk0 hst).trans hh
  rw [aOps_e]
  simp only [eop, evs, List.map_cons, List.map_nil, hx, hy, eAppend, h0, h1, ht, hu, hs, hb, hz, g1]
  cases hbuf : st.buf with
  | none =>
    rw [Bld.slice_nil hbuf] at *
    rw [Bld.bytes_nil hbuf] at *
    simp only [List.length_nil, Nat.zero_add] at hl
    refine ⟨hd, ⟨by omega, rfl⟩, p1, fun e0 => ?_, fun e0 => ⟨⟨by omega, by omega⟩, fun k' hk' htk => ?_⟩⟩
    · have e1 : src = [] := List.eq_nil_of_length_eq_zero e0
      have := hk st rfl hst (by rw [e1, Bld.bytes_nil hbuf]; rfl) h hkc (by rw [Bld.slice_nil hbuf, Zj hkc]; exact hh)
      rw [Bld.slice_nil hbuf] at this
      exact this
    · have hne : k' ≠ k := fun e' => by subst e'; rw [hkc] at hk'; cases hk'
      have hsrc : src ≠ [] := fun e' => e0 (by rw [e']; rfl)
      have := hk ⟨st.used, some (k', src)⟩ rfl ((Bld.ok_some rfl).2 ⟨hne, h₀h.none hk', htk he, hsrc⟩) rfl (h.set k' ⟨byteCells src, 0⟩) (by rw [AHeap.set_ne _ _ hne.symm]; exact hkc) (fun j c hj => by
        rw [bldH_some rfl] at hj
        by_cases e1 : j = k'
        · subst e1
          rw [AHeap.set_same] at hj
          rw [AHeap.set_ne _ _ hne, AHeap.set_same]
          exact hj
        · rw [AHeap.set_ne _ _ e1] at hj
          by_cases e2 : j = k
          · subst e2
            rw [AHeap.set_same] at hj ⊢
            exact hj
          · rw [AHeap.set_ne _ _ e2] at hj ⊢
            rw [AHeap.set_ne _ _ e1]
            exact h₀h j c hj)
      rw [p2]
      exact this
  | some q =>
    obtain ⟨kb, l⟩ := q
    obtain ⟨s1, s2, s3, s4⟩ := (Bld.ok_some hbuf).1 hst
    have hkb : h kb = some ⟨byteCells l, 0⟩ := hh _ _ (bldH_buf hbuf)
    rw [Bld.slice_some hbuf] at *
    rw [Bld.bytes_some hbuf] at *
    simp only [hkb]
    refine ⟨hd, ⟨by omega, rfl⟩, p1, trivial, ⟨by rw [byteCells_length]; omega, by omega, by omega, by rw [p2]; exact allScal_byteCells _, ?_, .inl trivial⟩, fun k' hk' htk => ?_⟩
    · rw [List.drop_zero]; exact allLive_of_u8 (byteCells_isU8 _)
    · have hne : k' ≠ k := fun e' => by subst e'; rw [hkc] at hk'; cases hk'
      have hneb : k' ≠ kb := fun e' => by subst e'; rw [hkb] at hk'; cases hk'
      have hl' : (l ++ src).length = l.length + src.length := List.length_append
      have := hk ⟨st.used, some (k', l ++ src)⟩ rfl ((Bld.ok_some rfl).2 ⟨hne, h₀h.none hk', htk trivial s3, by simp [s4]⟩) rfl ((h.del kb).set k' ⟨byteCells (l ++ src), 0⟩) (by rw [AHeap.set_ne _ _ hne.symm]; simp only [AHeap.del, s1.symm, if_false]; exact hkc) (fun j c hj => by
        rw [bldH_some rfl] at hj
        by_cases e1 : j = k'
        · subst e1
          rw [AHeap.set_same] at hj
          rw [AHeap.set_ne _ _ hne, AHeap.set_same]
          exact hj
        · rw [AHeap.set_ne _ _ e1] at hj
          by_cases e2 : j = k
          · subst e2
            rw [AHeap.set_same] at hj ⊢
            exact hj
          · rw [AHeap.set_ne _ _ e2] at hj ⊢
            rw [AHeap.set_ne _ _ e1]
            have e3 : j ≠ kb := fun e' => by subst e'; rw [s2] at hj; cases hj
            simp only [AHeap.del, e3, if_false]
            exact h₀h j c hj)
      rw [p2, List.drop_zero, ← byteCells_append]
      rw [Bld.slice_some rfl, hl'] at this
      exact this
end
end Go.AM

/-
  An assertion layer over the model's wp, part X: rows of cells that a call lays, writes and appends to.
  Conditions: none. Nothing here is about a particular program.
-/
namespace Go.AM

section
variable {P : Program} {w₀ : World} {ops rest : List Oper} {s : Slots} {h : AHeap} {K : Slots → AHeap → Prop} {dst : Option Tmp} {ty : TypeId} {pos : String} {af : Array Edge}
end

/-! ### A slice of the call's own that grows by append -/
/-- Nil, or a row in a block of its own: es cells an element. -/
structure Buf where
  blk : Nat
  cells : List AVal
def XM (es : Nat) : Option Buf → AVal
  | none => .nilSlice
  | some b => .slice (.own b.blk) 0 (b.cells.length / es) (.grow es)
def bufC : Option Buf → List AVal
  | none => []
  | some b => b.cells
def Xv (h : AHeap) : Option Buf → AHeap
  | none => h
  | some b => h.set b.blk ⟨b.cells, 0⟩
def bufOk (h : AHeap) (es : Nat) : Option Buf → Prop
  | none => True
  | some b => h b.blk = none ∧ b.cells.length % es = 0 ∧ allLive b.cells = true
theorem bufOk.sub {h h' : AHeap} {es : Nat} {b : Option Buf} (hb : bufOk h es b) (hs : Sub h' h) : bufOk h' es b := by
  cases b with
  | none => trivial
  | some b => exact ⟨hs.none hb.1, hb.2⟩
theorem Sub.buf {h : AHeap} {es : Nat} {b : Option Buf} (hb : bufOk h es b) : Sub h (Xv h b) := by
  cases b with
  | none => exact Sub.refl _
  | some b => exact Sub.set hb.1
theorem bufV_live (es : Nat) (b : Option Buf) : (XM es b).live = true := by cases b <;> rfl
/-- What an append has left of the heap. -/
theorem sub_app {h₀ h : AHeap} {kb k' : Nat} {B C : Blk} (h0 : h₀ kb = none) (hs : Sub (h₀.set kb B) h) (hk' : h k' = none) : Sub (h₀.set k' C) ((h.del kb).set k' C) := fun j c hj => by
  by_cases e : j = k'
  · subst e; rw [AHeap.set_same] at hj ⊢; exact hj
  · rw [AHeap.set_ne _ _ e] at hj ⊢
    have e2 : j ≠ kb := fun e2 => by subst e2; rw [h0] at hj; cases hj
    simp only [AHeap.del, e2, if_false]
    exact hs j c (by rw [AHeap.set_ne _ _ e2]; exact hj)

section
variable {P : Program} {w₀ : World} {ops rest : List Oper} {s : Slots} {h : AHeap} {K : Slots → AHeap → Prop} {dst : Option Tmp} {ty : TypeId} {pos : String} {af : Array Edge}
/-- Cells behind a slice of the call's own: h₀ is what else is told of the heap. -/
theorem aOps_appendBuf {ts : Array TypeId} {t u e : TypeId} {d : TypeDesc} {x y : Operand} {v : AVal} {es by' m : Nat} {z : Value} {src : List AVal} {h₀ : AHeap} {b : Option Buf}
    (h0 : ts[0]? = some t) (h1 : ts[1]? = some u) (ht : P.underlying t = some (.slice e)) (hu : P.underlying u = some d) (hd : ∀ k, d ≠ .int k)
    (hs : szOf P e = some es) (hb : byOf P e = some by') (hz : zeOf P e = some z) (hzs : z.cells.size = es) (hes : es ≠ 0)
    (hx : ev s x = XM es b) (hok : bufOk h₀ es b) (hh : Sub (Xv h₀ b) h) (hy : ev s y = v) (hm : srcLen v = some m) (hp : srcPre w₀ h es m v) (hc : Zg w₀ h es m v = src) (hsl : src.length = m * es) (hsc : allScal src = true) (hlv : allLive src = true)
    (hl : ((bufC b).length / es + m) * by' ≤ 140737488355328) (hl' : (bufC b).length / es + m < 4611686018427387904)
    (hk : ∀ b' h', bufOk h₀ es b' → bufC b' = bufC b ++ src → Sub (Xv h₀ b') h' → QO P w₀ ops rest (putD s dst (XM es b')) h' K) :
    QO P w₀ ops (⟨dst, .call ⟨.builtin .append, [x, y].toArray, ts⟩, ty, pos, af, none⟩ :: rest) s h K := by
  rw [aOps_e]
  simp only [eop, evs, List.map_cons, List.map_nil, hx, hy, eAppend, h0, h1, ht, hu, hs, hb, hz, hm]
  have hev : 0 < es := Nat.pos_of_ne_zero hes
  cases b with
  | none =>
    refine ⟨hd, ⟨hes, hzs⟩, hp, ?_⟩
    simp only [XM]
    simp only [bufC, List.length_nil, Nat.zero_div, Nat.zero_add] at hl hl'
    refine ⟨fun e0 => ?_, fun e0 => ⟨⟨hl, hl'⟩, fun k hk0 _ => ?_⟩⟩
    · have : src = [] := List.eq_nil_of_length_eq_zero (by rw [hsl, e0, Nat.zero_mul])
      exact hk none h trivial (by rw [this]; rfl) hh
    · have hsub : Sub (Xv h₀ (some ⟨k, src⟩)) (h.set k ⟨src, 0⟩) := Sub.set_both hh k _
      have hk0' : h₀ k = none := hh.none hk0
      have e1 : src.length / es = m := by rw [hsl]; exact Nat.mul_div_cancel _ hev
      have := hk (some ⟨k, src⟩) (h.set k ⟨src, 0⟩) ⟨hk0', by simp only; rw [hsl]; exact Nat.mul_mod_left _ _, hlv⟩ rfl hsub
      simp only [XM, e1] at this
      rw [hc]
      exact this
  | some b =>
    obtain ⟨o1, o2, o3⟩ := hok
    simp only [bufC] at hl hl'
    have hkb : h b.blk = some ⟨b.cells, 0⟩ := hh _ _ (AHeap.set_same _ _ _)
    refine ⟨hd, ⟨hes, hzs⟩, hp, ?_⟩
    simp only [XM, hkb]
    have hdiv : b.cells.length / es * es = b.cells.length := Nat.div_mul_cancel (Nat.dvd_of_mod_eq_zero o2)
    refine ⟨trivial, ⟨by rw [Nat.zero_add, hdiv], hl, hl', by rw [hc]; exact hsc, by rw [List.drop_zero]; exact o3, .inl trivial⟩, fun k hk0 _ => ?_⟩
    rw [hc, List.drop_zero]
    have hsub : Sub (Xv h₀ (some ⟨k, b.cells ++ src⟩)) ((h.del b.blk).set k ⟨b.cells ++ src, 0⟩) := sub_app o1 hh hk0
    have hne : k ≠ b.blk := fun e' => by subst e'; rw [hkb] at hk0; cases hk0
    have hk0' : h₀ k = none := by
      have := hh.none hk0
      rwa [show (Xv h₀ (some b)) = h₀.set b.blk ⟨b.cells, 0⟩ from rfl, AHeap.set_ne _ _ hne] at this
    have e1 : (b.cells ++ src).length / es = b.cells.length / es + m := by
      rw [List.length_append, hsl, Nat.add_mul_div_right _ _ hev]
    have e2 : (b.cells ++ src).length % es = 0 := by
      rw [List.length_append, hsl, Nat.add_mul_mod_self_right]; exact o2
    have hlive : allLive (b.cells ++ src) = true := by
      have : ∀ (a c : List AVal), allLive (a ++ c) = (allLive a && allLive c) := fun a c => by
        induction a with
        | nil => rfl
        | cons x a ih => simp [allLive, ih, Bool.and_assoc]
      rw [this, o3, hlv]; rfl
    have := hk (some ⟨k, b.cells ++ src⟩) _ ⟨hk0', e2, hlive⟩ rfl hsub
    simp only [XM, e1] at this
    exact this
end
end Go.AM

/-
  Plain functions for fixed columns: what Read, At and Write compute, with no program in sight.
  Conditions: none.
-/
namespace Go.Col
set_option maxRecDepth 100000

abbrev Str := List UInt8
/-- A fault: the error, the line, the column; all 0 if there is none. -/
structure FaultC where
  e : Int
  line : Int
  col : Int
  deriving DecidableEq
def okF : FaultC := ⟨0, 0, 0⟩
structure MarkC where
  frm : Int
  line : Int
  col : Int
  deriving DecidableEq
structure CardC where
  left : Bool
  text : Str
  marks : List MarkC
  deriving DecidableEq

def okB (b : UInt8) : Bool := decide (32 ≤ b.toNat) && decide (b.toNat ≤ 126)
/-- How many quotes. -/
def quotes (s : Str) : Nat := s.countP (· == 34)
def Qy (s : Str) : Bool := decide (quotes s % 2 = 1)
def badAt (s : Str) : Option Nat := s.findIdx? (fun b => !okB b)
def Xr (s : Str) : Str := s.dropWhile (· == 32)
def trimR (s : Str) : Str := (s.reverse.dropWhile (· == 32)).reverse
def sp (n : Nat) : Str := List.replicate n 32

structure RowC where
  line : Int
  more : Bool
  text : Str
  col : Int
  deriving DecidableEq
def noRow : RowC := ⟨0, false, [], 0⟩
/-- A line as 72 columns. -/
def padE (s : Str) : Str := s ++ sp (72 - s.length)
def rowE (s : Str) (line : Int) : RowC := ⟨line, (padE s).getD 6 0 == 45, Xr (((padE s).drop 7).take 65), 73 - (Xr (((padE s).drop 7).take 65)).length⟩
/-- The row of a line, whether it counts, and its fault. -/
def lineE (s : Str) (line : Int) (debug : Bool) : RowC × Bool × FaultC :=
  if 80 < s.length then (noRow, false, ⟨5, line, 81⟩) else
  match badAt s with
  | some i => (noRow, false, ⟨4, line, i + 1⟩)
  | none =>
    let r := rowE s line
    let m := (padE s).getD 6 0
    if m = 42 ∨ m = 47 then (r, false, okF)
    else if m = 68 ∨ m = 100 then (r, debug && !decide (r.text = []), okF)
    else if m = 32 ∨ m = 45 then (r, !decide (r.text = []), okF)
    else (r, false, ⟨4, line, 7⟩)

/-- What has been read: the cards, where the last part began, whether the last text has an odd number of quotes. -/
structure Rd where
  cards : List CardC
  line : Int
  col : Int
  odd : Bool
def Rd.start : Rd := ⟨[], 0, 0, false⟩
/-- A part behind a card. -/
def addC (c : CardC) (line col : Int) (text : Str) : CardC :=
  let t := if Qy (c.text ++ text) then text else trimR text
  ⟨c.left, c.text ++ t, if t = [] then c.marks else c.marks ++ [⟨c.text.length, line, col⟩]⟩
def addE (x : Rd) (line col : Int) (text : Str) : Rd :=
  match x.cards.getLast? with
  | none => x
  | some c => ⟨x.cards.dropLast ++ [addC c line col text], line, col, Qy (c.text ++ text)⟩
def takeE (x : Rd) (r : RowC) : Rd × FaultC :=
  if !r.more && x.odd then (x, ⟨4, x.line, x.col⟩)
  else if !r.more then (addE { x with cards := x.cards ++ [⟨decide (r.col < 12), [], []⟩] } r.line r.col r.text, okF)
  else if x.cards = [] then (x, ⟨6, r.line, 7⟩)
  else if r.col < 12 ∨ (x.odd = true ∧ r.text.getD 0 0 ≠ 34) then (x, ⟨4, r.line, r.col⟩)
  else if x.odd then (addE x r.line (r.col + 1) (r.text.drop 1), okF)
  else (addE x r.line r.col r.text, okF)
/-- The lines of a text, from a number on. -/
def XZ (debug : Bool) : List Str → Int → Rd → Rd × FaultC
  | [], _, x => (x, okF)
  | s :: l, n, x =>
    match lineE s n debug with
    | (r, counts, f) =>
      if f = okF ∧ counts = false then XZ debug l (n + 1) x
      else if f = okF then
        match takeE x r with
        | (x', g) => if g = okF then XZ debug l (n + 1) x' else (x', g)
      else (x, f)
/-- A text, divided at its line ends. -/
def Qp : Str → List Str
  | [] => [[]]
  | b :: s => if b = 10 then [] :: Qp s else match Qp s with
    | [] => [[b]]
    | l :: ls => (b :: l) :: ls
def XK (s : Str) : Str := if s.getLast? = some 10 then s.dropLast else s
def readE (text : Str) (debug : Bool) : List CardC × FaultC :=
  if 1048576 < text.length then ([], ⟨3, 0, 0⟩)
  else match XZ debug (Qp (XK text)) 1 .start with
    | (x, f) => if f ≠ okF then ([], f) else if x.odd then ([], ⟨4, x.line, x.col⟩) else (x.cards, okF)

/-- The position of a byte, or the error. -/
def validC.go (c : CardC) : Int → List MarkC → Bool
  | _, [] => true
  | b, m :: ms => decide (b < m.frm ∧ m.frm < c.text.length ∧ 1 ≤ m.line ∧ 8 ≤ m.col ∧ m.col ≤ 72) && validC.go c m.frm ms
def validC (c : CardC) : Bool :=
  match c.marks with
  | [] => false
  | m :: _ => decide (m.frm = 0) && validC.go c (-1) c.marks
def atGo (i : Int) : List MarkC → Int × Int → Int × Int
  | [], p => p
  | m :: ms, p => atGo i ms (if m.frm ≤ i then (m.line, m.col + i - m.frm) else p)
def atE (c : CardC) (i : Int) : Int × Int × Int :=
  if validC c = true ∧ 0 ≤ i ∧ i ≤ c.text.length then ((atGo i c.marks (0, 0)).1, (atGo i c.marks (0, 0)).2, 0) else (0, 0, 1)

/-- The decimal digits of a number. -/
def digs (n : Nat) : Str := Lib.decDigits n
/-- An output line. -/
def outE (n : Nat) (mark : Str) (col : Nat) (text : Str) : Str :=
  List.replicate (6 - (digs (n % 1000000)).length) 48 ++ digs (n % 1000000) ++ mark ++ sp (col - 8) ++ text ++ [10]
/-- The last index from 1 to n at which a text has a space outside of quotes, or 0. -/
def spaceGo : Str → Nat → Nat → Bool → Nat → Nat
  | [], _, _, _, f => f
  | b :: s, i, n, q, f =>
    if n < i then f else
    let q' := if b = 34 then !q else q
    spaceGo s (i + 1) n q' (if b = 32 ∧ q' = false ∧ 0 < i then i else f)
def Xn (s : Str) (n : Nat) (q : Bool) : Nat := spaceGo s 0 n q 0
/-- A text, laid out: the lines' number so far, the output so far. -/
def textE : Nat → Nat → Str → Bool → Nat → Str → Str → Nat × Str
  | 0, _, _, _, k, out, _ => (k, out)
  | fuel + 1, col, mark, q, k, out, s =>
    let n := 73 - col - (if q then 1 else 0)
    let lead : Str := if q then [34] else []
    if s.length ≤ n then (k + 1, out ++ outE (k + 1) mark col (lead ++ s))
    else if 0 < Xn s n q then textE fuel 12 [32] false (k + 1) (out ++ outE (k + 1) mark col (lead ++ s.take (Xn s n q))) (Xr (s.drop (Xn s n q)))
    else textE fuel 12 [45] (q != Qy (s.take n)) (k + 1) (out ++ outE (k + 1) mark col (lead ++ s.take n)) (s.drop n)
/-- Whether Write accepts a text. -/
def rightE (s : Str) : Bool := !decide (s = []) && s.all okB && !decide (s.getD 0 0 = 32) && !decide (s.getLast? = some 32) && !Qy s
end Go.Col

/-
  Plain functions for tokens: what Scan computes, with no program in sight.
  Conditions: none.
-/
namespace Go.Tok
open Go.Col (Str CardC FaultC okF readE atE)
set_option maxRecDepth 100000
structure TokC where
  kind : UInt8
  text : Str
  line : Int
  col : Int
  left : Bool
  deriving DecidableEq
def Xh (b : UInt8) : Bool := decide (48 ≤ b.toNat) && decide (b.toNat ≤ 57)
def letterB (b : UInt8) : Bool := (decide (97 ≤ b.toNat) && decide (b.toNat ≤ 122)) || (decide (65 ≤ b.toNat) && decide (b.toNat ≤ 90))
def QP (b : UInt8) : Bool := Xh b || letterB b || decide (b = 45)
def XA (b : UInt8) : UInt8 := if 97 ≤ b.toNat ∧ b.toNat ≤ 122 then b - 32 else b
def QK (s : Str) : Str := s.map XA
/-- The byte at a place, a space outside. -/
def qA (s : Str) (i : Int) : UInt8 := if i < 0 ∨ (s.length : Int) ≤ i then 32 else s.getD i.toNat 0
/-- How many bytes from a place on fulfil a condition. -/
def Zn (s : Str) (i : Nat) (p : UInt8 → Bool) : Nat := ((s.drop i).takeWhile p).length
def PIC : Str := [80, 73, 67]
def PICTURE : Str := [80, 73, 67, 84, 85, 82, 69]
def IS : Str := [73, 83]
/-- Whether the token n places before the end is one of some words. -/
def wordE (l : List TokC) (n : Nat) (ws : List Str) : Bool :=
  match l.reverse[n - 1]? with
  | none => false
  | some t => decide (t.kind = 1) && ws.contains t.text
def QM (l : List TokC) : Bool × Bool :=
  if wordE l 1 [PIC, PICTURE] = true then (true, true) else (wordE l 1 [IS] && wordE l 2 [PIC, PICTURE], false)
def sepB (b : UInt8) : Bool := decide (b = 44) || decide (b = 59)
/-- Where skipping ends. -/
def skipGo (s : Str) (next : Bool) : Nat → Nat → Nat
  | 0, i => i
  | f + 1, i => if s.length ≤ i then i else if qA s i = 32 ∨ (next = false ∧ sepB (qA s i) = true ∧ qA s (i + 1) = 32) then skipGo s next f (i + 1) else i
def Xb (s : Str) (next : Bool) (i : Nat) : Nat := skipGo s next (s.length - i) i
/-- A token's kind and text, how many bytes it has, the error. -/
structure Nx where
  kind : UInt8
  text : Str
  n : Nat
  e : Int
  deriving DecidableEq
def Nx.err (e : Int) : Nx := ⟨0, [], 0, e⟩
def takeE (s : Str) (i : Nat) (kind : UInt8) (n : Nat) : Nx := ⟨kind, (s.drop i).take n, n, 0⟩
def endsB (b : UInt8) : Bool := decide (b = 46) || sepB b
def Xu (s : Str) (i : Nat) (is : Bool) : Nx :=
  if is = true ∧ QK [qA s i, qA s (i + 1)] = IS ∧ QP (qA s (i + 2)) = false then ⟨1, IS, 2, 0⟩
  else
    let n0 := Zn s i (fun b => !decide (b = 32))
    let n := if endsB (qA s ((i : Int) + n0 - 1)) = true then (n0 : Int) - 1 else n0
    if n = 0 ∨ endsB (qA s (i + n - 1)) = true then .err 4
    else
      let t := QK ((s.drop i).take n.toNat)
      if t.contains 34 = true then .err 4 else ⟨4, t, n.toNat, 0⟩
/-- A literal: the bytes behind its first quote. -/
def Xe : Str → Str → Nat → Nx
  | [], _, _ => .err 4
  | b :: s, acc, n =>
    if b = 34 then
      match s with
      | 34 :: r => Xe r (acc ++ [34]) (n + 2)
      | _ => if acc = [] then .err 4 else ⟨3, acc, n + 1, 0⟩
    else Xe s (acc ++ [b]) (n + 1)
def quoteE (s : Str) (i : Nat) : Nx := Xe (s.drop (i + 1)) [] 1
/-- A number: whether it has a sign, its digits before and behind the point, its bytes. -/
def Qz (s : Str) (i : Nat) : Bool := (decide (qA s i = 43) || decide (qA s i = 45)) && (decide (qA s ((i : Int) - 1) = 32) || decide (qA s ((i : Int) - 1) = 40))
def d0E (s : Str) (i : Nat) : Nat := Zn s (i + (Qz s i).toNat) Xh
def n1E (s : Str) (i : Nat) : Nat := (Qz s i).toNat + d0E s i
def dotE (s : Str) (i : Nat) : Bool := decide (qA s ((i : Int) + (n1E s i : Nat)) = 46) && Xh (qA s ((i : Int) + (n1E s i : Nat) + 1))
def moreE (s : Str) (i : Nat) : Nat := Zn s (i + n1E s i + 1) Xh
def Zl (s : Str) (i : Nat) : Nat := if dotE s i = true then n1E s i + 1 + moreE s i else n1E s i
def numDig (s : Str) (i : Nat) : Nat := if dotE s i = true then d0E s i + moreE s i else d0E s i
def numF (w1 w2 sg : Bool) (d0 d : Nat) (t : Nx) : Nx :=
  if 0 < d0 ∧ w1 = true then (if sg = true then .err 4 else .err 0)
  else if d = 0 then .err 0
  else if w2 = true then .err 4
  else if 18 < d then .err 5
  else t
def Xy (s : Str) (i : Nat) : Nx := numF (QP (qA s ((i : Int) + (n1E s i : Nat)))) (QP (qA s ((i : Int) + (Zl s i : Nat)))) (Qz s i) (d0E s i) (numDig s i) (takeE s i 2 (Zl s i))
def nameE (s : Str) (i : Nat) : Nx :=
  let n := Zn s i QP
  let t := QK ((s.drop i).take n)
  if t.all (fun b => Xh b || decide (b = 45)) = true ∨ t.getD 0 0 = 45 ∨ t.getD (n - 1) 0 = 45 then .err 4
  else if 30 < n then .err 5
  else ⟨1, t, n, 0⟩
def signs : List Str := [[42, 42], [60, 61], [62, 61], [60, 62], [40], [41], [58], [43], [45], [42], [47], [61], [60], [62]]
def signE (s : Str) (i : Nat) : Nx :=
  match signs.find? (fun g => g.isPrefixOf (s.drop i)) with
  | some g => takeE s i 5 g.length
  | none => .err 4
def QJ (s : Str) (i : Nat) (l : List TokC) : Nx :=
  let eqs := List.isPrefixOf [61, 61] (s.drop i)
  if (QM l).1 = true ∧ eqs = false then Xu s i (QM l).2
  else if qA s i = 34 then quoteE s i
  else if qA s i = 46 ∧ qA s (i + 1) = 32 then takeE s i 6 1
  else if eqs = true then takeE s i 7 2
  else if 0 < (Xy s i).n ∨ (Xy s i).e ≠ 0 then Xy s i
  else if QP (qA s i) = true ∧ qA s i ≠ 45 then nameE s i
  else signE s i
/-- The tokens of a card from a place on, behind those before. -/
def cardGo (c : CardC) : Nat → Nat → List TokC → List TokC × FaultC
  | 0, _, l => (l, okF)
  | f + 1, at0, l =>
    let i := Xb c.text (QM l).1 at0
    if c.text.length ≤ i then (l, okF)
    else
      let a := atE c i
      let t := QJ c.text i l
      let e := if t.e = 0 ∧ 65536 ≤ l.length then 3 else t.e
      if e ≠ 0 then (l, ⟨e, a.1, a.2.1⟩)
      else cardGo c f (i + t.n) (l ++ [⟨t.kind, t.text, a.1, a.2.1, decide (a.2.1 < 12)⟩])
def cardT (c : CardC) (l : List TokC) : List TokC × FaultC := if (atE c 0).2.2 ≠ 0 then (l, ⟨(atE c 0).2.2, 0, 0⟩) else cardGo c (c.text.length + 1) 0 l
def scanGo : List CardC → List TokC → List TokC × FaultC
  | [], l => (l, okF)
  | c :: r, l => if (cardT c l).2 ≠ okF then ([], (cardT c l).2) else scanGo r (cardT c l).1
def scanE (cs : List CardC) : List TokC × FaultC := scanGo cs []
def XP (text : Str) (dbg : Bool) : List TokC × FaultC := if (readE text dbg).2 ≠ okF then ([], (readE text dbg).2) else scanE (readE text dbg).1
end Go.Tok

/-
  Plain laws of tokens: what a token takes of its text, and its first byte.
  Conditions: none.
-/
namespace Go.Tok
open Go.Col (Str CardC FaultC okF readE atE)
set_option maxRecDepth 100000

theorem Qn {s : Str} {i : Nat} (h : i < s.length) : qA s i = s.getD i 0 := by
  unfold qA
  rw [if_neg (by omega), Int.toNat_natCast]
theorem peekE_ge {s : Str} {i : Int} (h : i < 0 ∨ (s.length : Int) ≤ i) : qA s i = 32 := by
  unfold qA
  rw [if_pos h]
theorem peekE_in {s : Str} {i : Nat} (h : qA s i ≠ 32) : i < s.length := by
  by_cases q : i < s.length
  · exact q
  · exact absurd (peekE_ge (.inr (by omega))) h
theorem runE_le (s : Str) (i : Nat) (p : UInt8 → Bool) (hi : i ≤ s.length) : i + Zn s i p ≤ s.length := by
  unfold Zn
  have h1 : ((s.drop i).takeWhile p).length ≤ (s.drop i).length := (List.takeWhile_sublist p).length_le
  rw [List.length_drop] at h1
  omega
theorem runE_len (s : Str) (i : Nat) (p : UInt8 → Bool) : Zn s i p ≤ s.length := by
  unfold Zn
  have h1 : ((s.drop i).takeWhile p).length ≤ (s.drop i).length := (List.takeWhile_sublist p).length_le
  rw [List.length_drop] at h1
  omega
theorem drop_eq {s : Str} {i : Nat} (h : i < s.length) : s.drop i = s.getD i 0 :: s.drop (i + 1) := by
  rw [List.drop_eq_getElem_cons h]
  simp [List.getD, List.getElem?_eq_getElem h]
theorem runE_step (s : Str) (i : Nat) (p : UInt8 → Bool) : Zn s i p = if i < s.length ∧ p (s.getD i 0) = true then Zn s (i + 1) p + 1 else 0 := by
  by_cases h : i < s.length
  · unfold Zn
    rw [drop_eq h, List.takeWhile_cons]
    by_cases hp : p (s.getD i 0) = true
    · rw [if_pos hp, if_pos ⟨h, hp⟩]
      rfl
    · rw [if_neg hp, if_neg (fun e => hp e.2)]
      rfl
  · rw [if_neg (fun e => h e.1)]
    unfold Zn
    rw [List.drop_eq_nil_of_le (by omega)]
    rfl
theorem runE_pos {s : Str} {i : Nat} {p : UInt8 → Bool} (h : i < s.length) (hp : p (s.getD i 0) = true) : 0 < Zn s i p := by
  rw [runE_step, if_pos ⟨h, hp⟩]
  omega
theorem runE_all {s : Str} {p : UInt8 → Bool} : ∀ {n i : Nat}, n ≤ Zn s i p → ∀ j, j < n → p (s.getD (i + j) 0) = true
  | 0, _, _, j, hj => by omega
  | n + 1, i, h, j, hj => by
    rw [runE_step] at h
    by_cases q : i < s.length ∧ p (s.getD i 0) = true
    · rw [if_pos q] at h
      cases j with
      | zero => exact q.2
      | succ j => rw [show i + (j + 1) = (i + 1) + j by omega]; exact runE_all (n := n) (by omega) j (by omega)
    · rw [if_neg q] at h
      omega
theorem runE_stop {s : Str} {p : UInt8 → Bool} : ∀ {f i : Nat}, s.length ≤ i + f → i + Zn s i p < s.length → p (s.getD (i + Zn s i p) 0) = false
  | 0, i, h, h2 => by omega
  | f + 1, i, h, h2 => by
    by_cases q : i < s.length ∧ p (s.getD i 0) = true
    · have e : Zn s i p = Zn s (i + 1) p + 1 := by rw [runE_step, if_pos q]
      rw [e] at h2 ⊢
      rw [show i + (Zn s (i + 1) p + 1) = (i + 1) + Zn s (i + 1) p by omega]
      exact runE_stop (f := f) (by omega) (by omega)
    · have e : Zn s i p = 0 := by rw [runE_step, if_neg q]
      rw [e] at h2 ⊢
      rw [Nat.add_zero]
      cases hp : p (s.getD i 0) with
      | false => rfl
      | true => exact absurd ⟨by omega, hp⟩ q
theorem takeE_head {s : Str} {i n : Nat} (h : i < s.length) (hn : 0 < n) : ((s.drop i).take n).getD 0 0 = s.getD i 0 ∧ (s.drop i).take n ≠ [] := by
  rw [drop_eq h]
  cases n with
  | zero => omega
  | succ n => exact ⟨rfl, by simp⟩
theorem fold_head {s : Str} {i n : Nat} (h : i < s.length) (hn : 0 < n) : (QK ((s.drop i).take n)).getD 0 0 = XA (s.getD i 0) ∧ QK ((s.drop i).take n) ≠ [] := by
  rw [drop_eq h]
  cases n with
  | zero => omega
  | succ n => exact ⟨rfl, by simp [QK]⟩
theorem foldB_low {b : UInt8} (h : b.toNat < 97) : XA b = b := by
  unfold XA
  rw [if_neg (by omega)]
theorem digitB_low {b : UInt8} (h : Xh b = true) : b.toNat < 97 := by
  unfold Xh at h
  simp only [Bool.and_eq_true, decide_eq_true_eq] at h
  omega
/-- What is true of a token that was read at a place. -/
structure NxOk (s : Str) (i : Nat) (t : Nx) : Prop where
  n0 : 0 < t.n
  n1 : i + t.n ≤ s.length
  ne : t.text ≠ []
  quote : t.kind = 3 → s.getD i 0 = 34
  other : t.kind ≠ 3 → t.text.getD 0 0 = XA (s.getD i 0)
  k0 : 1 ≤ t.kind.toNat
  k1 : t.kind.toNat ≤ 7
theorem take_ok {s : Str} {i n : Nat} {k : UInt8} (hi : i < s.length) (hn : 0 < n) (h1 : i + n ≤ s.length) (hk : k ≠ 3) (k0 : 1 ≤ k.toNat) (k1 : k.toNat ≤ 7) (hl : XA (s.getD i 0) = s.getD i 0) : NxOk s i (takeE s i k n) :=
  ⟨hn, h1, (takeE_head hi hn).2, fun e => absurd e hk, fun _ => by rw [hl]; exact (takeE_head hi hn).1, k0, k1⟩
theorem picture_ok {s : Str} {i : Nat} {is : Bool} (hi : i < s.length) (h32 : s.getD i 0 ≠ 32) (he : (Xu s i is).e = 0) : NxOk s i (Xu s i is) := by
  unfold Xu at he ⊢
  by_cases hc : is = true ∧ QK [qA s i, qA s (i + 1)] = IS ∧ QP (qA s (i + 2)) = false
  · rw [if_pos hc] at he ⊢
    have h1 : XA (qA s i) = 73 ∧ XA (qA s (i + 1)) = 83 := by
      have := hc.2.1
      simp only [QK, List.map_cons, List.map_nil, IS, List.cons.injEq, and_true] at this
      exact this
    have h2 : i + 1 < s.length := by
      refine peekE_in (i := i + 1) fun e => ?_
      have := h1.2
      rw [show (i : Int) + 1 = ((i + 1 : Nat) : Int) by omega, e] at this
      exact absurd this (by decide)
    rw [Qn hi] at h1
    exact ⟨by decide, by show i + 2 ≤ _; omega, by decide, fun e => absurd e (by decide), fun _ => by rw [h1.1]; rfl, by decide, by decide⟩
  · rw [if_neg hc] at he ⊢
    simp only at he ⊢
    have hr := runE_le s i (fun b => !decide (b = 32)) (by omega)
    have hp := runE_pos (p := fun b => !decide (b = 32)) hi (by simpa using h32)
    generalize Zn s i (fun b => !decide (b = 32)) = n0 at he hr hp ⊢
    generalize hm : (if endsB (qA s ((i : Int) + (n0 : Int) - 1)) = true then (n0 : Int) - 1 else (n0 : Int)) = m at he ⊢
    have hm0 : 0 ≤ m ∧ m ≤ n0 := by rw [← hm]; split <;> omega
    by_cases h1 : m = 0 ∨ endsB (qA s ((i : Int) + m - 1)) = true
    · rw [if_pos h1] at he
      exact absurd he (by simp [Nx.err])
    · rw [if_neg h1] at he ⊢
      by_cases h2 : (QK ((s.drop i).take m.toNat)).contains 34 = true
      · rw [if_pos h2] at he
        exact absurd he (by simp [Nx.err])
      · rw [if_neg h2]
        have hn : 0 < m.toNat ∧ i + m.toNat ≤ s.length := by
          have h3 : ¬ m = 0 := fun e => h1 (Or.inl e)
          omega
        have := fold_head hi hn.1
        exact ⟨hn.1, hn.2, this.2, fun e => absurd e (show ¬ (4 : UInt8) = 3 by decide), fun _ => this.1, show 1 ≤ (4 : UInt8).toNat by decide, show (4 : UInt8).toNat ≤ 7 by decide⟩
theorem quoteGo_nil (acc : Str) (n : Nat) : Xe [] acc n = .err 4 := by rw [Xe]
theorem quoteGo_other {b : UInt8} (hb : b ≠ 34) (s acc : Str) (n : Nat) : Xe (b :: s) acc n = Xe s (acc ++ [b]) (n + 1) := by
  conv => lhs; unfold Xe
  rw [if_neg hb]
theorem quoteGo_two (r acc : Str) (n : Nat) : Xe (34 :: 34 :: r) acc n = Xe r (acc ++ [34]) (n + 2) := by
  rw [Xe, if_pos rfl]
theorem quoteGo_end {s : Str} (hs : s.head? ≠ some 34) (acc : Str) (n : Nat) : Xe (34 :: s) acc n = if acc = [] then .err 4 else ⟨3, acc, n + 1, 0⟩ := by
  cases s with
  | nil => rfl
  | cons c r =>
    have hc : c ≠ 34 := fun e => hs (by rw [e]; rfl)
    rw [Xe, if_pos rfl]
    intro r e
    injection e with e1 _
    exact hc e1
theorem quote_cases (P : UInt8 → Str → Prop) (h1 : ∀ b s, b ≠ 34 → P b s) (h2 : ∀ r, P 34 (34 :: r)) (h3 : ∀ s : Str, s.head? ≠ some 34 → P 34 s) (b : UInt8) (s : Str) : P b s := by
  by_cases hb : b = 34
  · subst hb
    by_cases hs : s.head? = some 34
    · cases s with
      | nil => cases hs
      | cons c r =>
        simp only [List.head?_cons, Option.some.injEq] at hs
        subst hs
        exact h2 r
    · exact h3 s hs
  · exact h1 b s hb
theorem quoteGo_ok : ∀ (k : Nat) (r acc : Str) (n : Nat), r.length ≤ k → (Xe r acc n).e = 0 → n < (Xe r acc n).n ∧ (Xe r acc n).n ≤ n + r.length ∧ (Xe r acc n).text ≠ [] ∧ (Xe r acc n).kind = 3
  | _, [], acc, n, _, he => absurd he (by rw [quoteGo_nil]; simp [Nx.err])
  | 0, b :: s, acc, n, hk, he => by simp at hk
  | k + 1, b :: s, acc, n, hk, he => by
    revert he hk
    refine quote_cases (fun b s => (b :: s).length ≤ k + 1 → (Xe (b :: s) acc n).e = 0 → n < (Xe (b :: s) acc n).n ∧ (Xe (b :: s) acc n).n ≤ n + (b :: s).length ∧ (Xe (b :: s) acc n).text ≠ [] ∧ (Xe (b :: s) acc n).kind = 3) ?_ ?_ ?_ b s
    · intro b s hb hk he
      rw [quoteGo_other hb] at he ⊢
      have := quoteGo_ok k s (acc ++ [b]) (n + 1) (by simp at hk; omega) he
      simp only [List.length_cons]
      exact ⟨by omega, by omega, this.2.2⟩
    · intro r hk he
      rw [quoteGo_two] at he ⊢
      have := quoteGo_ok k r (acc ++ [34]) (n + 2) (by simp at hk; omega) he
      simp only [List.length_cons]
      exact ⟨by omega, by omega, this.2.2⟩
    · intro s hs hk he
      rw [quoteGo_end hs] at he ⊢
      by_cases ha : acc = []
      · rw [if_pos ha] at he
        exact absurd he (by simp [Nx.err])
      · rw [if_neg ha]
        exact ⟨Nat.lt_succ_self n, by simp, ha, rfl⟩
theorem quote_ok {s : Str} {i : Nat} (hi : i < s.length) (h34 : s.getD i 0 = 34) (he : (quoteE s i).e = 0) : NxOk s i (quoteE s i) := by
  unfold quoteE at he ⊢
  have := quoteGo_ok _ _ _ _ (Nat.le_refl _) he
  rw [List.length_drop] at this
  refine ⟨by omega, by omega, this.2.2.1, fun _ => h34, fun e => absurd this.2.2.2 e, ?_, ?_⟩ <;> rw [this.2.2.2] <;> decide
theorem numF_pos {w1 w2 sg : Bool} {d0 d : Nat} {t : Nx} (hn : 0 < (numF w1 w2 sg d0 d t).n) : numF w1 w2 sg d0 d t = t ∧ ¬ (0 < d0 ∧ w1 = true) ∧ d ≠ 0 ∧ w2 = false ∧ d ≤ 18 := by
  unfold numF at hn ⊢
  by_cases c1 : 0 < d0 ∧ w1 = true
  · rw [if_pos c1] at hn
    split at hn <;> exact absurd hn (by simp [Nx.err])
  rw [if_neg c1] at hn ⊢
  by_cases c2 : d = 0
  · rw [if_pos c2] at hn
    exact absurd hn (by simp [Nx.err])
  rw [if_neg c2] at hn ⊢
  by_cases c3 : w2 = true
  · rw [if_pos c3] at hn
    exact absurd hn (by simp [Nx.err])
  rw [if_neg c3] at hn ⊢
  by_cases c4 : 18 < d
  · rw [if_pos c4] at hn
    exact absurd hn (by simp [Nx.err])
  rw [if_neg c4]
  exact ⟨rfl, c1, c2, by simpa using c3, by omega⟩
theorem signed_byte {s : Str} {i : Nat} (h : Qz s i = true) : qA s i = 43 ∨ qA s i = 45 := by
  unfold Qz at h
  simp only [Bool.and_eq_true, Bool.or_eq_true, decide_eq_true_eq] at h
  exact h.1
theorem dot_at {s : Str} {i : Nat} (h : dotE s i = true) : qA s ((i : Int) + (n1E s i : Nat)) = 46 ∧ Xh (qA s ((i : Int) + (n1E s i : Nat) + 1)) = true ∧ i + n1E s i < s.length := by
  unfold dotE at h
  simp only [Bool.and_eq_true, decide_eq_true_eq] at h
  refine ⟨h.1, h.2, peekE_in (i := i + n1E s i) ?_⟩
  rw [show ((i + n1E s i : Nat) : Int) = i + ((n1E s i : Nat) : Int) by omega, h.1]
  decide
theorem n1_le {s : Str} {i : Nat} (hi : i < s.length) : i + n1E s i ≤ s.length := by
  have h0 := runE_le s (i + (Qz s i).toNat) Xh (by have := Bool.toNat_le (Qz s i); omega)
  unfold n1E d0E
  omega
theorem numLen_le {s : Str} {i : Nat} (hi : i < s.length) : i + Zl s i ≤ s.length := by
  unfold Zl
  split
  · rename_i h
    have := (dot_at h).2.2
    have := runE_le s (i + n1E s i + 1) Xh (by omega)
    unfold moreE
    omega
  · exact n1_le hi
theorem numLen_pos {s : Str} {i : Nat} (h : numDig s i ≠ 0) : 0 < Zl s i := by
  unfold numDig at h
  unfold Zl
  split
  · omega
  · rename_i c
    rw [if_neg c] at h
    unfold n1E
    omega
theorem number_ok {s : Str} {i : Nat} (hi : i < s.length) (hn : 0 < (Xy s i).n) : NxOk s i (Xy s i) := by
  unfold Xy at hn ⊢
  obtain ⟨e, c1, c2, c3, c4⟩ := numF_pos hn
  rw [e]
  refine take_ok hi (numLen_pos c2) (numLen_le hi) (by decide) (by decide) (by decide) (foldB_low ?_)
  by_cases hs : Qz s i = true
  · have := signed_byte hs
    rw [Qn hi] at this
    rcases this with e | e <;> rw [e] <;> decide
  · have hs : Qz s i = false := by simpa using hs
    by_cases hd : 0 < d0E s i
    · unfold d0E at hd
      rw [hs] at hd
      exact digitB_low (by have := runE_all (n := 1) (i := i + 0) hd 0 (by omega); simpa using this)
    · have hq : dotE s i = true := by
        cases hq : dotE s i with
        | true => rfl
        | false =>
          unfold numDig at c2
          rw [hq] at c2
          simp at c2
          omega
      have := (dot_at hq).1
      have e9 : n1E s i = 0 := by
        unfold n1E
        rw [hs]
        simp
        omega
      rw [e9] at this
      simp only [Int.natCast_zero, Int.add_zero] at this
      rw [Qn hi] at this
      rw [this]
      decide
theorem name_ok {s : Str} {i : Nat} (hi : i < s.length) (hw : QP (s.getD i 0) = true) (he : (nameE s i).e = 0) : NxOk s i (nameE s i) := by
  unfold nameE at he ⊢
  simp only at he ⊢
  have hp := runE_pos hi hw
  have hr := runE_le s i QP (by omega)
  have := fold_head hi hp
  generalize Zn s i QP = n at he hp hr this ⊢
  by_cases c1 : ((QK ((s.drop i).take n)).all fun b => Xh b || decide (b = 45)) = true ∨ (QK ((s.drop i).take n)).getD 0 0 = 45 ∨ (QK ((s.drop i).take n)).getD (n - 1) 0 = 45
  · rw [if_pos c1] at he
    exact absurd he (by simp [Nx.err])
  rw [if_neg c1] at he ⊢
  by_cases c2 : 30 < n
  · rw [if_pos c2] at he
    exact absurd he (by simp [Nx.err])
  rw [if_neg c2]
  exact ⟨hp, hr, this.2, fun e => absurd e (show ¬ (1 : UInt8) = 3 by decide), fun _ => this.1, show 1 ≤ (1 : UInt8).toNat by decide, show (1 : UInt8).toNat ≤ 7 by decide⟩
theorem sign_ok {s : Str} {i : Nat} (hi : i < s.length) (he : (signE s i).e = 0) : NxOk s i (signE s i) := by
  unfold signE at he ⊢
  split at he
  · rename_i g hg
    have hm := List.mem_of_find?_eq_some hg
    have hp := List.find?_some hg
    have hpre := List.isPrefixOf_iff_prefix.1 hp
    have hlen := hpre.length_le
    rw [List.length_drop] at hlen
    obtain ⟨r, hr⟩ := hpre
    rw [drop_eq hi] at hr
    have key : ∀ g ∈ signs, 0 < g.length ∧ (g.getD 0 0).toNat < 97 := by decide
    obtain ⟨k1, k2⟩ := key g hm
    refine take_ok hi k1 (by omega) (by decide) (by decide) (by decide) (foldB_low ?_)
    cases g with
    | nil => simp at k1
    | cons x g =>
      simp only [List.cons_append, List.cons.injEq] at hr
      rw [← hr.1]
      exact k2
  · exact absurd he (by decide)
/-- What is read at a place that is not a space. -/
theorem next_ok {s : Str} {i : Nat} {l : List TokC} (hi : i < s.length) (h32 : s.getD i 0 ≠ 32) (he : (QJ s i l).e = 0) : NxOk s i (QJ s i l) := by
  unfold QJ at he ⊢
  simp only at he ⊢
  split at he
  · rename_i c
    rw [if_pos c]
    exact picture_ok hi h32 he
  rename_i c1
  rw [if_neg c1]
  split at he
  · rename_i c
    rw [if_pos c]
    rw [Qn hi] at c
    exact quote_ok hi c he
  rename_i c2
  rw [if_neg c2]
  split at he
  · rename_i c
    rw [if_pos c]
    rw [Qn hi] at c
    exact take_ok hi (by decide) (by omega) (by decide) (by decide) (by decide) (foldB_low (by rw [c.1]; decide))
  rename_i c3
  rw [if_neg c3]
  split at he
  · rename_i c
    rw [if_pos c]
    have hpre := List.isPrefixOf_iff_prefix.1 c
    have hlen := hpre.length_le
    rw [List.length_drop] at hlen
    obtain ⟨r, hr⟩ := hpre
    rw [drop_eq hi] at hr
    simp only [List.cons_append, List.cons.injEq] at hr
    exact take_ok hi (by decide) (by simp at hlen; omega) (by decide) (by decide) (by decide) (foldB_low (by rw [← hr.1]; decide))
  rename_i c4
  rw [if_neg c4]
  split at he
  · rename_i c
    rw [if_pos c]
    exact number_ok hi (c.resolve_right (fun q => q he))
  rename_i c5
  rw [if_neg c5]
  split at he
  · rename_i c
    rw [if_pos c]
    rw [Qn hi] at c
    exact name_ok hi c.1 he
  rename_i c6
  rw [if_neg c6]
  exact sign_ok hi he
theorem quoteGo_text : ∀ (k : Nat) (r acc : Str) (n : Nat), r.length ≤ k → (Xe r acc n).text.length ≤ acc.length + r.length
  | _, [], acc, n, _ => by rw [quoteGo_nil]; simp [Nx.err]
  | 0, b :: s, acc, n, hk => by simp at hk
  | k + 1, b :: s, acc, n, hk => by
    revert hk
    refine quote_cases (fun b s => (b :: s).length ≤ k + 1 → (Xe (b :: s) acc n).text.length ≤ acc.length + (b :: s).length) ?_ ?_ ?_ b s
    · intro b s hb hk
      rw [quoteGo_other hb]
      have := quoteGo_text k s (acc ++ [b]) (n + 1) (by simp at hk; omega)
      simp only [List.length_append, List.length_cons, List.length_nil] at this ⊢
      omega
    · intro r hk
      rw [quoteGo_two]
      have := quoteGo_text k r (acc ++ [34]) (n + 2) (by simp at hk; omega)
      simp only [List.length_append, List.length_cons, List.length_nil] at this ⊢
      omega
    · intro s hs hk
      rw [quoteGo_end hs]
      split
      · simp [Nx.err]
      · simp only [List.length_cons]
        omega
theorem take_text (s : Str) (i n : Nat) (k : UInt8) : (takeE s i k n).text.length ≤ s.length := by
  show ((s.drop i).take n).length ≤ _
  rw [List.length_take, List.length_drop]
  omega
/-- A token's text is not longer than the card's. -/
theorem next_text (s : Str) (i : Nat) (l : List TokC) (hi : i < s.length) : (QJ s i l).text.length ≤ s.length + 2 := by
  unfold QJ
  simp only
  split
  · unfold Xu
    split
    · show 2 ≤ _
      omega
    · simp only
      generalize Zn s i (fun b => !decide (b = 32)) = n0
      generalize (if endsB (qA s ((i : Int) + (n0 : Int) - 1)) = true then (n0 : Int) - 1 else (n0 : Int)) = m
      by_cases h1 : m = 0 ∨ endsB (qA s ((i : Int) + m - 1)) = true
      · rw [if_pos h1]; simp [Nx.err]
      · rw [if_neg h1]
        by_cases h2 : (QK ((s.drop i).take m.toNat)).contains 34 = true
        · rw [if_pos h2]; simp [Nx.err]
        · rw [if_neg h2]
          show (List.map XA ((s.drop i).take m.toNat)).length ≤ _
          rw [List.length_map, List.length_take, List.length_drop]
          omega
  split
  · have := quoteGo_text _ (s.drop (i + 1)) [] 1 (Nat.le_refl _)
    rw [List.length_drop] at this
    unfold quoteE
    simp only [List.length_nil] at this
    omega
  split
  · have := take_text s i 1 6; omega
  split
  · have := take_text s i 2 7; omega
  split
  · unfold Xy numF
    have := take_text s i (Zl s i) 2
    repeat' split
    all_goals first | (simp [Nx.err]; done) | omega
  split
  · unfold nameE
    simp only
    generalize Zn s i QP = n
    by_cases c1 : ((QK ((s.drop i).take n)).all fun b => Xh b || decide (b = 45)) = true ∨ (QK ((s.drop i).take n)).getD 0 0 = 45 ∨ (QK ((s.drop i).take n)).getD (n - 1) 0 = 45
    · rw [if_pos c1]; simp [Nx.err]
    rw [if_neg c1]
    by_cases c2 : 30 < n
    · rw [if_pos c2]; simp [Nx.err]
    rw [if_neg c2]
    show (List.map XA ((s.drop i).take n)).length ≤ _
    rw [List.length_map, List.length_take, List.length_drop]
    omega
  · unfold signE
    split
    · rename_i g hg
      have := take_text s i g.length 5
      omega
    · simp [Nx.err]
end Go.Tok

/-
  Plain laws of tokens: what is read does not depend on what lies far from it; a text that is divided at a space outside of quotes.
  Conditions: none.
-/
namespace Go.Tok
open Go.Col (Str CardC FaultC okF readE atE quotes Qy)
set_option maxRecDepth 100000

theorem odd_nil : Qy [] = false := rfl
theorem odd_cons (b : UInt8) (s : Str) : Qy (b :: s) = if b = 34 then !Qy s else Qy s := by
  unfold Qy quotes
  rw [List.countP_cons]
  by_cases h : b = 34
  · subst h
    simp only [beq_self_eq_true, if_true]
    rw [Bool.eq_iff_iff]
    simp
    omega
  · rw [if_neg h]
    simp [h]
theorem odd_append (a b : Str) : Qy (a ++ b) = (Qy a != Qy b) := by
  induction a with
  | nil => rw [List.nil_append, odd_nil]; cases Qy b <;> rfl
  | cons x a ih =>
    rw [List.cons_append, odd_cons, odd_cons, ih]
    split
    · cases Qy a <;> cases Qy b <;> rfl
    · rfl
theorem odd_none {s : Str} (h : ∀ x ∈ s, x ≠ 34) : Qy s = false := by
  induction s with
  | nil => rfl
  | cons x s ih =>
    rw [odd_cons, if_neg (h x (by simp))]
    exact ih fun y hy => h y (by simp [hy])

/-! ### Skipping -/
def skp (s : Str) (next : Bool) (i : Nat) : Prop := qA s i = 32 ∨ (next = false ∧ sepB (qA s i) = true ∧ qA s (i + 1) = 32)
instance (s : Str) (next : Bool) (i : Nat) : Decidable (skp s next i) := by unfold skp; infer_instance
theorem Zd (s : Str) (next : Bool) (i : Nat) : Xb s next i = if s.length ≤ i then i else if skp s next i then Xb s next (i + 1) else i := by
  unfold Xb
  by_cases h : s.length ≤ i
  · rw [if_pos h, show s.length - i = 0 by omega]
    rfl
  · rw [if_neg h, show s.length - i = (s.length - (i + 1)) + 1 by omega, skipGo, if_neg h]
    rfl
theorem skipE_ind (s : Str) (next : Bool) (P : Nat → Nat → Prop) (h0 : ∀ i, s.length ≤ i → P i i) (h1 : ∀ i, i < s.length → ¬ skp s next i → P i i) (h2 : ∀ i j, i < s.length → skp s next i → P (i + 1) j → P i j) : ∀ (k i : Nat), s.length ≤ i + k → P i (Xb s next i)
  | 0, i, h => by
    rw [Zd, if_pos (by omega)]
    exact h0 i (by omega)
  | k + 1, i, h => by
    rw [Zd]
    split
    · exact h0 i (by assumption)
    · rename_i hl
      split
      · exact h2 i _ (by omega) (by assumption) (skipE_ind s next P h0 h1 h2 k (i + 1) (by omega))
      · exact h1 i (by omega) (by assumption)
theorem skipE_ge (s : Str) (next : Bool) (i : Nat) : i ≤ Xb s next i :=
  skipE_ind s next (fun i j => i ≤ j) (fun _ _ => Nat.le_refl _) (fun _ _ _ => Nat.le_refl _) (fun _ _ _ _ h => by omega) s.length i (by omega)
theorem skipE_le (s : Str) (next : Bool) (i : Nat) (hi : i ≤ s.length) : Xb s next i ≤ s.length :=
  skipE_ind s next (fun i j => i ≤ s.length → j ≤ s.length) (fun _ _ h => h) (fun _ _ _ h => h) (fun _ _ _ _ h _ => h (by omega)) s.length i (by omega) hi
theorem skipE_stop {s : Str} {next : Bool} {i : Nat} (h : Xb s next i < s.length) : ¬ skp s next (Xb s next i) :=
  skipE_ind s next (fun _ j => j < s.length → ¬ skp s next j) (fun _ h1 h2 => by omega) (fun _ _ h _ => h) (fun _ _ _ _ h => h) s.length i (by omega) h
theorem skp_byte {s : Str} {next : Bool} {i : Nat} (h : skp s next i) (hi : i < s.length) : s.getD i 0 ≠ 34 := by
  rcases h with h | ⟨_, h, _⟩
  · rw [Qn hi] at h
    rw [h]; decide
  · rw [Qn hi] at h
    intro e
    rw [e] at h
    exact absurd h (by decide)
theorem skipE_odd (s : Str) (next : Bool) (i : Nat) : Qy (s.drop (Xb s next i)) = Qy (s.drop i) :=
  skipE_ind s next (fun i j => Qy (s.drop j) = Qy (s.drop i)) (fun _ _ => rfl) (fun _ _ _ => rfl) (fun i j hi hs h => by
    rw [h, drop_eq hi, odd_cons, if_neg (skp_byte hs hi)]) s.length i (by omega)

/-! ### What is read depends on the byte before and what follows -/
theorem peek_norm (s : Str) (i : Nat) {k : Int} (hk : -1 ≤ k) (hi : i ≤ s.length) : qA (qA s ((i : Int) - 1) :: s.drop i) (1 + k) = qA s (i + k) := by
  by_cases h : k = -1
  · subst h
    show qA _ 0 = qA s ((i : Int) + -1)
    rw [show (i : Int) + -1 = (i : Int) - 1 by omega]
    rfl
  · obtain ⟨m, rfl⟩ : ∃ m : Nat, k = m := ⟨k.toNat, by omega⟩
    by_cases hm : i + m < s.length
    · rw [show (1 : Int) + (m : Int) = ((m + 1 : Nat) : Int) by omega, show (i : Int) + (m : Int) = ((i + m : Nat) : Int) by omega, Qn hm, Qn (by simp; omega)]
      simp [List.getD]
    · rw [peekE_ge (.inr (by simp; omega)), peekE_ge (.inr (by omega))]
theorem run_norm (s : Str) (i k : Nat) (p : UInt8 → Bool) (b : UInt8) : Zn (b :: s.drop i) (1 + k) p = Zn s (i + k) p := by
  unfold Zn
  rw [Nat.add_comm 1 k, List.drop_succ_cons, List.drop_drop]
theorem drop_norm (s : Str) (i k : Nat) (b : UInt8) : (b :: s.drop i).drop (1 + k) = s.drop (i + k) := by
  rw [Nat.add_comm 1 k, List.drop_succ_cons, List.drop_drop]
theorem run_pos32 {s : Str} {i : Nat} (h : qA s i ≠ 32) : 0 < Zn s i (fun b => !decide (b = 32)) := by
  have hi := peekE_in h
  rw [Qn hi] at h
  exact runE_pos hi (by simpa using h)
theorem pic_norm (s : Str) (i : Nat) (h : qA s i ≠ 32) (is : Bool) : Xu (qA s ((i : Int) - 1) :: s.drop i) 1 is = Xu s i is := by
  have hi := Nat.le_of_lt (peekE_in h)
  have p0 := peek_norm s i (k := 0) (by omega) hi
  have p1 := peek_norm s i (k := 1) (by omega) hi
  have p2 := peek_norm s i (k := 2) (by omega) hi
  have r0 := run_norm s i 0 (fun b => !decide (b = 32)) (qA s ((i : Int) - 1))
  have d0 := drop_norm s i 0 (qA s ((i : Int) - 1))
  have hp := run_pos32 h
  rw [Int.add_zero, Int.add_zero] at p0
  rw [Nat.add_zero, Nat.add_zero] at r0 d0
  unfold Xu
  rw [show ((1 : Nat) : Int) = 1 from rfl, p0, p1, p2, r0, d0]
  simp only
  generalize Zn s i (fun b => !decide (b = 32)) = n0 at hp ⊢
  have q1 := peek_norm s i (k := (n0 : Int) - 1) (by omega) hi
  rw [show (1 : Int) + (n0 : Int) - 1 = 1 + ((n0 : Int) - 1) by omega, q1, show (i : Int) + ((n0 : Int) - 1) = (i : Int) + (n0 : Int) - 1 by omega]
  generalize hm : (if endsB (qA s ((i : Int) + (n0 : Int) - 1)) = true then (n0 : Int) - 1 else (n0 : Int)) = m
  have hm0 : 0 ≤ m := by rw [← hm]; split <;> omega
  have q2 := peek_norm s i (k := m - 1) (by omega) hi
  rw [show (1 : Int) + m - 1 = 1 + (m - 1) by omega, q2, show (i : Int) + (m - 1) = (i : Int) + m - 1 by omega]
theorem quote_norm (s : Str) (i : Nat) (b : UInt8) : quoteE (b :: s.drop i) 1 = quoteE s i := by
  unfold quoteE
  rw [show (1 + 1 : Nat) = 1 + 1 from rfl, drop_norm]
theorem number_norm (s : Str) (i : Nat) (hi : i ≤ s.length) : Xy (qA s ((i : Int) - 1) :: s.drop i) 1 = Xy s i := by
  have p0 := peek_norm s i (k := 0) (by omega) hi
  have pm := peek_norm s i (k := -1) (by omega) hi
  rw [Int.add_zero, Int.add_zero] at p0
  have pq : ∀ n : Nat, qA (qA s ((i : Int) - 1) :: s.drop i) (((1 : Nat) : Int) + (n : Int)) = qA s (i + n) := fun n => peek_norm s i (by omega) hi
  have pq1 : ∀ n : Nat, qA (qA s ((i : Int) - 1) :: s.drop i) (((1 : Nat) : Int) + (n : Int) + 1) = qA s (i + n + 1) := fun n => by
    have := peek_norm s i (k := (n : Int) + 1) (by omega) hi
    rw [← Int.add_assoc, ← Int.add_assoc] at this
    exact this
  have rq : ∀ (n : Nat), Zn (qA s ((i : Int) - 1) :: s.drop i) (1 + n) Xh = Zn s (i + n) Xh := fun n => run_norm s i n Xh _
  have rq1 : ∀ (n : Nat), Zn (qA s ((i : Int) - 1) :: s.drop i) (1 + n + 1) Xh = Zn s (i + n + 1) Xh := fun n => by
    rw [Nat.add_assoc, run_norm, Nat.add_assoc]
  have d0 := drop_norm s i 0 (qA s ((i : Int) - 1))
  rw [Nat.add_zero, Nat.add_zero] at d0
  have e1 : Qz (qA s ((i : Int) - 1) :: s.drop i) 1 = Qz s i := by
    unfold Qz
    rw [show ((1 : Nat) : Int) = 1 from rfl, show (1 : Int) - 1 = 1 + -1 from rfl, p0, pm, show (i : Int) + -1 = (i : Int) - 1 by omega]
  have e2 : d0E (qA s ((i : Int) - 1) :: s.drop i) 1 = d0E s i := by unfold d0E; rw [e1, rq]
  have e3 : n1E (qA s ((i : Int) - 1) :: s.drop i) 1 = n1E s i := by unfold n1E; rw [e1, e2]
  have e4 : dotE (qA s ((i : Int) - 1) :: s.drop i) 1 = dotE s i := by unfold dotE; rw [e3, pq, pq1]
  have e5 : moreE (qA s ((i : Int) - 1) :: s.drop i) 1 = moreE s i := by unfold moreE; rw [e3, rq1]
  have e6 : Zl (qA s ((i : Int) - 1) :: s.drop i) 1 = Zl s i := by unfold Zl; rw [e3, e4, e5]
  have e7 : numDig (qA s ((i : Int) - 1) :: s.drop i) 1 = numDig s i := by unfold numDig; rw [e2, e4, e5]
  unfold Xy takeE
  rw [e1, e2, e3, e6, e7, pq, pq, d0]
theorem name_norm (s : Str) (i : Nat) (b : UInt8) : nameE (b :: s.drop i) 1 = nameE s i := by
  have r0 := run_norm s i 0 QP b
  have d0 := drop_norm s i 0 b
  rw [Nat.add_zero, Nat.add_zero] at r0 d0
  unfold nameE
  rw [r0, d0]
theorem sign_norm (s : Str) (i : Nat) (b : UInt8) : signE (b :: s.drop i) 1 = signE s i := by
  have d0 := drop_norm s i 0 b
  rw [Nat.add_zero, Nat.add_zero] at d0
  unfold signE takeE
  rw [d0]
/-- What is read at a place is known from the byte before and the bytes that follow. -/
theorem next_norm (s : Str) (i : Nat) (l : List TokC) (h : qA s i ≠ 32) : QJ (qA s ((i : Int) - 1) :: s.drop i) 1 l = QJ s i l := by
  have hi := Nat.le_of_lt (peekE_in h)
  have p0 := peek_norm s i (k := 0) (by omega) hi
  have p1 := peek_norm s i (k := 1) (by omega) hi
  have d0 := drop_norm s i 0 (qA s ((i : Int) - 1))
  rw [Int.add_zero, Int.add_zero] at p0
  rw [Nat.add_zero, Nat.add_zero] at d0
  unfold QJ takeE
  rw [show ((1 : Nat) : Int) = 1 from rfl, p0, p1, d0, pic_norm s i h, quote_norm, number_norm s i hi, name_norm, sign_norm]

/-! ### Behind another text -/
theorem peek_shift {w v : Str} {k : Int} (h : 0 ≤ k) : qA (w ++ v) (w.length + k) = qA v k := by
  obtain ⟨m, rfl⟩ : ∃ m : Nat, k = m := ⟨k.toNat, by omega⟩
  by_cases hm : m < v.length
  · rw [show (w.length : Int) + (m : Int) = ((w.length + m : Nat) : Int) by omega, Qn hm, Qn (by simp; omega), List.getD, List.getD, List.getElem?_append_right (by omega), Nat.add_sub_cancel_left]
  · rw [peekE_ge (.inr (by simp; omega)), peekE_ge (.inr (by omega))]
theorem peek_shift1 {w v : Str} {i : Nat} (h : w.getLast? = some 32) : qA (w ++ v) ((w.length + i : Nat) - 1) = qA v ((i : Int) - 1) := by
  cases i with
  | zero =>
    have hw : w ≠ [] := fun e => by rw [e] at h; cases h
    have h0 : 0 < w.length := List.length_pos_iff.2 hw
    rw [peekE_ge (s := v) (.inl (by omega)), show ((w.length + 0 : Nat) : Int) - 1 = ((w.length - 1 : Nat) : Int) by omega, Qn (by simp; omega)]
    rw [List.getLast?_eq_getElem?] at h
    rw [List.getD, List.getElem?_append_left (by omega), h]
    rfl
  | succ i =>
    rw [show ((w.length + (i + 1) : Nat) : Int) - 1 = (w.length : Int) + (i : Int) by omega, peek_shift (by omega)]
    congr 1
    omega
theorem drop_shift (w v : Str) (i : Nat) : (w ++ v).drop (w.length + i) = v.drop i := by
  rw [List.drop_append, List.drop_of_length_le (by omega), List.nil_append]
  congr 1
  omega
theorem next_shift {w v : Str} {i : Nat} (l : List TokC) (hw : w.getLast? = some 32) (h : qA v i ≠ 32) : QJ (w ++ v) (w.length + i) l = QJ v i l := by
  rw [← next_norm v i l h, ← next_norm (w ++ v) (w.length + i) l (by
    rw [show ((w.length + i : Nat) : Int) = (w.length : Int) + (i : Int) by omega, peek_shift (by omega)]
    exact h), peek_shift1 hw, drop_shift]
theorem skp_shift {w v : Str} {next : Bool} {i : Nat} : skp (w ++ v) next (w.length + i) ↔ skp v next i := by
  unfold skp
  rw [show ((w.length + i : Nat) : Int) = (w.length : Int) + (i : Int) by omega, peek_shift (by omega), Int.add_assoc, peek_shift (by omega)]
theorem skipE_shift (w v : Str) (next : Bool) (i : Nat) : Xb (w ++ v) next (w.length + i) = w.length + Xb v next i := by
  refine skipE_ind v next (fun i j => Xb (w ++ v) next (w.length + i) = w.length + j) (fun i h => ?_) (fun i h1 h2 => ?_) (fun i j h1 h2 h3 => ?_) v.length i (by omega)
  · rw [Zd, if_pos (by simp; omega)]
  · rw [Zd, if_neg (by simp; omega), if_neg (fun q => h2 (skp_shift.1 q))]
  · rw [Zd, if_neg (by simp; omega), if_pos (skp_shift.2 h2)]
    exact h3

/-! ### In front of a space -/
theorem peek_app {u v : Str} {k : Int} (h : k ≤ u.length) : qA (u ++ 32 :: v) k = qA u k := by
  by_cases h0 : k < 0
  · rw [peekE_ge (.inl h0), peekE_ge (.inl h0)]
  · obtain ⟨m, rfl⟩ : ∃ m : Nat, k = m := ⟨k.toNat, by omega⟩
    by_cases hm : m < u.length
    · rw [Qn hm, Qn (by simp; omega)]
      simp [List.getD, List.getElem?_append_left hm]
    · have e : m = u.length := by omega
      subst e
      rw [peekE_ge (s := u) (.inr (by omega)), Qn (by simp)]
      simp [List.getD]
theorem run_app {u v : Str} {p : UInt8 → Bool} (hp : p 32 = false) : ∀ (f i : Nat), u.length ≤ i + f → i ≤ u.length → Zn (u ++ 32 :: v) i p = Zn u i p
  | f, i, h, hi => by
    by_cases e : i = u.length
    · subst e
      rw [runE_step, runE_step u, if_neg, if_neg (fun q => by omega)]
      rintro ⟨_, q⟩
      rw [show (u ++ 32 :: v).getD u.length 0 = 32 by simp [List.getD], hp] at q
      cases q
    · have hl : i < u.length := by omega
      have hg : (u ++ 32 :: v).getD i 0 = u.getD i 0 := by simp [List.getD, List.getElem?_append_left hl]
      rw [runE_step, runE_step u, hg]
      cases f with
      | zero => omega
      | succ f =>
        rw [run_app hp f (i + 1) (by omega) (by omega)]
        simp only [List.length_append, List.length_cons]
        by_cases q : p (u.getD i 0) = true
        · rw [if_pos ⟨by omega, q⟩, if_pos ⟨hl, q⟩]
        · rw [if_neg (fun e => q e.2), if_neg (fun e => q e.2)]
theorem take_app {u v : Str} {i n : Nat} (h : i + n ≤ u.length) : ((u ++ 32 :: v).drop i).take n = (u.drop i).take n := by
  rw [List.drop_append_of_le_length (by omega), List.take_append_of_le_length (by simp; omega)]
theorem pre_app {g : Str} (hg : (32 : UInt8) ∉ g) : ∀ (u v : Str), g.isPrefixOf (u ++ 32 :: v) = g.isPrefixOf u := by
  induction g with
  | nil => intro u v; simp
  | cons x g ih =>
    simp only [List.mem_cons, not_or] at hg
    intro u v
    cases u with
    | nil =>
      simp only [List.nil_append, List.isPrefixOf]
      simp [Ne.symm hg.1]
    | cons y u => simp only [List.cons_append, List.isPrefixOf, ih hg.2]
theorem quoteGo_app {v : Str} : ∀ (k : Nat) (u acc : Str) (n : Nat), u.length ≤ k → Qy u = true → Xe (u ++ 32 :: v) acc n = Xe u acc n
  | _, [], acc, n, _, ho => by cases ho
  | 0, b :: s, acc, n, hk, _ => by simp at hk
  | k + 1, b :: s, acc, n, hk, ho => by
    revert ho hk
    refine quote_cases (fun b s => (b :: s).length ≤ k + 1 → Qy (b :: s) = true → Xe ((b :: s) ++ 32 :: v) acc n = Xe (b :: s) acc n) ?_ ?_ ?_ b s
    · intro b s hb hk ho
      rw [odd_cons, if_neg hb] at ho
      rw [List.cons_append, quoteGo_other hb, quoteGo_other hb]
      exact quoteGo_app k s _ _ (by simp at hk; omega) ho
    · intro r hk ho
      rw [odd_cons, odd_cons, if_pos rfl, if_pos rfl, Bool.not_not] at ho
      rw [List.cons_append, List.cons_append, quoteGo_two, quoteGo_two]
      exact quoteGo_app k r _ _ (by simp at hk; omega) ho
    · intro s hs hk ho
      rw [List.cons_append, quoteGo_end hs, quoteGo_end]
      cases s with
      | nil => simp
      | cons c r => exact hs
theorem pic_app {u v : Str} {i : Nat} (hi : i < u.length) (h : qA u i ≠ 32) (is : Bool) : Xu (u ++ 32 :: v) i is = Xu u i is := by
  have p0 := peek_app (u := u) (v := v) (k := i) (by omega)
  have p1 := peek_app (u := u) (v := v) (k := (i : Int) + 1) (by omega)
  have r0 := run_app (u := u) (v := v) (p := fun b => !decide (b = 32)) (by decide) u.length i (by omega) (by omega)
  have hp := run_pos32 h
  have hl := runE_le u i (fun b => !decide (b = 32)) (by omega)
  unfold Xu
  rw [p0, p1, r0]
  simp only
  generalize Zn u i (fun b => !decide (b = 32)) = n0 at hp hl ⊢
  rw [peek_app (u := u) (v := v) (k := (i : Int) + (n0 : Int) - 1) (by omega)]
  generalize hm : (if endsB (qA u ((i : Int) + (n0 : Int) - 1)) = true then (n0 : Int) - 1 else (n0 : Int)) = m
  have hm0 : 0 ≤ m ∧ m ≤ n0 := by rw [← hm]; split <;> omega
  rw [peek_app (u := u) (v := v) (k := (i : Int) + m - 1) (by omega), take_app (by omega)]
  by_cases hf : QK [qA u i, qA u (i + 1)] = IS
  · have h2 : i + 1 < u.length := by
      refine peekE_in (i := i + 1) fun e => ?_
      simp only [QK, List.map_cons, List.map_nil, IS, List.cons.injEq, and_true] at hf
      have := hf.2
      rw [show (i : Int) + 1 = ((i + 1 : Nat) : Int) by omega, e] at this
      exact absurd this (by decide)
    rw [peek_app (u := u) (v := v) (k := (i : Int) + 2) (by omega)]
  · have f1 : ¬ (is = true ∧ QK [qA u i, qA u (i + 1)] = IS ∧ QP (qA (u ++ 32 :: v) (i + 2)) = false) := fun q => hf q.2.1
    have f2 : ¬ (is = true ∧ QK [qA u i, qA u (i + 1)] = IS ∧ QP (qA u (i + 2)) = false) := fun q => hf q.2.1
    rw [if_neg f1, if_neg f2]
theorem number_app {u v : Str} {i : Nat} (hi : i < u.length) : Xy (u ++ 32 :: v) i = Xy u i := by
  have p0 := peek_app (u := u) (v := v) (k := i) (by omega)
  have pm := peek_app (u := u) (v := v) (k := (i : Int) - 1) (by omega)
  have hb := Bool.toNat_le (Qz u i)
  have h1 := n1_le hi
  have h2 := numLen_le hi
  have e1 : Qz (u ++ 32 :: v) i = Qz u i := by unfold Qz; rw [p0, pm]
  have e2 : d0E (u ++ 32 :: v) i = d0E u i := by unfold d0E; rw [e1, run_app (p := Xh) (by decide) u.length _ (by omega) (by omega)]
  have e3 : n1E (u ++ 32 :: v) i = n1E u i := by unfold n1E; rw [e1, e2]
  have e4 : dotE (u ++ 32 :: v) i = dotE u i := by
    by_cases hd : qA u ((i : Int) + (n1E u i : Nat)) = 46
    · have h3 : i + n1E u i < u.length := by
        refine peekE_in (i := i + n1E u i) fun e => ?_
        rw [show ((i + n1E u i : Nat) : Int) = i + ((n1E u i : Nat) : Int) by omega, hd] at e
        exact absurd e (by decide)
      unfold dotE
      rw [e3, peek_app (by omega), peek_app (by omega)]
    · unfold dotE
      rw [e3, peek_app (by omega), decide_eq_false hd, Bool.false_and, Bool.false_and]
  have e5 : dotE u i = true → moreE (u ++ 32 :: v) i = moreE u i := fun hd => by
    have := (dot_at hd).2.2
    unfold moreE
    rw [e3, run_app (p := Xh) (by decide) u.length _ (by omega) (by omega)]
  have e6 : Zl (u ++ 32 :: v) i = Zl u i := by
    unfold Zl
    rw [e3, e4]
    split
    · rename_i hd
      rw [e5 hd]
    · rfl
  have e7 : numDig (u ++ 32 :: v) i = numDig u i := by
    unfold numDig
    rw [e2, e4]
    split
    · rename_i hd
      rw [e5 hd]
    · rfl
  unfold Xy takeE
  rw [e1, e2, e3, e6, e7, peek_app (by omega), peek_app (by omega), take_app h2]
theorem name_app {u v : Str} {i : Nat} (hi : i < u.length) : nameE (u ++ 32 :: v) i = nameE u i := by
  unfold nameE
  rw [run_app (p := QP) (by decide) u.length i (by omega) (by omega)]
  simp only
  rw [take_app (runE_le u i QP (by omega))]
theorem sign_app {u v : Str} {i : Nat} (hi : i < u.length) : signE (u ++ 32 :: v) i = signE u i := by
  unfold signE
  rw [List.drop_append_of_le_length (by omega)]
  have e : signs.find? (fun g => g.isPrefixOf (u.drop i ++ 32 :: v)) = signs.find? (fun g => g.isPrefixOf (u.drop i)) := by
    have hs : ∀ g ∈ signs, (32 : UInt8) ∉ g := by decide
    generalize signs = L at hs ⊢
    induction L with
    | nil => rfl
    | cons g L ih =>
      rw [List.find?_cons, List.find?_cons, pre_app (hs g (by simp)), ih fun x hx => hs x (by simp [hx])]
  rw [e]
  split
  · rename_i g hg
    have hp := List.find?_some hg
    have hlen := (List.isPrefixOf_iff_prefix.1 hp).length_le
    rw [List.length_drop] at hlen
    unfold takeE
    rw [take_app (by omega)]
  · rfl
theorem next_app {u v : Str} {i : Nat} (l : List TokC) (h : qA u i ≠ 32) (hq : u.getD i 0 = 34 → Qy (u.drop (i + 1)) = true) : QJ (u ++ 32 :: v) i l = QJ u i l := by
  have hi := peekE_in h
  have p0 := peek_app (u := u) (v := v) (k := i) (by omega)
  have p1 := peek_app (u := u) (v := v) (k := (i : Int) + 1) (by omega)
  have pe : List.isPrefixOf [61, 61] ((u ++ 32 :: v).drop i) = List.isPrefixOf [61, 61] (u.drop i) := by
    rw [List.drop_append_of_le_length (by omega)]
    exact pre_app (by decide) _ _
  unfold QJ
  rw [pe, p0, p1, pic_app hi h, number_app hi, name_app hi, sign_app hi]
  simp only
  split
  · rfl
  split
  · rename_i c
    unfold quoteE
    rw [List.drop_append_of_le_length (by omega)]
    rw [Qn hi] at c
    exact quoteGo_app _ _ _ _ (Nat.le_refl _) (hq c)
  split
  · unfold takeE
    rw [take_app (by omega)]
  split
  · rename_i c
    have hlen := (List.isPrefixOf_iff_prefix.1 c).length_le
    simp at hlen
    unfold takeE
    rw [take_app (by omega)]
  rfl
end Go.Tok

/-
  Plain laws of tokens: scanning without positions; a text that is divided at a space outside of quotes is scanned part by part.
  Conditions: none.
-/
namespace Go.Tok
open Go.Col (Str CardC FaultC okF readE atE quotes Qy)
set_option maxRecDepth 100000

theorem odd_take {s : Str} {i n : Nat} (h : ∀ j, j < n → s.getD (i + j) 0 ≠ 34) : Qy ((s.drop i).take n) = false := by
  refine odd_none fun x hx => ?_
  obtain ⟨j, hj, rfl⟩ := List.getElem_of_mem hx
  simp only [List.length_take, List.length_drop] at hj
  have := h j (by omega)
  rw [List.getD, List.getElem?_eq_getElem (by omega)] at this
  simpa using this
theorem quoteGo_par : ∀ (k : Nat) (r acc : Str) (n : Nat), r.length ≤ k → (Xe r acc n).e = 0 → Qy (r.take ((Xe r acc n).n - n)) = true
  | _, [], acc, n, _, he => absurd he (by rw [quoteGo_nil]; simp [Nx.err])
  | 0, b :: s, acc, n, hk, he => by simp at hk
  | k + 1, b :: s, acc, n, hk, he => by
    revert he hk
    refine quote_cases (fun b s => (b :: s).length ≤ k + 1 → (Xe (b :: s) acc n).e = 0 → Qy ((b :: s).take ((Xe (b :: s) acc n).n - n)) = true) ?_ ?_ ?_ b s
    · intro b s hb hk he
      rw [quoteGo_other hb] at he ⊢
      have h1 := quoteGo_par k s (acc ++ [b]) (n + 1) (by simp at hk; omega) he
      have h2 := quoteGo_ok k s (acc ++ [b]) (n + 1) (by simp at hk; omega) he
      rw [show (Xe s (acc ++ [b]) (n + 1)).n - n = ((Xe s (acc ++ [b]) (n + 1)).n - (n + 1)) + 1 by omega, List.take_succ_cons, odd_cons, if_neg hb, h1]
    · intro r hk he
      rw [quoteGo_two] at he ⊢
      have h1 := quoteGo_par k r (acc ++ [34]) (n + 2) (by simp at hk; omega) he
      have h2 := quoteGo_ok k r (acc ++ [34]) (n + 2) (by simp at hk; omega) he
      rw [show (Xe r (acc ++ [34]) (n + 2)).n - n = ((Xe r (acc ++ [34]) (n + 2)).n - (n + 2)) + 1 + 1 by omega, List.take_succ_cons, List.take_succ_cons, odd_cons, odd_cons, if_pos rfl, if_pos rfl, h1]
      rfl
    · intro s hs hk he
      rw [quoteGo_end hs] at he ⊢
      by_cases ha : acc = []
      · rw [if_pos ha] at he
        exact absurd he (by simp [Nx.err])
      · rw [if_neg ha]
        simp only
        rw [show n + 1 - n = 1 by omega, List.take_succ_cons, List.take_zero, odd_cons, if_pos rfl]
        rfl
theorem fold34 {b : UInt8} (h : b = 34) : XA b = 34 := by subst h; rfl
theorem digit34 {b : UInt8} (h : Xh b = true) : b ≠ 34 := fun e => by subst e; exact absurd h (by decide)
theorem wordy34 {b : UInt8} (h : QP b = true) : b ≠ 34 := fun e => by subst e; exact absurd h (by decide)
theorem picture_par {s : Str} {i : Nat} {is : Bool} (h : qA s i ≠ 32) (he : (Xu s i is).e = 0) : Qy ((s.drop i).take (Xu s i is).n) = false := by
  have hi := peekE_in h
  unfold Xu at he ⊢
  by_cases hc : is = true ∧ QK [qA s i, qA s (i + 1)] = IS ∧ QP (qA s (i + 2)) = false
  · rw [if_pos hc]
    have h1 : XA (qA s i) = 73 ∧ XA (qA s (i + 1)) = 83 := by
      have := hc.2.1
      simp only [QK, List.map_cons, List.map_nil, IS, List.cons.injEq, and_true] at this
      exact this
    have h2 : i + 1 < s.length := by
      refine peekE_in (i := i + 1) fun e => ?_
      have := h1.2
      rw [show (i : Int) + 1 = ((i + 1 : Nat) : Int) by omega, e] at this
      exact absurd this (by decide)
    refine odd_take fun j hj => ?_
    have hj2 : j < 2 := hj
    have : j = 0 ∨ j = 1 := by omega
    rcases this with rfl | rfl
    · intro e
      rw [Qn hi, ← Nat.add_zero i, e] at h1
      exact absurd h1.1 (by decide)
    · intro e
      rw [show (i : Int) + 1 = ((i + 1 : Nat) : Int) by omega, Qn h2, e] at h1
      exact absurd h1.2 (by decide)
  · rw [if_neg hc] at he ⊢
    simp only at he ⊢
    generalize Zn s i (fun b => !decide (b = 32)) = n0 at he ⊢
    generalize (if endsB (qA s ((i : Int) + (n0 : Int) - 1)) = true then (n0 : Int) - 1 else (n0 : Int)) = m at he ⊢
    by_cases h1 : m = 0 ∨ endsB (qA s ((i : Int) + m - 1)) = true
    · rw [if_pos h1] at he
      exact absurd he (by simp [Nx.err])
    · rw [if_neg h1] at he ⊢
      by_cases h2 : (QK ((s.drop i).take m.toNat)).contains 34 = true
      · rw [if_pos h2] at he
        exact absurd he (by simp [Nx.err])
      · rw [if_neg h2]
        refine odd_none fun x hx e => h2 ?_
        rw [List.contains_iff_mem]
        exact List.mem_map.2 ⟨x, hx, fold34 e⟩
theorem number_par {s : Str} {i : Nat} (hn : 0 < (Xy s i).n) : Qy ((s.drop i).take (Xy s i).n) = false := by
  unfold Xy at hn ⊢
  obtain ⟨e, c1, c2, c3, c4⟩ := numF_pos hn
  rw [e]
  refine odd_take fun j hj => ?_
  have hj' : j < Zl s i := hj
  have hb := Bool.toNat_le (Qz s i)
  by_cases hin : i + j < s.length
  · by_cases h0 : j < (Qz s i).toNat
    · have hj0 : j = 0 := by omega
      have hs : Qz s i = true := by
        cases h : Qz s i with
        | true => rfl
        | false => rw [h] at h0; simp at h0
      subst hj0
      have := signed_byte hs
      rw [Qn (by omega)] at this
      intro e
      rw [Nat.add_zero] at e
      rw [e] at this
      exact absurd this (by decide)
    · by_cases h1 : j < n1E s i
      · have := runE_all (s := s) (p := Xh) (n := d0E s i) (i := i + (Qz s i).toNat) (Nat.le_refl _) (j - (Qz s i).toNat) (by unfold n1E at h1; omega)
        rw [show i + (Qz s i).toNat + (j - (Qz s i).toNat) = i + j by omega] at this
        exact digit34 this
      · have hd : dotE s i = true := by
          cases h : dotE s i with
          | true => rfl
          | false =>
            unfold Zl at hj'
            rw [h] at hj'
            simp at hj'
            omega
        unfold Zl at hj'
        rw [if_pos hd] at hj'
        by_cases h2 : j = n1E s i
        · have h4 := (dot_at hd).1
          rw [show (i : Int) + ((n1E s i : Nat) : Int) = ((i + j : Nat) : Int) by omega, Qn hin] at h4
          rw [h4]
          decide
        · have := runE_all (s := s) (p := Xh) (n := moreE s i) (i := i + n1E s i + 1) (Nat.le_refl _) (j - n1E s i - 1) (by omega)
          rw [show i + n1E s i + 1 + (j - n1E s i - 1) = i + j by omega] at this
          exact digit34 this
  · rw [List.getD, List.getElem?_eq_none (by omega)]
    decide
theorem next_par {s : Str} {i : Nat} {l : List TokC} (h : qA s i ≠ 32) (he : (QJ s i l).e = 0) : Qy ((s.drop i).take (QJ s i l).n) = false := by
  have hi := peekE_in h
  unfold QJ at he ⊢
  simp only at he ⊢
  split at he
  · rename_i c
    rw [if_pos c]
    exact picture_par h he
  rename_i c1
  rw [if_neg c1]
  split at he
  · rename_i c
    rw [if_pos c]
    rw [Qn hi] at c
    unfold quoteE at he ⊢
    have h1 := quoteGo_par _ _ _ _ (Nat.le_refl _) he
    have h2 := quoteGo_ok _ _ _ _ (Nat.le_refl _) he
    rw [drop_eq hi, show (Xe (s.drop (i + 1)) [] 1).n = ((Xe (s.drop (i + 1)) [] 1).n - 1) + 1 by omega, List.take_succ_cons, odd_cons, if_pos c, h1]
    rfl
  rename_i c2
  rw [if_neg c2]
  split at he
  · rename_i c
    rw [if_pos c]
    rw [Qn hi] at c
    refine odd_take fun j hj => ?_
    have hj : j < 1 := hj
    rw [show i + j = i by omega, c.1]
    decide
  rename_i c3
  rw [if_neg c3]
  split at he
  · rename_i c
    rw [if_pos c]
    obtain ⟨r, hr⟩ := List.isPrefixOf_iff_prefix.1 c
    rw [← hr]
    rfl
  rename_i c4
  rw [if_neg c4]
  split at he
  · rename_i c
    rw [if_pos c]
    exact number_par (c.resolve_right (fun q => q he))
  rename_i c5
  rw [if_neg c5]
  split at he
  · rename_i c
    rw [if_pos c]
    have hr := runE_all (s := s) (p := QP) (i := i) (Nat.le_refl _)
    unfold nameE at he ⊢
    simp only at he ⊢
    generalize Zn s i QP = n at he hr ⊢
    by_cases d1 : ((QK ((s.drop i).take n)).all fun b => Xh b || decide (b = 45)) = true ∨ (QK ((s.drop i).take n)).getD 0 0 = 45 ∨ (QK ((s.drop i).take n)).getD (n - 1) 0 = 45
    · rw [if_pos d1] at he
      exact absurd he (by simp [Nx.err])
    rw [if_neg d1] at he ⊢
    by_cases d2 : 30 < n
    · rw [if_pos d2] at he
      exact absurd he (by simp [Nx.err])
    rw [if_neg d2]
    exact odd_take fun j hj => wordy34 (hr j hj)
  rename_i c6
  rw [if_neg c6]
  unfold signE at he ⊢
  split at he
  · rename_i g hg
    have hm := List.mem_of_find?_eq_some hg
    have hp := List.find?_some hg
    obtain ⟨r, hr⟩ := List.isPrefixOf_iff_prefix.1 hp
    have key : ∀ g ∈ signs, Qy g = false := by decide
    simp only [takeE]
    rw [← hr, List.take_left]
    exact key g hm
  · exact absurd he (by decide)

/-! ### Scanning without positions -/
def kt (t : TokC) : UInt8 × Str := (t.kind, t.text)
def tokN (t : Nx) : TokC := ⟨t.kind, t.text, 0, 0, false⟩
theorem wordE_kt {l m : List TokC} (h : l.map kt = m.map kt) (n : Nat) (ws : List Str) : wordE l n ws = wordE m n ws := by
  have h1 : l.reverse.map kt = m.reverse.map kt := by rw [List.map_reverse, List.map_reverse, h]
  have h2 : (l.reverse[n - 1]?).map kt = (m.reverse[n - 1]?).map kt := by rw [← List.getElem?_map, ← List.getElem?_map, h1]
  unfold wordE
  cases e1 : l.reverse[n - 1]? with
  | none =>
    cases e2 : m.reverse[n - 1]? with
    | none => rfl
    | some t => rw [e1, e2] at h2; cases h2
  | some t =>
    cases e2 : m.reverse[n - 1]? with
    | none => rw [e1, e2] at h2; cases h2
    | some u =>
      rw [e1, e2] at h2
      simp only [Option.map_some, Option.some.injEq, kt, Prod.mk.injEq] at h2
      simp only [h2.1, h2.2]
theorem picE_kt {l m : List TokC} (h : l.map kt = m.map kt) : QM l = QM m := by
  unfold QM
  rw [wordE_kt h, wordE_kt h, wordE_kt h]
theorem nextE_kt {s : Str} {i : Nat} {l m : List TokC} (h : l.map kt = m.map kt) : QJ s i l = QJ s i m := by
  unfold QJ
  rw [picE_kt h]
/-- A token's error, where there may be too many tokens. -/
def errE (t : Nx) (n : Nat) : Int := if t.e = 0 ∧ 65536 ≤ n then 3 else t.e
theorem errE_ok {t : Nx} {n : Nat} (h : errE t n = 0) : t.e = 0 := by
  unfold errE at h
  split at h
  · exact absurd h (by decide)
  · exact h
/-- The tokens of a text from a place on, behind those before; the error. -/
def absGo (s : Str) : Nat → Nat → List TokC → List TokC × Int
  | 0, _, l => (l, 0)
  | f + 1, at0, l =>
    if s.length ≤ Xb s (QM l).1 at0 then (l, 0)
    else if errE (QJ s (Xb s (QM l).1 at0) l) l.length ≠ 0 then (l, errE (QJ s (Xb s (QM l).1 at0) l) l.length)
    else absGo s f (Xb s (QM l).1 at0 + (QJ s (Xb s (QM l).1 at0) l).n) (l ++ [tokN (QJ s (Xb s (QM l).1 at0) l)])
def absE (s : Str) (i : Nat) (l : List TokC) : List TokC × Int := absGo s (s.length + 1 - i) i l
theorem skip_not {s : Str} {next : Bool} {i : Nat} (h : Xb s next i < s.length) : qA s (Xb s next i) ≠ 32 := fun e => skipE_stop h (.inl e)
theorem next_len {s : Str} {l : List TokC} {i : Nat} (h : Xb s (QM l).1 i < s.length) (he : (QJ s (Xb s (QM l).1 i) l).e = 0) : NxOk s (Xb s (QM l).1 i) (QJ s (Xb s (QM l).1 i) l) :=
  next_ok h (by have := skip_not h; rwa [Qn h] at this) he
theorem absGo_fuel (s : Str) : ∀ (f g i : Nat) (l : List TokC), s.length < i + f → s.length < i + g → absGo s f i l = absGo s g i l
  | 0, g, i, l, h, h' => by
    have hj := skipE_ge s (QM l).1 i
    cases g with
    | zero => rfl
    | succ g => rw [absGo, absGo, if_pos (by omega)]
  | f + 1, 0, i, l, h, h' => by
    have hj := skipE_ge s (QM l).1 i
    rw [absGo, absGo, if_pos (by omega)]
  | f + 1, g + 1, i, l, h, h' => by
    have hj := skipE_ge s (QM l).1 i
    rw [absGo, absGo]
    split
    · rfl
    · rename_i hl
      split
      · rfl
      · rename_i he
        have hn := next_len (by omega) (errE_ok (Decidable.of_not_not he))
        have := hn.n0
        exact absGo_fuel s f g _ _ (by omega) (by omega)
theorem absE_step (s : Str) (i : Nat) (l : List TokC) : absE s i l =
    if s.length ≤ Xb s (QM l).1 i then (l, 0)
    else if errE (QJ s (Xb s (QM l).1 i) l) l.length ≠ 0 then (l, errE (QJ s (Xb s (QM l).1 i) l) l.length)
    else absE s (Xb s (QM l).1 i + (QJ s (Xb s (QM l).1 i) l).n) (l ++ [tokN (QJ s (Xb s (QM l).1 i) l)]) := by
  have hj := skipE_ge s (QM l).1 i
  by_cases h : s.length < i
  · unfold absE
    rw [show s.length + 1 - i = 0 by omega, absGo, if_pos (by omega)]
  · unfold absE
    rw [show s.length + 1 - i = (s.length - i) + 1 by omega, absGo]
    split
    · rfl
    · split
      · rfl
      · rename_i hl he
        have hn := next_len (by omega) (errE_ok (Decidable.of_not_not he))
        have := hn.n0
        exact absGo_fuel s _ _ _ _ (by omega) (by omega)
/-- A card's tokens are those of its text. -/
theorem cardGo_abs (c : CardC) : ∀ (f i : Nat) (l m : List TokC), l.map kt = m.map kt → (cardGo c f i l).1.map kt = (absGo c.text f i m).1.map kt ∧ (cardGo c f i l).2.e = (absGo c.text f i m).2
  | 0, i, l, m, h => ⟨h, rfl⟩
  | f + 1, i, l, m, h => by
    have hl : l.length = m.length := by have := congrArg List.length h; simpa using this
    rw [cardGo, absGo]
    simp only
    rw [picE_kt h, nextE_kt h, hl]
    split
    · exact ⟨h, rfl⟩
    · show _ ∧ _
      rw [show (if (QJ c.text (Xb c.text (QM m).1 i) m).e = 0 ∧ 65536 ≤ m.length then 3 else (QJ c.text (Xb c.text (QM m).1 i) m).e) = errE (QJ c.text (Xb c.text (QM m).1 i) m) m.length from rfl]
      split
      · exact ⟨h, rfl⟩
      · exact cardGo_abs c f _ _ _ (by rw [List.map_append, List.map_append, h]; rfl)
theorem drop_take_odd {s : Str} {i n : Nat} (h : Qy ((s.drop i).take n) = false) : Qy (s.drop (i + n)) = Qy (s.drop i) := by
  have e : s.drop i = (s.drop i).take n ++ s.drop (i + n) := by rw [← List.drop_drop, List.take_append_drop]
  rw [e, odd_append, h]
  cases Qy (s.drop (i + n)) <;> simp
theorem skp_app {u v : Str} {next : Bool} {i : Nat} (hi : i < u.length) : skp (u ++ 32 :: v) next i ↔ skp u next i := by
  unfold skp
  rw [peek_app (by omega), peek_app (by omega)]
theorem skipE_app (u v : Str) (next : Bool) : ∀ (k i : Nat), u.length ≤ i + k → i ≤ u.length → (Xb u next i < u.length ∧ Xb (u ++ 32 :: v) next i = Xb u next i) ∨ (Xb u next i = u.length ∧ Xb (u ++ 32 :: v) next i = Xb (u ++ 32 :: v) next (u.length + 1))
  | k, i, h, hi => by
    by_cases e : i = u.length
    · subst e
      refine .inr ⟨by rw [Zd, if_pos (Nat.le_refl _)], ?_⟩
      rw [Zd, if_neg (by simp), if_pos]
      left
      rw [Qn (by simp)]
      simp [List.getD]
    · cases k with
      | zero => omega
      | succ k =>
        by_cases q : skp u next i
        · have e1 : Xb u next i = Xb u next (i + 1) := by rw [Zd, if_neg (by omega), if_pos q]
          have e2 : Xb (u ++ 32 :: v) next i = Xb (u ++ 32 :: v) next (i + 1) := by rw [Zd, if_neg (by simp; omega), if_pos ((skp_app (by omega)).2 q)]
          rw [e1, e2]
          exact skipE_app u v next k (i + 1) (by omega) (by omega)
        · have e1 : Xb u next i = i := by rw [Zd, if_neg (by omega), if_neg q]
          have e2 : Xb (u ++ 32 :: v) next i = i := by rw [Zd, if_neg (by simp; omega), if_neg (fun z => q ((skp_app (by omega)).1 z))]
          rw [e1, e2]
          exact .inl ⟨by omega, rfl⟩
theorem abs_shift (w v : Str) (hw : w.getLast? = some 32) : ∀ (k i : Nat) (l : List TokC), v.length ≤ i + k → absE (w ++ v) (w.length + i) l = absE v i l
  | k, i, l, h => by
    have hj := skipE_ge v (QM l).1 i
    rw [absE_step, absE_step v, skipE_shift]
    simp only [List.length_append]
    by_cases hl : v.length ≤ Xb v (QM l).1 i
    · rw [if_pos hl, if_pos (by omega)]
    · rw [if_neg hl, if_neg (by omega), next_shift l hw (skip_not (by omega))]
      split
      · rfl
      · rename_i he
        have hn := next_len (by omega) (errE_ok (Decidable.of_not_not he))
        have := hn.n0
        cases k with
        | zero => omega
        | succ k =>
          rw [Nat.add_assoc]
          exact abs_shift w v hw k _ _ (by omega)
/-- A text behind another one. -/
def thenE (r : List TokC × Int) (v : Str) : List TokC × Int := if r.2 ≠ 0 then r else absE v 0 r.1
theorem abs_app (u v : Str) : ∀ (k i : Nat) (l : List TokC), u.length ≤ i + k → i ≤ u.length → Qy (u.drop i) = false → absE (u ++ 32 :: v) i l = thenE (absE u i l) v
  | k, i, l, h, hi, ho => by
    have hj := skipE_ge u (QM l).1 i
    rcases skipE_app u v (QM l).1 u.length i (by omega) hi with ⟨q1, q2⟩ | ⟨q1, q2⟩
    · have hp := skip_not q1
      have hod := skipE_odd u (QM l).1 i
      rw [ho] at hod
      have hnx := next_app (v := v) l hp (fun e => by
        rw [drop_eq q1, odd_cons, if_pos e] at hod
        simpa using hod)
      rw [absE_step, absE_step u, q2, hnx, if_neg (show ¬ (u ++ 32 :: v).length ≤ Xb u (QM l).1 i by simp; omega), if_neg (show ¬ u.length ≤ Xb u (QM l).1 i by omega)]
      split
      · rename_i he
        unfold thenE
        rw [if_pos he]
      · rename_i he
        have he' := errE_ok (Decidable.of_not_not he)
        have hn := next_len q1 he'
        have h0 := hn.n0
        have h1 := hn.n1
        cases k with
        | zero => omega
        | succ k =>
          exact abs_app u v k _ _ (by omega) (by omega) (by rw [drop_take_odd (next_par hp he')]; exact hod)
    · have e1 : absE u i l = (l, 0) := by rw [absE_step, if_pos (by omega)]
      have e2 : absE (u ++ 32 :: v) i l = absE (u ++ 32 :: v) (u.length + 1) l := by rw [absE_step, q2, absE_step (u ++ 32 :: v) (u.length + 1)]
      have e3 : u ++ 32 :: v = (u ++ [32]) ++ v := by simp
      rw [e1, e2]
      unfold thenE
      rw [if_neg (by simp), e3, show u.length + 1 = (u ++ [32]).length + 0 by simp, abs_shift _ _ (by simp) v.length 0 l (by omega)]
/-- A text that is divided at a space outside of quotes is scanned part by part. -/
theorem abs_cut {u v : Str} (l : List TokC) (ho : Qy u = false) : absE (u ++ 32 :: v) 0 l = thenE (absE u 0 l) v := abs_app u v u.length 0 l (by omega) (by omega) ho
end Go.Tok

/-
  An assertion layer over the model's wp, part BA: slices of elements of several cells.
  Conditions: none. Nothing here is about a particular program.
-/
namespace Go.AM

/-! ### The rest of a body -/
def bodyOf (fn : Func) : Code := match fn.body with
  | some c => c
  | none => .skip
def dropSeq : Nat → Code → Code
  | 0, c => c
  | k + 1, .seq _ c => dropSeq k c
  | _ + 1, c => c

def unScope : Code → Code
  | .scope c => c
  | c => c

/-! ### A body that holds labels, none of which is jumped to -/
def noGotoA (Q : Exit → Slots → AHeap → Prop) : Exit → Slots → AHeap → Prop
  | .goto _, _, _ => False
  | e, s, h => Q e s h
theorem noGotoA_ret {Q : Exit → Slots → AHeap → Prop} {s : Slots} {h : AHeap} : noGotoA Q .ret s h = Q .ret s h := rfl
theorem awp_scope {P : Program} {w₀ : World} {n : Nat} {s : Slots} {h : AHeap} {Q : Exit → Slots → AHeap → Prop} {c : Code} (hc : Awp P w₀ n c (noGotoA Q) s h) : Awp P w₀ n (.scope c) Q s h :=
  fun φ a w hr hs => wp_scope_straight (wp_mono (hc φ a w hr hs) fun e a' w' hq => by
    obtain ⟨ψ, s', h', h1, h2, h3, h4⟩ := hq
    cases e with
    | goto l => exact h4.elim
    | normal => exact ⟨ψ, s', h', h1, h2, h3, h4⟩
    | exit i => exact ⟨ψ, s', h', h1, h2, h3, h4⟩
    | ret => exact ⟨ψ, s', h', h1, h2, h3, h4⟩
    | panic c => exact ⟨ψ, s', h', h1, h2, h3, h4⟩
    | outgrown => exact ⟨ψ, s', h', h1, h2, h3, h4⟩)

/-! ### A value that holds a row of elements, es cells each -/
inductive IsL (w₀ : World) (h : AHeap) (es : Nat) : AVal → List (List AVal) → Prop
  | nil : IsL w₀ h es .nilSlice []
  | mk (l : Loc) (o n : Nat) (c : Cap) (xs : List (List AVal)) (hn : n = xs.length) (hw : ∀ x ∈ xs, x.length = es) (hc : qf w₀ h l o (n * es) = xs.flatten) (hl : allLive xs.flatten = true) (hcap : match c with | .exact c => n ≤ c | .grow g => g = es) : IsL w₀ h es (.slice l o n c) xs

theorem flatten_len {α : Type} {es : Nat} : ∀ {xs : List (List α)}, (∀ x ∈ xs, x.length = es) → xs.flatten.length = xs.length * es
  | [], _ => by simp
  | x :: xs, h => by
    rw [List.flatten_cons, List.length_append, flatten_len (fun y hy => h y (List.mem_cons_of_mem _ hy)), h x (List.mem_cons_self), List.length_cons, Nat.succ_mul, Nat.add_comm]
theorem flatten_get {α : Type} {es : Nat} : ∀ {xs : List (List α)}, (∀ x ∈ xs, x.length = es) → ∀ {i j : Nat}, i < xs.length → j < es → xs.flatten[i * es + j]? = (xs.getD i [])[j]?
  | [], _, _, _, hi, _ => by simp at hi
  | x :: xs, h, 0, j, _, hj => by
    rw [List.flatten_cons, Nat.zero_mul, Nat.zero_add, List.getElem?_append_left (by rw [h x List.mem_cons_self]; exact hj)]
    rfl
  | x :: xs, h, i + 1, j, hi, hj => by
    have hx := h x List.mem_cons_self
    rw [List.flatten_cons, List.getElem?_append_right (by rw [hx, Nat.succ_mul]; omega), hx, show (i + 1) * es + j - es = i * es + j by rw [Nat.succ_mul]; omega, flatten_get (fun y hy => h y (List.mem_cons_of_mem _ hy)) (by simpa using hi) hj]
    rfl
theorem flatten_drop {α : Type} {es : Nat} : ∀ {xs : List (List α)}, (∀ x ∈ xs, x.length = es) → ∀ i, xs.flatten.drop (i * es) = (xs.drop i).flatten
  | xs, _, 0 => by simp
  | [], _, i + 1 => by simp
  | x :: xs, h, i + 1 => by
    have hx := h x List.mem_cons_self
    rw [List.flatten_cons, List.drop_succ_cons, ← flatten_drop (fun y hy => h y (List.mem_cons_of_mem _ hy)) i, Nat.succ_mul, List.drop_append, List.drop_of_length_le (by omega), List.nil_append, show i * es + es - x.length = i * es by omega]
theorem flatten_take {α : Type} {es : Nat} : ∀ {xs : List (List α)}, (∀ x ∈ xs, x.length = es) → ∀ i, xs.flatten.take (i * es) = (xs.take i).flatten
  | xs, _, 0 => by simp
  | [], _, i + 1 => by simp
  | x :: xs, h, i + 1 => by
    have hx := h x List.mem_cons_self
    rw [List.flatten_cons, List.take_succ_cons, List.flatten_cons, ← flatten_take (fun y hy => h y (List.mem_cons_of_mem _ hy)) i, Nat.succ_mul, Nat.add_comm, List.take_append, List.take_of_length_le (by omega), show es + i * es - x.length = i * es by omega]
theorem allLive_append : ∀ (a c : List AVal), allLive (a ++ c) = (allLive a && allLive c)
  | [], _ => rfl
  | x :: a, c => by simp [allLive, allLive_append a c, Bool.and_assoc]
theorem allLive_flatten : ∀ {xs : List (List AVal)}, allLive xs.flatten = true ↔ ∀ x ∈ xs, allLive x = true
  | [] => by simp [allLive]
  | x :: xs => by
    rw [List.flatten_cons, allLive_append, Bool.and_eq_true, allLive_flatten]
    simp
/-- A part of a slice. -/
def subL (es : Nat) : AVal → Nat → Nat → AVal
  | .slice l o _ (.exact c), i, j => .slice l (o + i * es) (j - i) (.exact (c - i))
  | .slice l o _ (.grow g), i, j => .slice l (o + i * es) (j - i) (.grow g)
  | v, _, _ => v
section
variable {P : Program} {w₀ : World} {h : AHeap} {es : Nat} {v : AVal} {xs : List (List AVal)}

theorem IsL.live (hb : IsL w₀ h es v xs) : v.live = true := by cases hb <;> rfl
theorem IsL.scal (hb : IsL w₀ h es v xs) : v.scal = true := by cases hb <;> rfl
theorem IsL.cells (hb : IsL w₀ h es v xs) : v.cells = [v] := by cases hb <;> rfl
theorem IsL.wide (hb : IsL w₀ h es v xs) : ∀ x ∈ xs, x.length = es := by
  cases hb with
  | nil => simp
  | mk l o n c xs hn hw hc hl hcap => exact hw
theorem IsL.allLive (hb : IsL w₀ h es v xs) : allLive xs.flatten = true := by
  cases hb with
  | nil => rfl
  | mk l o n c xs hn hw hc hl hcap => exact hl
theorem IsL.len (hb : IsL w₀ h es v xs) {t e : TypeId} (ht : P.underlying t = some (.slice e)) : pLen P t v = ⟨True, .int .i64 xs.length⟩ := by
  cases hb with
  | nil => simp [pLen, ht]
  | mk l o n c xs hn hw hc hl hcap => simp [pLen, ht, hn]
theorem IsL.open (hb : IsL w₀ h es v xs) (hx : xs ≠ []) : ∃ l o c, v = .slice l o xs.length c := by
  cases hb with
  | nil => exact absurd rfl hx
  | mk l o n c xs hn hw hc hl hcap => subst hn; exact ⟨l, o, c, rfl⟩
theorem IsL.open' (hb : IsL w₀ h es v xs) : (v = .nilSlice ∧ xs = []) ∨ ∃ l o c, v = .slice l o xs.length c := by
  cases hb with
  | nil => exact .inl ⟨rfl, rfl⟩
  | mk l o n c xs hn hw hc hl hcap => subst hn; exact .inr ⟨l, o, c, rfl⟩
theorem IsL.part {l : Loc} {o n : Nat} {c : Cap} (hb : IsL w₀ h es (.slice l o n c) xs) {i j : Nat} (hij : i ≤ j) (hj : j ≤ xs.length) : qf w₀ h l (o + i * es) ((j - i) * es) = ((xs.drop i).take (j - i)).flatten := by
  cases hb with
  | mk l o n c xs hn hw hc hl hcap =>
    subst hn
    have h1 : i * es ≤ j * es := Nat.mul_le_mul_right _ hij
    have h2 : j * es ≤ xs.length * es := Nat.mul_le_mul_right _ hj
    rw [Nat.sub_mul, cellsAt_part w₀ h l o (xs.length * es) (i * es) (j * es) h1 h2, hc, flatten_drop hw, ← Nat.sub_mul, flatten_take (fun y hy => hw y (List.mem_of_mem_drop hy))]
theorem IsL.elem {l : Loc} {o n : Nat} {c : Cap} (hb : IsL w₀ h es (.slice l o n c) xs) {i : Nat} (hi : i < xs.length) : qf w₀ h l (o + i * es) es = xs.getD i [] := by
  have := hb.part (i := i) (j := i + 1) (by omega) hi
  rw [show i + 1 - i = 1 by omega, Nat.one_mul] at this
  rw [this, List.take_one, List.head?_drop, List.getElem?_eq_getElem hi]
  simp [List.getD, hi]
/-- A slice that has no room behind its elements. -/
def capL : AVal → AVal
  | .slice l o n _ => .slice l o n (.exact n)
  | v => v
theorem IsL.clip (hb : IsL w₀ h es v xs) : IsL w₀ h es (capL v) xs := by
  cases hb with
  | nil => exact .nil
  | mk l o n c xs hn hw hc hl hcap => exact .mk l o n _ xs hn hw hc hl (Nat.le_refl _)
/-- x[:n:n] of a slice of n elements. -/
theorem IsL.slice3 (hb : IsL w₀ h es v xs) {t e : TypeId} (ht : P.underlying t = some (.slice e)) (hs : szOf P e = some es) (k k' : IntKind) (lo : Option AVal) (hl : bndA lo 0 = some 0) : pSlice P t v lo (some (.int k xs.length)) (some (.int k' xs.length)) = ⟨True, capL v⟩ := by
  cases hb with
  | nil => simp only [pSlice, ht, hs, hl, bndA_int, capL, List.length_nil, Option.isSome_some, Int.natCast_zero, and_self]
  | mk lc o n c xs hn hw hc hl' hcap =>
    subst hn
    have z0 : (0 : Int).toNat = 0 := rfl
    have e1 : ((xs.length : Int) - 0).toNat = xs.length := by omega
    cases c with
    | exact c =>
      simp only at hcap
      have e4 : (xs.length : Int) ≤ c := by omega
      simp only [pSlice, ht, hs, hl, bndA_int, capL, z0, e1, Nat.zero_mul, Nat.add_zero, Option.isSome_some, e4, Int.natCast_nonneg, Int.le_refl, and_self]
    | grow g => simp only [pSlice, ht, hs, hl, bndA_int, capL, z0, e1, Nat.zero_mul, Nat.add_zero, Option.isSome_some, Int.natCast_nonneg, Int.le_refl, and_self]
theorem cellsAt_mono {l : Loc} {h h' : AHeap} (hs : Sub h h') : ∀ (m o : Nat), allLive (qf w₀ h l o m) = true → qf w₀ h' l o m = qf w₀ h l o m := by
  intro m
  induction m with
  | zero => intro o _; rfl
  | succ m ih =>
    intro o hl
    simp only [qf, AM.allLive, Bool.and_eq_true] at hl ⊢
    rw [ih _ hl.2]
    congr 1
    cases l with
    | base b => rfl
    | own k =>
      have hl1 := hl.1
      unfold AM.rd at hl1 ⊢
      cases hk : h k with
      | none => simp [hk, AVal.live] at hl1
      | some b => simp only [hk, hs k b hk]
theorem IsL.mono (hb : IsL w₀ h es v xs) {h' : AHeap} (hs : Sub h h') : IsL w₀ h' es v xs := by
  cases hb with
  | nil => exact .nil
  | mk l o n c xs hn hw hc hl hcap => exact .mk l o n c xs hn hw ((cellsAt_mono hs _ _ (by rw [hc]; exact hl)).trans hc) hl hcap
theorem IsL.own {k : Nat} {b : Blk} (hk : h k = some b) (hw : ∀ x ∈ xs, x.length = es) (hc : b.cells = xs.flatten) (hl : AM.allLive xs.flatten = true) (c : Cap) (hcap : match c with | .exact c => xs.length ≤ c | .grow g => g = es) : IsL w₀ h es (.slice (.own k) 0 xs.length c) xs := by
  refine .mk _ _ _ _ _ rfl hw ?_ hl hcap
  have e := flatten_len hw
  rw [cellsAt_own hk 0 _ (by rw [hc, e]; omega), List.drop_zero, hc, List.take_of_length_le (by omega)]
theorem IsL.src (hb : IsL w₀ h es v xs) : srcLen v = some xs.length ∧ srcPre w₀ h es xs.length v ∧ Zg w₀ h es xs.length v = xs.flatten := by
  cases hb with
  | nil => exact ⟨rfl, trivial, rfl⟩
  | mk l o n c xs hn hw hc hl hcap =>
    subst hn
    refine ⟨rfl, ?_, hc⟩
    show AM.allLive (qf w₀ h l o (xs.length * es)) = true
    rw [hc]
    exact hl
/-- What a growing slice holds. -/
theorem IsL.buf {h₀ : AHeap} {b : Option Buf} (hb : bufOk h₀ es b) (hes : 0 < es) (hc : bufC b = xs.flatten) (hw : ∀ x ∈ xs, x.length = es) (hs : Sub (Xv h₀ b) h) : IsL w₀ h es (XM es b) xs := by
  cases b with
  | none =>
    have e := flatten_len hw
    rw [← hc] at e
    have e0 : xs.length * es = 0 := by rw [← e]; rfl
    have : xs = [] := by
      rcases Nat.mul_eq_zero.1 e0 with e1 | e1
      · exact List.eq_nil_of_length_eq_zero e1
      · omega
    subst this
    exact .nil
  | some b =>
    have hc' : b.cells = xs.flatten := hc
    have e : b.cells.length / es = xs.length := by rw [hc', flatten_len hw, Nat.mul_div_cancel _ hes]
    show IsL w₀ h es (.slice (.own b.blk) 0 (b.cells.length / es) (.grow es)) xs
    rw [e]
    exact IsL.own (hs _ _ (AHeap.set_same _ _ _)) hw hc' (by rw [← hc']; exact hb.2.2) (.grow es) rfl
end
/-! ### Blocks beside a growing slice -/
theorem bufNe {H : AHeap} {es : Nat} {b : Buf} (hb : bufOk H es (some b)) {j : Nat} {c : Blk} (hj : H j = some c) : j ≠ b.blk := fun e => by
  subst e
  have := hb.1
  rw [hj] at this
  cases this
theorem bufAt {H : AHeap} {es : Nat} {b : Option Buf} (hb : bufOk H es b) {j : Nat} {c : Blk} (hj : H j = some c) : Xv H b j = some c := by
  cases b with
  | none => exact hj
  | some b => exact (AHeap.set_ne _ _ (bufNe hb hj)).trans hj
theorem rdBuf (w₀ : World) {H : AHeap} {es : Nat} {b : Option Buf} (hb : bufOk H es b) {j : Nat} {c : Blk} (hj : H j = some c) (o : Nat) : rd w₀ (Xv H b) (.own j) o = c.cells.getD o .dead := Xd w₀ (bufAt hb hj) o
/-- A block beside is written: the slice's block stays. -/
theorem bufSet {H : AHeap} {es : Nat} {b : Option Buf} (hb : bufOk H es b) {j : Nat} {c : Blk} (hj : H j = some c) (c' : Blk) : (Xv H b).set j c' = Xv (H.set j c') b := by
  cases b with
  | none => rfl
  | some b => exact (AHeap.set_comm _ _ _ (Ne.symm (bufNe hb hj))).symm
theorem bufOkSet {H : AHeap} {es : Nat} {b : Option Buf} (hb : bufOk H es b) {j : Nat} {c : Blk} (hj : H j = some c) (c' : Blk) : bufOk (H.set j c') es b := by
  cases b with
  | none => trivial
  | some b =>
    refine ⟨?_, hb.2⟩
    rw [AHeap.set_ne _ _ (Ne.symm (bufNe hb hj))]
    exact hb.1
theorem getD_app {D E : List AVal} {m : Nat} (h : D.length = m) (j : Nat) : (D ++ E).getD (m + j) .dead = E.getD j .dead := by
  simp only [List.getD]
  rw [List.getElem?_append_right (by omega), show m + j - D.length = j by omega]
theorem setAt_app {D : List AVal} {m : Nat} (h : D.length = m) : ∀ (vs E : List AVal) (j : Nat), setAt (D ++ E) (m + j) vs = D ++ setAt E j vs
  | [], _, _ => rfl
  | v :: vs, E, j => by
    simp only [setAt]
    rw [List.set_append_right _ _ (by omega), show m + j - D.length = j by omega, Nat.add_assoc, setAt_app h vs]
/-! ### Encoded elements -/
section
variable {α : Type} {w₀ : World} {h : AHeap} {es : Nat} {v : AVal} {enc : α → List AVal} {ys : List α}
theorem getD_map (d : α) {i : Nat} (hi : i < ys.length) : (ys.map enc).getD i [] = enc (ys.getD i d) := by
  simp [List.getD, hi]
end
section
variable {P : Program} {w₀ : World} {ops rest : List Oper} {s : Slots} {h : AHeap} {K : Slots → AHeap → Prop} {dst : Option Tmp} {ty : TypeId} {pos : String} {af : Array Edge}
theorem agL_deadT {r : PR} : agL P w₀ ops rest s h K dst (.bool true) false r = QO P w₀ ops rest (putD s dst (.tuple [])) h K := by
  unfold agL agP
  simp [gKnown, Xg, Qu]
theorem agL_deadF {r : PR} : agL P w₀ ops rest s h K dst (.bool false) true r = QO P w₀ ops rest (putD s dst (.tuple [])) h K := by
  unfold agL agP
  simp [gKnown, Xg, Qu]
/-- Elements behind a growing slice. -/
theorem XF {ts : Array TypeId} {t u e : TypeId} {d : TypeDesc} {x y : Operand} {v : AVal} {es by' : Nat} {z : Value} {zs xs : List (List AVal)} {h₀ : AHeap} {b : Option Buf}
    (h0 : ts[0]? = some t) (h1 : ts[1]? = some u) (ht : P.underlying t = some (.slice e)) (hu : P.underlying u = some d) (hd : ∀ k, d ≠ .int k)
    (hs : szOf P e = some es) (hb : byOf P e = some by') (hz : zeOf P e = some z) (hzs : z.cells.size = es) (hes : es ≠ 0)
    (hx : ev s x = XM es b) (hok : bufOk h₀ es b) (hbz : bufC b = zs.flatten) (hzw : ∀ x ∈ zs, x.length = es) (hh : Sub (Xv h₀ b) h) (hy : ev s y = v) (hv : IsL w₀ h es v xs) (hsc : allScal xs.flatten = true)
    (hl : (zs.length + xs.length) * by' ≤ 140737488355328) (hl' : zs.length + xs.length < 4611686018427387904)
    (hk : ∀ b' h', bufOk h₀ es b' → bufC b' = (zs ++ xs).flatten → Sub (Xv h₀ b') h' → QO P w₀ ops rest (putD s dst (XM es b')) h' K) :
    QO P w₀ ops (⟨dst, .call ⟨.builtin .append, [x, y].toArray, ts⟩, ty, pos, af, none⟩ :: rest) s h K := by
  obtain ⟨s1, s2, s3⟩ := hv.src
  have e : (bufC b).length / es = zs.length := by rw [hbz, flatten_len hzw, Nat.mul_div_cancel _ (Nat.pos_of_ne_zero hes)]
  refine aOps_appendBuf (es := es) (src := xs.flatten) (m := xs.length) h0 h1 ht hu hd hs hb hz hzs hes hx hok hh hy s1 s2 s3 (flatten_len hv.wide) hsc hv.allLive (by rw [e]; exact hl) (by rw [e]; exact hl') fun b' h' o1 o2 o3 => ?_
  exact hk b' h' o1 (by rw [o2, hbz, List.flatten_append]) o3
end
end Go.AM

/-
  An assertion layer over the model's wp, part Y: statements of open order whose calls are chained and leave the told heap, with reading operations between them (rule H).
  Conditions: none. Nothing here is about a particular program.
-/
namespace Go.AM
open Go.RowKit (Below)
section
variable {P : Program} {w₀ : World} {n : Nat}

theorem AHeap.ne_some {h : AHeap} {k j : Nat} {b : Blk} (hk : h k = none) (hj : h j = some b) : k ≠ j := fun e => by subst e; rw [hk] at hj; cases hj
end
end Go.AM

/-
  An assertion layer over the model's wp, part Z: as rule H, with new blocks that may be laid at any time ahead of their use (rule I).
  Conditions: none. Nothing here is about a particular program.
-/
namespace Go.AM
open Go.RowKit (Below)
section
variable {P : Program} {w₀ : World} {n : Nat}

end
end Go.AM

/-
  Facts on the types of this seat's translation, by program (gen_ty.py): cells, bytes, zero values.
  Conditions: none.
-/
namespace Go.Proofs.YtmadddihphkmoaaGreatDoor
open Go.AM

theorem sz3 : szOf Tryz.prog 3 = some 1 := by kernel_rfl
theorem ze3 : zeOf Tryz.prog 3 = some (.int .i64 0) := by kernel_rfl
theorem ag3 : aggOf Tryz.prog 3 = some false := by kernel_rfl
theorem sz4 : szOf Tryz.prog 4 = some 1 := by kernel_rfl
theorem ag4 : aggOf Tryz.prog 4 = some false := by kernel_rfl
theorem sz5 : szOf Tryz.prog 5 = some 1 := by kernel_rfl
theorem by5 : byOf Tryz.prog 5 = some 1 := by kernel_rfl
theorem ze5 : zeOf Tryz.prog 5 = some (.int .u8 0) := by kernel_rfl
theorem ag5 : aggOf Tryz.prog 5 = some false := by kernel_rfl
theorem sz9 : szOf Tryz.prog 9 = some 1 := by kernel_rfl
theorem by9 : byOf Tryz.prog 9 = some 16 := by kernel_rfl
theorem ze9 : zeOf Tryz.prog 9 = some (.string .empty) := by kernel_rfl
theorem ag9 : aggOf Tryz.prog 9 = some false := by kernel_rfl
theorem sz25 : szOf Tryz.prog 25 = some 1 := by kernel_rfl
theorem ag25 : aggOf Tryz.prog 25 = some false := by kernel_rfl
theorem sz29 : szOf Tryz.prog 29 = some 2 := by kernel_rfl
theorem ze29 : zeOf Tryz.prog 29 = some (.agg #[.int .i64 0, .int .i64 0]) := by kernel_rfl
theorem ag29 : aggOf Tryz.prog 29 = some true := by kernel_rfl
theorem QR : szOf Tryz.prog 31 = some 3 := by kernel_rfl
theorem ze31 : zeOf Tryz.prog 31 = some (.agg #[.int .i64 0, .int .i64 0, .int .i64 0]) := by kernel_rfl
theorem XL : aggOf Tryz.prog 31 = some true := by kernel_rfl
theorem egt31 : Tryz.prog.eqGuardType Tryz.prog.depth 31 = false := by kernel_rfl
theorem ag36 : aggOf Tryz.prog 36 = some false := by kernel_rfl
theorem Xi : szOf Tryz.prog 38 = some 5 := by kernel_rfl
theorem by38 : byOf Tryz.prog 38 = some 48 := by kernel_rfl
theorem ze38 : zeOf Tryz.prog 38 = some (.agg #[.int .u8 0, .string .empty, .int .i64 0, .int .i64 0, .bool false]) := by kernel_rfl
theorem ag38 : aggOf Tryz.prog 38 = some true := by kernel_rfl
theorem sz40 : szOf Tryz.prog 40 = some 1 := by kernel_rfl
theorem ag40 : aggOf Tryz.prog 40 = some false := by kernel_rfl
theorem sz46 : szOf Tryz.prog 46 = some 1 := by kernel_rfl
theorem ag46 : aggOf Tryz.prog 46 = some false := by kernel_rfl
theorem sz48 : szOf Tryz.prog 48 = some 3 := by kernel_rfl
theorem by48 : byOf Tryz.prog 48 = some 48 := by kernel_rfl
theorem ze48 : zeOf Tryz.prog 48 = some (.agg #[.bool false, .string .empty, .slice none 0 0]) := by kernel_rfl
theorem ag48 : aggOf Tryz.prog 48 = some true := by kernel_rfl
theorem sz56 : szOf Tryz.prog 56 = some 3 := by kernel_rfl
theorem by56 : byOf Tryz.prog 56 = some 24 := by kernel_rfl
theorem ze56 : zeOf Tryz.prog 56 = some (.agg #[.int .i64 0, .int .i64 0, .int .i64 0]) := by kernel_rfl
theorem ag56 : aggOf Tryz.prog 56 = some true := by kernel_rfl
theorem sz61 : szOf Tryz.prog 61 = some 2 := by kernel_rfl
theorem ze61 : zeOf Tryz.prog 61 = some (.agg #[.bool false, .string .empty]) := by kernel_rfl
theorem ag61 : aggOf Tryz.prog 61 = some true := by kernel_rfl
theorem ag65 : aggOf Tryz.prog 65 = some false := by kernel_rfl
theorem sz67 : szOf Tryz.prog 67 = some 2 := by kernel_rfl
theorem ze72 : zeOf Tryz.prog 72 = some (.agg #[.slice none 0 0, .int .i64 0, .int .i64 0, .bool false]) := by kernel_rfl
theorem sz76 : szOf Tryz.prog 76 = some 4 := by kernel_rfl
theorem ze76 : zeOf Tryz.prog 76 = some (.agg #[.int .i64 0, .bool false, .string .empty, .int .i64 0]) := by kernel_rfl
theorem ag76 : aggOf Tryz.prog 76 = some true := by kernel_rfl
theorem ze89 : zeOf Tryz.prog 89 = some (.agg #[.bool false, .string .empty, .slice none 0 0, .int .i64 0, .slice none 0 0]) := by kernel_rfl
theorem sz97 : szOf Tryz.prog 97 = some 1 := by kernel_rfl
theorem ag97 : aggOf Tryz.prog 97 = some false := by kernel_rfl
theorem ze99 : zeOf Tryz.prog 99 = some (.agg #[.pointer none, .slice none 0 0]) := by kernel_rfl
theorem ze108 : zeOf Tryz.prog 108 = some (.agg #[.pointer none, .slice none 0 0, .int .i64 0]) := by kernel_rfl
theorem fa29_0 (l : AM.Loc) (o : Nat) : QG Tryz.prog 29 (.ptr l o) 0 = ⟨1 ≠ 0, .ptr l (o + 0)⟩ := by kernel_rfl
theorem fa29_1 (l : AM.Loc) (o : Nat) : QG Tryz.prog 29 (.ptr l o) 1 = ⟨1 ≠ 0, .ptr l (o + 1)⟩ := by kernel_rfl
theorem eqv31 (a0 b0 : Int) (a1 b1 : Int) (a2 b2 : Int) : (eqA Tryz.prog 40 31 (.agg [.int .i64 a0, .int .i64 a1, .int .i64 a2]) (.agg [.int .i64 b0, .int .i64 b1, .int .i64 b2])).val = .bool (decide (a0 = b0) && ((decide (a1 = b1) && (decide (a2 = b2) && true)) && true)) := by kernel_rfl
theorem eqp31 (a0 b0 : Int) (a1 b1 : Int) (a2 b2 : Int) : (eqA Tryz.prog 40 31 (.agg [.int .i64 a0, .int .i64 a1, .int .i64 a2]) (.agg [.int .i64 b0, .int .i64 b1, .int .i64 b2])).pre = ((0 < 3) ∧ (0 < 3) ∧ True ∧ ((1 + 2 ≤ 3) ∧ (1 + 2 ≤ 3) ∧ ((0 < 2) ∧ (0 < 2) ∧ True ∧ ((1 < 2) ∧ (1 < 2) ∧ True ∧ True)) ∧ True)) := by kernel_rfl
theorem eq31 (a0 b0 : Int) (a1 b1 : Int) (a2 b2 : Int) : pAggEq Tryz.prog .eql 31 (.agg [.int .i64 a0, .int .i64 a1, .int .i64 a2]) (.agg [.int .i64 b0, .int .i64 b1, .int .i64 b2]) = ⟨True, .bool (decide (a0 = b0) && ((decide (a1 = b1) && (decide (a2 = b2) && true)) && true))⟩ := by
  simp only [pAggEq, eqv31, eqp31, egt31, PR.mk.injEq, and_true]; decide
theorem ne31 (a0 b0 : Int) (a1 b1 : Int) (a2 b2 : Int) : pAggEq Tryz.prog .neq 31 (.agg [.int .i64 a0, .int .i64 a1, .int .i64 a2]) (.agg [.int .i64 b0, .int .i64 b1, .int .i64 b2]) = ⟨True, .bool (!(decide (a0 = b0) && ((decide (a1 = b1) && (decide (a2 = b2) && true)) && true)))⟩ := by
  simp only [pAggEq, eqv31, eqp31, egt31, PR.mk.injEq, and_true]; decide
theorem fa38_0 (l : AM.Loc) (o : Nat) : QG Tryz.prog 38 (.ptr l o) 0 = ⟨1 ≠ 0, .ptr l (o + 0)⟩ := by kernel_rfl
theorem fa38_1 (l : AM.Loc) (o : Nat) : QG Tryz.prog 38 (.ptr l o) 1 = ⟨1 ≠ 0, .ptr l (o + 1)⟩ := by kernel_rfl
theorem fa38_2 (l : AM.Loc) (o : Nat) : QG Tryz.prog 38 (.ptr l o) 2 = ⟨2 ≠ 0, .ptr l (o + 2)⟩ := by kernel_rfl
theorem fa38_3 (l : AM.Loc) (o : Nat) : QG Tryz.prog 38 (.ptr l o) 3 = ⟨1 ≠ 0, .ptr l (o + 4)⟩ := by kernel_rfl
theorem fa48_1 (l : AM.Loc) (o : Nat) : QG Tryz.prog 48 (.ptr l o) 1 = ⟨1 ≠ 0, .ptr l (o + 1)⟩ := by kernel_rfl
theorem fa48_2 (l : AM.Loc) (o : Nat) : QG Tryz.prog 48 (.ptr l o) 2 = ⟨1 ≠ 0, .ptr l (o + 2)⟩ := by kernel_rfl
theorem fa56_0 (l : AM.Loc) (o : Nat) : QG Tryz.prog 56 (.ptr l o) 0 = ⟨1 ≠ 0, .ptr l (o + 0)⟩ := by kernel_rfl
theorem fa56_1 (l : AM.Loc) (o : Nat) : QG Tryz.prog 56 (.ptr l o) 1 = ⟨2 ≠ 0, .ptr l (o + 1)⟩ := by kernel_rfl
theorem fa61_0 (l : AM.Loc) (o : Nat) : QG Tryz.prog 61 (.ptr l o) 0 = ⟨1 ≠ 0, .ptr l (o + 0)⟩ := by kernel_rfl
theorem fa61_1 (l : AM.Loc) (o : Nat) : QG Tryz.prog 61 (.ptr l o) 1 = ⟨1 ≠ 0, .ptr l (o + 1)⟩ := by kernel_rfl
theorem fa67_0 (l : AM.Loc) (o : Nat) : QG Tryz.prog 67 (.ptr l o) 0 = ⟨1 ≠ 0, .ptr l (o + 0)⟩ := by kernel_rfl
theorem fa67_1 (l : AM.Loc) (o : Nat) : QG Tryz.prog 67 (.ptr l o) 1 = ⟨1 ≠ 0, .ptr l (o + 1)⟩ := by kernel_rfl
theorem fa72_0 (l : AM.Loc) (o : Nat) : QG Tryz.prog 72 (.ptr l o) 0 = ⟨1 ≠ 0, .ptr l (o + 0)⟩ := by kernel_rfl
theorem fa72_1 (l : AM.Loc) (o : Nat) : QG Tryz.prog 72 (.ptr l o) 1 = ⟨2 ≠ 0, .ptr l (o + 1)⟩ := by kernel_rfl
theorem fa72_2 (l : AM.Loc) (o : Nat) : QG Tryz.prog 72 (.ptr l o) 2 = ⟨1 ≠ 0, .ptr l (o + 3)⟩ := by kernel_rfl
theorem fa76_0 (l : AM.Loc) (o : Nat) : QG Tryz.prog 76 (.ptr l o) 0 = ⟨1 ≠ 0, .ptr l (o + 0)⟩ := by kernel_rfl
theorem fa76_1 (l : AM.Loc) (o : Nat) : QG Tryz.prog 76 (.ptr l o) 1 = ⟨1 ≠ 0, .ptr l (o + 1)⟩ := by kernel_rfl
theorem fa76_2 (l : AM.Loc) (o : Nat) : QG Tryz.prog 76 (.ptr l o) 2 = ⟨1 ≠ 0, .ptr l (o + 2)⟩ := by kernel_rfl
theorem fa76_3 (l : AM.Loc) (o : Nat) : QG Tryz.prog 76 (.ptr l o) 3 = ⟨1 ≠ 0, .ptr l (o + 3)⟩ := by kernel_rfl
theorem fa89_0 (l : AM.Loc) (o : Nat) : QG Tryz.prog 89 (.ptr l o) 0 = ⟨3 ≠ 0, .ptr l (o + 0)⟩ := by kernel_rfl
theorem fa89_1 (l : AM.Loc) (o : Nat) : QG Tryz.prog 89 (.ptr l o) 1 = ⟨1 ≠ 0, .ptr l (o + 3)⟩ := by kernel_rfl
theorem fa89_2 (l : AM.Loc) (o : Nat) : QG Tryz.prog 89 (.ptr l o) 2 = ⟨1 ≠ 0, .ptr l (o + 4)⟩ := by kernel_rfl
theorem fa99_1 (l : AM.Loc) (o : Nat) : QG Tryz.prog 99 (.ptr l o) 1 = ⟨1 ≠ 0, .ptr l (o + 1)⟩ := by kernel_rfl
theorem fa108_0 (l : AM.Loc) (o : Nat) : QG Tryz.prog 108 (.ptr l o) 0 = ⟨2 ≠ 0, .ptr l (o + 0)⟩ := by kernel_rfl
theorem fa108_1 (l : AM.Loc) (o : Nat) : QG Tryz.prog 108 (.ptr l o) 1 = ⟨1 ≠ 0, .ptr l (o + 2)⟩ := by kernel_rfl
theorem bld31_ : pBuild Tryz.prog 31 [] = ⟨True, .agg [.int .i64 0, .int .i64 0, .int .i64 0]⟩ := by kernel_rfl
theorem bld31_0 (x0 : Int) : pBuild Tryz.prog 31 [(0, .int .i64 x0)] = ⟨True, .agg [.int .i64 x0, .int .i64 0, .int .i64 0]⟩ := by kernel_rfl
theorem bld29_0_1 (x0 : Int) (x1 : Int) : pBuild Tryz.prog 29 [(0, .int .i64 x0), (1, .int .i64 x1)] = ⟨True, .agg [.int .i64 x0, .int .i64 x1]⟩ := by kernel_rfl
theorem bld31_0_1 (x0 : Int) (x1 : Int) (x2 : Int) : pBuild Tryz.prog 31 [(0, .int .i64 x0), (1, .agg [.int .i64 x1, .int .i64 x2])] = ⟨True, .agg [.int .i64 x0, .int .i64 x1, .int .i64 x2]⟩ := by kernel_rfl
theorem bld61_0_1 (x0 : Bool) (x1 : List UInt8) : pBuild Tryz.prog 61 [(0, .bool x0), (1, .str x1)] = ⟨True, .agg [.bool x0, .str x1]⟩ := by kernel_rfl
theorem bld56_0_1 (x0 : Int) (x1 : Int) (x2 : Int) : pBuild Tryz.prog 56 [(0, .int .i64 x0), (1, .agg [.int .i64 x1, .int .i64 x2])] = ⟨True, .agg [.int .i64 x0, .int .i64 x1, .int .i64 x2]⟩ := by kernel_rfl
theorem bld38_0_1 (x0 : Int) (x1 : List UInt8) : pBuild Tryz.prog 38 [(0, .int .u8 x0), (1, .str x1)] = ⟨True, .agg [.int .u8 x0, .str x1, .int .i64 0, .int .i64 0, .bool false]⟩ := by kernel_rfl
theorem bld29_ : pBuild Tryz.prog 29 [] = ⟨True, .agg [.int .i64 0, .int .i64 0]⟩ := by kernel_rfl
theorem bld76_ : pBuild Tryz.prog 76 [] = ⟨True, .agg [.int .i64 0, .bool false, .str [], .int .i64 0]⟩ := by kernel_rfl
theorem bld76_0_1_2_3 (x0 : Int) (x1 : Bool) (x2 : List UInt8) (x3 : Int) : pBuild Tryz.prog 76 [(0, .int .i64 x0), (1, .bool x1), (2, .str x2), (3, .int .i64 x3)] = ⟨True, .agg [.int .i64 x0, .bool x1, .str x2, .int .i64 x3]⟩ := by kernel_rfl
theorem bld48_0 (x0 : Bool) : pBuild Tryz.prog 48 [(0, .bool x0)] = ⟨True, .agg [.bool x0, .str [], .nilSlice]⟩ := by kernel_rfl
theorem bld38_ : pBuild Tryz.prog 38 [] = ⟨True, .agg [.int .u8 0, .str [], .int .i64 0, .int .i64 0, .bool false]⟩ := by kernel_rfl
theorem mixed : Tryz.prog.follows .mixedOrders = true := by kernel_rfl
end Go.Proofs.YtmadddihphkmoaaGreatDoor

/-
  Contracts: Fold; the scanner's bytes.
  Conditions: none.
-/
namespace Go.Proofs.YtmadddihphkmoaaGreatDoor
open Go.AM
open Go.Proofs
open Go.Col
open Go.Tok
set_option maxRecDepth 100000

/-- What Fold makes of a byte. -/
def foldU (b : UInt8) : UInt8 := if 97 ≤ (b.toNat : Int) ∧ (b.toNat : Int) ≤ 122 then UInt8.ofNat ((b.toNat : Int) - 97 + 65).toNat else b

/-- A text of which the first bytes are folded. -/
def foldTo (s : List UInt8) (i : Nat) : List UInt8 := (s.take i).map foldU ++ s.drop i

theorem foldTo_length (s : List UInt8) (i : Nat) : (foldTo s i).length = s.length := by simp [foldTo]; omega
theorem foldTo_get (s : List UInt8) (i : Nat) (hi : i < s.length) : (foldTo s i).getD i 0 = s.getD i 0 := by
  have : (List.map foldU (List.take i s)).length = i := by simp; omega
  simp only [foldTo, List.getD]
  rw [List.getElem?_append_right (by omega), this, List.getElem?_drop]
  simp
theorem foldTo_succ (s : List UInt8) (i : Nat) (hi : i < s.length) : (foldTo s i).set i (foldU (s.getD i 0)) = foldTo s (i + 1) := by
  have e : (List.map foldU (List.take i s)).length = i := by simp; omega
  have e1 : s.drop i = s[i] :: s.drop (i + 1) := List.drop_eq_getElem_cons hi
  have e2 : s.getD i 0 = s[i] := by simp [List.getD, List.getElem?_eq_getElem hi]
  simp only [foldTo]
  have e3 : (s.drop i).set 0 (foldU s[i]) = foldU s[i] :: s.drop (i + 1) := by rw [e1]; rfl
  have e4 : s.take (i + 1) = s.take i ++ [s[i]] := by rw [List.take_add_one, List.getElem?_eq_getElem hi]; rfl
  rw [List.set_append_right _ _ (by omega), e, Nat.sub_self, e2, e3, e4, List.map_append, List.append_assoc]
  rfl
theorem foldTo_same (s : List UInt8) (i : Nat) (hi : i < s.length) (hf : foldU (s.getD i 0) = s.getD i 0) : foldTo s (i + 1) = foldTo s i := by
  rw [← foldTo_succ s i hi, hf]
  apply List.ext_getElem?
  intro j
  by_cases hj : i = j
  · subst hj
    have := foldTo_get s i hi
    simp only [List.getD] at this
    rw [List.getElem?_set]
    have h2 : i < (foldTo s i).length := by rw [foldTo_length]; exact hi
    rw [List.getElem?_eq_getElem h2] at this ⊢
    simp only [Option.getD_some] at this
    rw [if_pos rfl, if_pos h2, List.getD, this]
  · rw [List.getElem?_set_ne hj]

theorem c_fold (w₀ : World) (h : AHeap) (s : List UInt8) (hl : s.length ≤ 9223372036854775807) : ACall Tryz.prog w₀ 107 [.str s] h (fun v h' => v = .str (s.map foldU) ∧ h' = h) := by
  refine qY (n := 30) (rs := [.tmp 2]) Tryz.func107 rfl rfl rfl rfl (Nat.le_of_ble_eq_true rfl) ?_
  simp only [Qf]
  refine awp_rseq [0] (by rfl) fun K hK => ?_
  simp +decide only [qa, ev, qK, qH, putD, Slots.put, Slots.keep, if_true, if_false, true_and, ↓qc, qb]
  apply hK; clear hK K
  refine awp_rseq [3] (by rfl) fun K hK => ?_
  simp +decide only [ev, putD, Slots.put, Slots.get, if_true, if_false, true_and, ↓qg, qd]
  refine aOps_strBytes Tryz.underlying9 Tryz.underlying97 Tryz.underlying5 (by rfl) (by omega) fun k1 hk1 => ?_
  simp +decide only [qa, ev, putD, Slots.put, Slots.get, Slots.keep, if_true, if_false, true_and, ↓qc, qb]
  apply hK; clear hK K
  refine qN ?_
  refine awp_rseq [3, 8, 9, 10] (by rfl) fun K hK => ?_
  simp +decide only [qa, ev, qK, qH, putD, Slots.put, Slots.get, Slots.keep, if_true, if_false, true_and, ↓qg, qd, ↓Xw, QH, XH Tryz.underlying97]
  apply hK; clear hK K
  refine Qt ?_
  refine XW [3, 8, 9, 10] (fun i : Nat => [(3, .slice (.own k1) 0 s.length (.grow 1)), (8, .slice (.own k1) 0 s.length (.grow 1)), (9, .int .i64 s.length), (10, .int .i64 i)]) (fun i : Nat => h.set k1 ⟨byteCells (foldTo s i), 0⟩) (fun i : Nat => i ≤ s.length) (fun i : Nat => s.length - i) 0 rfl (Sub.refl _) (Nat.zero_le _) ?_
  rintro i hi1
  have hlen := foldTo_length s i
  refine awp_rseq [3, 8, 9, 10, 11] (by rfl) fun K hK => ?_
  simp +decide only [qa, ev, putD, Slots.put, Slots.get, Slots.keep, if_true, if_false, true_and, ↓qw, qh, qP, cond_false, qm, pI_lss]
  apply hK; clear hK K
  refine qN (qM (b := _) rfl (fun hb1 => ?_) (fun hb1 => ?_))
  · try simp only [decide_eq_true_eq] at hb1
    refine qZ ?_
    change Awp _ _ _ _ _ _ _
    refine qN ?_
    refine Qt ?_
    refine awp_rseq [3, 4, 5, 8, 9, 10] (by rfl) fun K hK => ?_
    simp +decide only [qa, ev, putD, Slots.put, Slots.get, Slots.keep, if_true, if_false, true_and, ↓qg, qd, ↓QT, Qb, Qj Tryz.underlying97 sz5, ↓qJ, qD ag5, ↓qc, qb, Qi, Nat.zero_add, Nat.mul_one, Int.toNat_natCast, byteCells_getD (bs := foldTo s i) (i := i) (by omega), foldTo_get s i (by omega), AVal.live]
    repeat (with_reducible refine And.intro ?_ ?_; · first | trivial | omega | (intro hg; simp only [Bool.and_eq_true, Bool.or_eq_true, Bool.not_eq_true', Bool.and_eq_false_iff, Bool.or_eq_false_iff, Bool.not_eq_false', decide_eq_true_eq, decide_eq_false_iff_not, XI] at hg; omega) )
    apply hK; clear hK K
    refine awp_rseq [3, 4, 5, 8, 9, 10, 20] (by rfl) fun K hK => ?_
    simp +decide only [qa, ev, qK, qH, putD, Slots.put, Slots.get, Slots.keep, if_true, if_false, true_and, ↓qg, qd, ↓qw, qh, qz, cond_false, qm, pI_geq, ↓Xf, agP, Qm, qI, qG, qy, implies_true, ↓QW, XR, XT, pI_leq, ↓QN, Qw, Qg, QZ, Xj]
    apply hK; clear hK K
    refine qM (b := _) rfl (fun hb2 => ?_) (fun hb2 => ?_)
    · try simp only [decide_eq_true_eq, Bool.and_eq_true] at hb2
      refine Xl [3, 8, 9, 10] (by rfl) ?_
      simp +decide only [ev, qK, qH, putD, Slots.put, Slots.get, if_true, if_false, true_and, ↓qg, qd, ↓qw, qh, qz, cond_false, qm, pI_sub, Xk]
      try simp (disch := omega) only [wrap_u8]
      try simp +decide only [ev, putD, Slots.put, Slots.get, if_true, if_false, ↓QT, Qb, Qj Tryz.underlying97 sz5]
      repeat (with_reducible refine And.intro ?_ ?_; · first | trivial | omega | (intro hg; simp only [Bool.and_eq_true, Bool.or_eq_true, Bool.not_eq_true', Bool.and_eq_false_iff, Bool.or_eq_false_iff, Bool.not_eq_false', decide_eq_true_eq, decide_eq_false_iff_not, XI] at hg; omega) )
      refine aOps_storeByte (i := i) (by rfl) (by rfl) sz5 (by rfl) (by omega) (by omega) (Nat.zero_le _) (by omega) (by omega) ?_
      simp +decide only [qa, putD, Slots.keep, if_true, if_false]
      change Awp _ _ _ _ _ _ _
      refine Xl [3, 8, 9, 10] (by rfl) ?_
      simp +decide only [qa, ev, qK, qH, putD, Slots.put, Slots.get, Slots.keep, if_true, if_false, true_and, ↓qw, qh, qz, cond_false, qm, Xk, ↓qg, qd]
      try simp (disch := omega) only [wrap_i64]
      try simp only [qR]
      refine ⟨i + 1, rfl, ?_, by omega, by omega⟩
      first
      | (have e : foldU (s.getD i 0) = UInt8.ofNat ((↑(s.getD i 0).toNat : Int) - 97 + 65).toNat := by rw [foldU, if_pos hb2]
         rw [← foldTo_succ s i (by omega), e]
         exact Sub.refl _)
      | (have e : foldU (s.getD i 0) = s.getD i 0 := by
           rw [foldU, if_neg]
           omega
         rw [foldTo_same s i (by omega) e]
         exact Sub.refl _)
    · try simp only [decide_eq_false_iff_not, Bool.and_eq_false_iff] at hb2
      refine qZ ?_
      change Awp _ _ _ _ _ _ _
      refine Xl [3, 8, 9, 10] (by rfl) ?_
      simp +decide only [qa, ev, qK, qH, putD, Slots.put, Slots.get, Slots.keep, if_true, if_false, true_and, ↓qw, qh, qz, cond_false, qm, Xk, ↓qg, qd]
      try simp (disch := omega) only [wrap_i64]
      try simp only [qR]
      refine ⟨i + 1, rfl, ?_, by omega, by omega⟩
      first
      | (have e : foldU (s.getD i 0) = UInt8.ofNat ((↑(s.getD i 0).toNat : Int) - 97 + 65).toNat := by rw [foldU, if_pos hb2]
         rw [← foldTo_succ s i (by omega), e]
         exact Sub.refl _)
      | (have e : foldU (s.getD i 0) = s.getD i 0 := by
           rw [foldU, if_neg]
           omega
         rw [foldTo_same s i (by omega) e]
         exact Sub.refl _)
  · try simp only [decide_eq_false_iff_not] at hb1
    refine Ze ?_
    change Awp _ _ _ _ _ _ _
    refine awp_rseq [2] (by rfl) fun K hK => ?_
    simp +decide only [qa, ev, putD, Slots.put, Slots.get, Slots.keep, if_true, if_false, true_and, ↓qg, qd, ↓ap_convert _ _ _ (es_str Tryz.underlying97 Tryz.underlying9), pop_convert, ↓qc, qb, (IsB.own (w₀ := w₀) (AHeap.set_same h k1 _) hlen.symm (c := .grow 1) rfl).conv Tryz.underlying97 Tryz.underlying9 Tryz.underlying5]
    apply hK; clear hK K
    refine qU ?_
    refine qO h (Sub.set hk1) (Qd (Qe)) ?_
    simp +decide only [Slots.get, if_true, and_true, QD]
    all_goals rw [foldTo, List.take_of_length_le (by omega), List.drop_eq_nil_of_le (by omega), List.append_nil]
theorem fold_eq (s : Str) : s.map foldU = QK s := by
  unfold QK
  congr 1
  funext b
  unfold foldU XA
  by_cases h : 97 ≤ (b.toNat : Int) ∧ (b.toNat : Int) ≤ 122
  · rw [if_pos h, if_pos (by omega)]
    apply UInt8.toNat.inj
    rw [UInt8.toNat_sub_of_le _ _ (by rw [UInt8.le_iff_toNat_le]; show 32 ≤ b.toNat; omega)]
    show (UInt8.ofNat ((b.toNat : Int) - 97 + 65).toNat).toNat = b.toNat - 32
    rw [UInt8.toNat_ofNat']
    have := UInt8.toNat_lt b
    omega
  · rw [if_neg h, if_neg (by omega)]
theorem c_digitT (w₀ : World) (h : AHeap) (b : UInt8) : ACall Tryz.prog w₀ 113 [.int .u8 b.toNat] h (fun v h' => v = .bool (Xh b) ∧ h' = h) := by
  refine qY (n := 9) (rs := [.tmp 2]) Tryz.func113 rfl rfl rfl rfl (Nat.le_of_ble_eq_true rfl) ?_
  simp only [Qf]
  refine awp_rseq [0] (by rfl) fun K hK => ?_
  simp +decide only [qa, ev, qK, qH, putD, Slots.put, Slots.keep, if_true, if_false, true_and, ↓qc, qb]
  apply hK; clear hK K
  refine awp_rseq [2] (by rfl) fun K hK => ?_
  simp +decide only [qa, ev, qK, qH, putD, Slots.put, Slots.get, Slots.keep, if_true, if_false, true_and, ↓qg, qd, ↓qw, qh, qz, cond_false, qm, pI_geq, ↓Xf, agP, Qm, qI, qG, qy, implies_true, ↓QW, XR, XT, pI_leq, ↓QN, Qw, Qg, QZ, Xj, ↓qc, qb]
  apply hK; clear hK K
  refine qU ?_
  refine qO _ (Sub.refl _) (Qd (Qe)) ?_
  simp +decide only [Slots.get, if_true, and_true, QD]
  unfold Xh
  congr 1
  rw [Bool.eq_iff_iff]
  simp only [Bool.and_eq_true, decide_eq_true_eq]
  omega
theorem c_wordy (w₀ : World) (h : AHeap) (b : UInt8) : ACall Tryz.prog w₀ 90 [.int .u8 b.toNat] h (fun v h' => v = .bool (QP b) ∧ h' = h) := by
  refine qY (n := 25) (rs := [.tmp 2]) Tryz.func90 rfl rfl rfl rfl (Nat.le_of_ble_eq_true rfl) ?_
  simp only [Qf]
  refine awp_rseq [0] (by rfl) fun K hK => ?_
  simp +decide only [qa, ev, qK, qH, putD, Slots.put, Slots.keep, if_true, if_false, true_and, ↓qc, qb]
  apply hK; clear hK K
  refine awp_rseq [2] (by rfl) fun K hK => ?_
  simp +decide only [ev, putD, Slots.put, Slots.get, if_true, if_false, true_and, ↓qg, qd]
  refine qL (V := .bool (Xh b)) (by rfl) (by rfl) (c_digitT w₀ _ b) ?_
  simp +decide only [qa, ev, qK, qH, putD, Slots.put, Slots.get, Slots.keep, if_true, if_false, true_and, ↓qg, qd, ↓Xf, agP, Qm, qI, qG, QV, guardB_cond, qy, qV, cv_cv, implies_true, ↓QW, qh, qz, cond_false, XR, XT, qm, pI_geq, pI_leq, ↓ag_pick, Qw, Qg, Za, cp_nest1, Xj, pickV_or, cv_pick, cp_pick, ↓QN, Xo, ↓qc, qb]
  apply hK; clear hK K
  refine qU ?_
  refine qO _ (Sub.refl _) (Qd (Qe)) ?_
  simp +decide only [Slots.get, if_true, and_true, QD]
  unfold QP letterB
  congr 1
  rw [Bool.eq_iff_iff]
  have e45 : ((b.toNat : Int) = 45) ↔ b = 45 := ⟨fun q => UInt8.toNat.inj (by have : ((45 : UInt8).toNat) = 45 := rfl; omega), fun q => by rw [q]; rfl⟩
  simp only [Bool.or_eq_true, Bool.and_eq_true, decide_eq_true_eq, e45]
  have c1 : (97 ≤ (b.toNat : Int)) ↔ 97 ≤ b.toNat := by omega
  have c2 : ((b.toNat : Int) ≤ 122) ↔ b.toNat ≤ 122 := by omega
  have c3 : (65 ≤ (b.toNat : Int)) ↔ 65 ≤ b.toNat := by omega
  have c4 : ((b.toNat : Int) ≤ 90) ↔ b.toNat ≤ 90 := by omega
  simp only [c1, c2, c3, c4, or_assoc]
end Go.Proofs.YtmadddihphkmoaaGreatDoor

