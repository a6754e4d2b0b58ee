/-
  Texts of this proof, joined: AmQ, AmR, AmS, AmT, AmU, AmV, AmW, AmX, CoA, BmA, AmY, AmZ, Ty, Shelf, CoB.
  Conditions: none.
-/
import Derived.Test.YtikpnhdjjabdmaaDoorCa
import Derived.StillTail
import Derived.Lib.UnsafeStr
import Derived.Lib.Builder
import Derived.Laws.Externs
import Derived.Lib.ItoaNum
import Derived.Scope
import Derived.Test.YtikpnhdjjabdmaaDoorRows
import Derived.KernelRfl
import Derived.Shelf.Strings.Builder1
import Derived.Shelf.Strings.Builder2
import Derived.Shelf.Strings.OnBuilder
import Derived.Shelf.Strings.Trim
import Derived.Shelf.Small.Utf8
import Derived.Shelf.Small.Strs
import Derived.Shelf.Strings.BuilderF
import Derived.Shelf.Strings.BuilderK
import Derived.Shelf.Strings.Builder2Cap
import Derived.Shelf.Strconv.Itoa0
import Derived.Shelf.Strconv.Itoa1
import Derived.Shelf.LaysM
import Derived.Shelf.Strconv.Itoa2
import Derived.Shelf.Strconv.Itoa3
import Derived.Shelf.Strings.Search1
import Derived.Shelf.Strings.Search2
import Derived.Shelf.Strings.Search3
import Derived.Shelf.Strings.Count
import Derived.Shelf.Strings.Shaped
import Derived.Shelf.GgClosure.StringsIndexFunc
import Derived.Ground.GgwProg
import Derived.Shelf.GgClosure.StringsIndexFuncTop
import Derived.Shelf.GgClosure.StringsRunes
import Derived.Shelf.Strings.Prefix
import Derived.Shelf.Strings.Split
import Derived.Shelf.Unicode.Decode
import Derived.Shelf.Strings.Runes
import Derived.Shelf.Strings.RuneCount
import Derived.Shelf.Strings.AsciiSet
import Derived.Shelf.Strings.Explode
import Derived.Shelf.Bits.Mul64
import Derived.Shelf.Strings.Repeat
import Derived.Shelf.Unicode.DecodeSlow
import Derived.Shelf.Unicode.DecodeAny
import Derived.Shelf.Unicode.DecodeLast
import Derived.Shelf.Strings.FuncGrows
import Derived.Shelf.Strings.BuilderCap
import Derived.Test.YtikpnhdjjabdmaaDoorProg
import Derived.Lib.SmallJoins
import Derived.Lib.AppendIntMem
import Derived.Lib.SpaceUEq
import Derived.Lib.SplitLaws
set_option linter.unusedSimpArgs false
set_option linter.unnecessarySimpa false
set_option linter.unusedVariables false
/-
  An assertion layer over the model's wp, part Q: statements of open order, as a walk rewrites them.
  Conditions: none. Nothing here is about a particular program.
-/
namespace Go.AM

theorem ev_keep {s : Slots} {L : List Nat} {x : Operand} (h : ∀ t, x = .tmp t → t ∈ L) : ev (s.keep L) x = ev s x := by
  cases x with
  | tmp t =>
    simp only [ev, Slots.get_keep]
    rw [if_pos (by simpa using h t rfl)]
  | _ => rfl
theorem looks_of {ops : List Oper} {o : Oper} {x : Operand} (h : x ∈ o.op.operands.toList) : ∀ t, x = .tmp t → t ∈ looksL ops o := by
  rintro t rfl
  unfold looksL opTmps
  rw [List.mem_append]
  exact .inl (List.mem_filterMap.2 ⟨_, h, rfl⟩)
theorem evs_keep {s : Slots} {L : List Nat} : ∀ {xs : List Operand}, (∀ x ∈ xs, ∀ t, x = .tmp t → t ∈ L) → evs (s.keep L) xs = evs s xs
  | [], _ => rfl
  | x :: xs, h => by
    have := evs_keep (s := s) (L := L) (xs := xs) fun y hy => h y (List.mem_cons_of_mem _ hy)
    simp only [evs, List.map_cons] at this ⊢
    rw [ev_keep (h x List.mem_cons_self), this]

section
variable {P : Program} {w₀ : World} {ops rest : List Oper} {s : Slots} {h : AHeap} {K : Slots → AHeap → Prop} {dst : Option Tmp} {ty : TypeId} {pos : String} {af : Array Edge}

theorem vOps_nil : vOps P w₀ ops [] s h K = K s h := rfl
theorem vp_of {op : Op} (hp : pureOp P op = true) (hk : pop P w₀ h (s.keep (looksL ops ⟨dst, op, ty, pos, af, none⟩)) op = pop P w₀ h s op) :
    vOps P w₀ ops (⟨dst, op, ty, pos, af, none⟩ :: rest) s h K = ((pop P w₀ h s op).pre ∧ vOps P w₀ ops rest (putD s dst (pop P w₀ h s op).val) h K) := by
  simp only [vOps]
  refine propext ⟨fun ⟨V, h1, h2⟩ => ?_, fun ⟨h1, h2⟩ => ⟨_, (eop_pure hp).2 ⟨by rw [hk]; exact h1, by rw [hk], rfl⟩, h2⟩⟩
  obtain ⟨g1, g2, _⟩ := (eop_pure hp).1 h1
  rw [hk] at g1 g2
  subst g2
  exact ⟨g1, h2⟩
theorem vp_move (x : Operand) : vOps P w₀ ops (⟨dst, .move x, ty, pos, af, none⟩ :: rest) s h K = ((pop P w₀ h s (.move x)).pre ∧ vOps P w₀ ops rest (putD s dst (pop P w₀ h s (.move x)).val) h K) :=
  vp_of rfl (by
    simp only [pop, ev_keep (looks_of (o := ⟨dst, .move x, ty, pos, af, none⟩) (x := x) (by simp [Op.operands]))])
theorem vp_assign (x : Operand) : vOps P w₀ ops (⟨dst, .assign x, ty, pos, af, none⟩ :: rest) s h K = ((pop P w₀ h s (.assign x)).pre ∧ vOps P w₀ ops rest (putD s dst (pop P w₀ h s (.assign x)).val) h K) :=
  vp_of rfl (by
    simp only [pop, ev_keep (looks_of (o := ⟨dst, .assign x, ty, pos, af, none⟩) (x := x) (by simp [Op.operands]))])
theorem vp_binOp (o : BinOp) (t : TypeId) (x y : Operand) (u : TypeId) : vOps P w₀ ops (⟨dst, .binOp o t x y u, ty, pos, af, none⟩ :: rest) s h K = ((pop P w₀ h s (.binOp o t x y u)).pre ∧ vOps P w₀ ops rest (putD s dst (pop P w₀ h s (.binOp o t x y u)).val) h K) :=
  vp_of rfl (by
    simp only [pop, ev_keep (looks_of (o := ⟨dst, .binOp o t x y u, ty, pos, af, none⟩) (x := x) (by simp [Op.operands])), ev_keep (looks_of (o := ⟨dst, .binOp o t x y u, ty, pos, af, none⟩) (x := y) (by simp [Op.operands]))])
theorem vp_load (t : TypeId) (x : Operand) : vOps P w₀ ops (⟨dst, .load t x, ty, pos, af, none⟩ :: rest) s h K = ((pop P w₀ h s (.load t x)).pre ∧ vOps P w₀ ops rest (putD s dst (pop P w₀ h s (.load t x)).val) h K) :=
  vp_of rfl (by
    simp only [pop, ev_keep (looks_of (o := ⟨dst, .load t x, ty, pos, af, none⟩) (x := x) (by simp [Op.operands]))])
theorem vp_fieldAddr (t : TypeId) (x : Operand) (f : Nat) : vOps P w₀ ops (⟨dst, .fieldAddr t x f, ty, pos, af, none⟩ :: rest) s h K = ((pop P w₀ h s (.fieldAddr t x f)).pre ∧ vOps P w₀ ops rest (putD s dst (pop P w₀ h s (.fieldAddr t x f)).val) h K) :=
  vp_of rfl (by
    simp only [pop, ev_keep (looks_of (o := ⟨dst, .fieldAddr t x f, ty, pos, af, none⟩) (x := x) (by simp [Op.operands]))])
theorem vp_indexAddr (t : TypeId) (x i : Operand) : vOps P w₀ ops (⟨dst, .indexAddr t x i, ty, pos, af, none⟩ :: rest) s h K = ((pop P w₀ h s (.indexAddr t x i)).pre ∧ vOps P w₀ ops rest (putD s dst (pop P w₀ h s (.indexAddr t x i)).val) h K) :=
  vp_of rfl (by
    simp only [pop, ev_keep (looks_of (o := ⟨dst, .indexAddr t x i, ty, pos, af, none⟩) (x := x) (by simp [Op.operands])), ev_keep (looks_of (o := ⟨dst, .indexAddr t x i, ty, pos, af, none⟩) (x := i) (by simp [Op.operands]))])
theorem vp_nilCheck (x : Operand) : vOps P w₀ ops (⟨dst, .nilCheck x, ty, pos, af, none⟩ :: rest) s h K = ((pop P w₀ h s (.nilCheck x)).pre ∧ vOps P w₀ ops rest (putD s dst (pop P w₀ h s (.nilCheck x)).val) h K) :=
  vp_of rfl (by
    simp only [pop, ev_keep (looks_of (o := ⟨dst, .nilCheck x, ty, pos, af, none⟩) (x := x) (by simp [Op.operands]))])
theorem vp_len (a : List Operand) (t : Array TypeId) : vOps P w₀ ops (⟨dst, .call ⟨.builtin .len, a.toArray, t⟩, ty, pos, af, none⟩ :: rest) s h K = ((pop P w₀ h s (.call ⟨.builtin .len, a.toArray, t⟩)).pre ∧ vOps P w₀ ops rest (putD s dst (pop P w₀ h s (.call ⟨.builtin .len, a.toArray, t⟩)).val) h K) :=
  vp_of rfl (by
    simp only [pop]
    rw [evs_keep fun x hx => looks_of (o := ⟨dst, .call ⟨.builtin .len, a.toArray, t⟩, ty, pos, af, none⟩) (by simp [Op.operands, Call.operands, hx])])
/-- A call whose answer is one value and that leaves the heap. -/
theorem vOps_callV {fo : Operand} {args : List Operand} {ts : Array TypeId} {f : FuncId} {cap xs : List AVal} {V : AVal} (hf : ev s fo = .func f cap) (hx : evs s args ++ cap = xs) (hc : ACall P w₀ f xs h (fun x h' => x = V ∧ h' = h))
    (hk : vOps P w₀ ops rest (putD s dst V) h K) : vOps P w₀ ops (⟨dst, .call ⟨.value fo, args.toArray, ts⟩, ty, pos, af, none⟩ :: rest) s h K := by
  simp only [vOps]
  refine ⟨V, ?_, hk⟩
  have e1 : ev (s.keep (looksL ops ⟨dst, .call ⟨.value fo, args.toArray, ts⟩, ty, pos, af, none⟩)) fo = .func f cap := by
    rw [ev_keep (looks_of (by simp [Op.operands, Call.operands]))]; exact hf
  have e2 : evs (s.keep (looksL ops ⟨dst, .call ⟨.value fo, args.toArray, ts⟩, ty, pos, af, none⟩)) args = evs s args :=
    evs_keep fun x hx => looks_of (by simp [Op.operands, Call.operands, hx])
  simp only [eop, e1, e2, hx]
  exact hc
end
end Go.AM

/-
  An assertion layer over the model's wp, part R: statements of open order that end in operations that write.
  Conditions: none. Nothing here is about a particular program.
-/
namespace Go.AM
open Go.RowKit (Below)

section
variable {P : Program} {w₀ : World} {n : Nat} {h : AHeap}

theorem vOps_stepsT {l : List Oper} (tl : List Oper) (hall : dstsOk n l = true) {s : Slots} {K : Slots → AHeap → Prop} : ∀ (rest pre : List Oper) (A : List AVal), l = pre ++ rest ++ tl → A.length = pre.length → vOps P w₀ l rest (slotsAt s l A pre.length) h K →
    ∃ B : List AVal, B.length = rest.length ∧ (∀ i o, pre.length ≤ i → i < pre.length + rest.length → l[i]? = some o → StepOk P w₀ n h l o (slotsAt s l (A ++ B) i) ((A ++ B).getD i .dead)) ∧ K (slotsAt s l (A ++ B) (pre.length + rest.length)) h
  | [], pre, A, hl, hA, hv => ⟨[], rfl, fun i o hi hi' ho => by
      simp only [List.length_nil] at hi'
      omega, by
      rw [List.append_nil]; exact hv⟩
  | o :: rest, pre, A, hl, hA, hv => by
    have hat : l[pre.length]? = some o := by rw [hl]; simp
    have go : ∀ V, StepOk P w₀ n h l o (slotsAt s l A pre.length) V → vOps P w₀ l rest (putD (slotsAt s l A pre.length) o.dst V) h K →
        ∃ B : List AVal, B.length = (o :: rest).length ∧ (∀ i o, pre.length ≤ i → i < pre.length + (rest.length + 1) → l[i]? = some o → StepOk P w₀ n h l o (slotsAt s l (A ++ B) i) ((A ++ B).getD i .dead)) ∧ K (slotsAt s l (A ++ B) (pre.length + (rest.length + 1))) h := by
      intro V hst hv'
      have e : slotsAt s l (A ++ [V]) (pre ++ [o]).length = putD (slotsAt s l A pre.length) o.dst V := by
        rw [List.length_append, List.length_singleton, slotsAt, hat]
        simp only
        rw [slotsAt_take s l A [V] _ (by omega)]
        congr 1
        simp [List.getD, ← hA]
      obtain ⟨B, h1, h2, h3⟩ := vOps_stepsT tl hall rest (pre ++ [o]) (A ++ [V]) (by simp [hl]) (by simp [hA]) (by rw [e]; exact hv')
      refine ⟨V :: B, by simp [h1], fun i o' hi hi' ho' => ?_, by simpa [Nat.add_assoc, Nat.add_comm 1] using h3⟩
      rcases Nat.eq_or_lt_of_le hi with e' | e'
      · subst e'
        rw [hat] at ho'
        obtain rfl := Option.some.inj ho'
        rw [slotsAt_take s l A (V :: B) _ (by omega)]
        have : (A ++ V :: B).getD pre.length .dead = V := by simp [List.getD, ← hA]
        rw [this]
        exact hst
      · have := h2 i o' (by simp; omega) (by simp at hi' ⊢; omega) ho'
        simpa using this
    simp only [vOps] at hv
    cases hg : o.guard with
    | none =>
      simp only [hg] at hv
      obtain ⟨V, h1, h2⟩ := hv
      exact go V (.plain hg h1) h2
    | some gw =>
      obtain ⟨j, want⟩ := gw
      simp only [hg] at hv
      cases hj : nthDst l j with
      | none =>
        simp only [hj] at hv
        exact go _ (.never hg hj) hv
      | some d =>
        simp only [hj] at hv
        obtain ⟨hk, V, h1, h2⟩ := hv
        exact go _ (.guarded hall hg hj hk h1) h2


/-- The order of a statement's first k operations leaves each what it looks at. -/
def orderBk (l : List Oper) (k : Nat) : Bool :=
  (List.range k).all fun i => match l[i]? with
    | none => true
    | some oi => (oi.after.all fun e => !Region.binds .any e || decide (e.on < i)) &&
      (List.range k).all fun j => match l[j]? with
        | none => true
        | some oj => (match oj.dst with
            | none => true
            | some t => (decide (i = j) || decide (oi.dst ≠ some t)) &&
                (!(looksL l oi).contains t || (decide (j < i) && Region.waitsFor .any l.toArray i j) || (decide (i < j) && Region.waitsFor .any l.toArray j i)))

theorem orderBk_spec {l : List Oper} {k : Nat} (hB : orderBk l k = true) {i : Nat} {oi : Oper} (hik : i < k) (hi : l[i]? = some oi) :
    (∀ e ∈ oi.after, Region.binds .any e = true → e.on < i) ∧ ∀ j oj t, j < k → l[j]? = some oj → oj.dst = some t → (oi.dst = some t → i = j) ∧
      (t ∈ looksL l oi → (j < i ∧ Region.waitsFor .any l.toArray i j = true) ∨ (i < j ∧ Region.waitsFor .any l.toArray j i = true)) := by
  unfold orderBk at hB
  rw [List.all_eq_true] at hB
  have h1 := hB i (by rw [List.mem_range]; exact hik)
  simp only [hi, Bool.and_eq_true] at h1
  obtain ⟨ha, hb⟩ := h1
  refine ⟨fun e he hbd => ?_, fun j oj t hjk hj hd => ?_⟩
  · rw [Array.all_eq_true'] at ha
    have := ha e he
    simpa [hbd] using this
  · rw [List.all_eq_true] at hb
    have h2 := hb j (by rw [List.mem_range]; exact hjk)
    simp only [hj, hd, Bool.and_eq_true, Bool.or_eq_true, decide_eq_true_eq, Bool.not_eq_true', List.contains_eq_mem] at h2
    refine ⟨fun he => ?_, fun ht => ?_⟩
    · rcases h2.1 with e | e
      · exact e
      · exact absurd he e
    · rcases h2.2 with (e | e) | e
      · exact absurd ht (by simpa using e)
      · exact .inl e
      · exact .inr e

theorem slotsAt_writerK {l : List Oper} {k : Nat} (hB : orderBk l k = true) (hk : k ≤ l.length) (s : Slots) (Vs : List AVal) {j : Nat} {oj : Oper} {t : Nat} (hjk : j < k) (hj : l[j]? = some oj) (hd : oj.dst = some t) : ∀ i, j < i → i ≤ k → (slotsAt s l Vs i).get t = Vs.getD j .dead
  | 0, h, _ => by omega
  | i + 1, h, hi => by
    obtain ⟨o, ho⟩ : ∃ o, l[i]? = some o := ⟨_, List.getElem?_eq_getElem (show i < l.length by omega)⟩
    simp only [slotsAt, ho, put_get]
    by_cases e : o.dst = some t
    · have : i = j := (((orderBk_spec hB (by omega) ho).2 j oj t hjk hj hd).1 e)
      subst this
      rw [if_pos e]
    · rw [if_neg e]
      refine slotsAt_writerK hB hk s Vs hjk hj hd i ?_ (by omega)
      rcases Nat.eq_or_lt_of_le (Nat.le_of_lt_succ h) with e' | e'
      · subst e'
        rw [hj] at ho
        obtain rfl := Option.some.inj ho
        exact absurd hd e
      · exact e'

/-- The first k of m are listed. -/
def firstK (m k : Nat) : Array Bool := ((List.range m).map fun j => decide (j < k)).toArray

structure AnyInvK (l : List Oper) (k : Nat) (Vs : List AVal) (s : Slots) (ψ : PMap) (n : Nat) (listed : Array Bool) (a : Act) : Prop where
  head : HeadInv .any l.toArray k listed
  tsize : a.tmps.size = n
  defers : a.defers = []
  done : ∀ t j oj, j < k → l[j]? = some oj → oj.dst = some t → listed.getD j false = true → VR ψ (Vs.getD j .dead) (a.tmps.getD t undef)
  still : ∀ t, (∀ j oj, j < k → l[j]? = some oj → oj.dst = some t → listed.getD j false = false) → VR ψ (s.get t) (a.tmps.getD t undef)

theorem any_okK {l : List Oper} {k : Nat} (hk : k < l.length) (hall : dstsOk n l = true) (hB : orderBk l k = true) (hsink : Region.sinkB .any l.toArray k = true) (hchain : Region.chainB .any l.toArray k = true)
    (hseq : Region.seqB .any l.toArray (l.length - k) k (firstK l.length k) = true) {s : Slots} {Vs : List AVal} (hst : ∀ i o, i < k → l[i]? = some o → StepOk P w₀ n h l o (slotsAt s l Vs i) (Vs.getD i .dead)) {φ : PMap} {Q : Exit → Act → World → Prop}
    (hq : ∀ ψ a w, φ.le ψ → HRel w₀ ψ h w → SRel ψ n (slotsAt s l Vs k) a → wpList P l.toArray Q (l.drop k) a w) : ∀ (fuel : Nat) (listed : Array Bool) (a : Act) (w : World) (ψ : PMap), φ.le ψ → HRel w₀ ψ h w → AnyInvK l k Vs s ψ n listed a →
    (listed.toList.filter (!·)).length = fuel → wpAny P .any l.toArray Q fuel listed a w := by
  have hsize : k < l.toArray.size := by simpa using hk
  -- all of the head are listed
  have fin : ∀ (fuel : Nat) (listed : Array Bool) (a : Act) (w : World) (ψ : PMap), φ.le ψ → HRel w₀ ψ h w → AnyInvK l k Vs s ψ n listed a → (∀ j, j < k → listed.getD j false = true) → (listed.toList.filter (!·)).length = fuel → wpAny P .any l.toArray Q fuel listed a w := by
    intro fuel listed a w ψ hle hr inv hdone hc
    have hls : listed.size = l.length := by have := inv.head.size; simpa using this
    have hl : listed = firstK l.length k := by
      apply Array.ext
      · rw [hls]; simp [firstK]
      · intro i h1 h2
        have hi : i < l.length := by omega
        have e2 : (firstK l.length k)[i] = decide (i < k) := by simp [firstK]
        rw [e2]
        by_cases hik : i < k
        · have := hdone i hik
          simp [Array.getD, h1] at this
          simp [this, hik]
        · have := inv.head.tail i (by omega) (by simpa using hi)
          simp [Array.getD, h1] at this
          simp [this, hik]
    have hfuel : fuel = (l.drop k).length := by
      rw [← hc, hl]
      have : ∀ m k, k ≤ m → (((List.range m).map fun j => decide (j < k)).filter (!·)).length = m - k := by
        intro m k
        induction m with
        | zero => intro _; simp
        | succ m ih =>
          intro hkm
          rw [List.range_succ, List.map_append, List.filter_append, List.length_append]
          rcases Nat.lt_or_ge m k with c | c
          · have e1 : m + 1 = k := by omega
            have e2 : ((List.range m).map fun j => decide (j < k)).filter (!·) = [] := by
              rw [List.filter_eq_nil_iff]
              intro b hb
              simp only [List.mem_map, List.mem_range] at hb
              obtain ⟨j, hj, rfl⟩ := hb
              have : j < k := by omega
              simp [this]
            rw [e2]
            simp [c]
            omega
          · rw [ih c]
            have : ¬ m < k := by omega
            simp [this]
            omega
      simp only [firstK, List.length_drop]
      exact this l.length k (by omega)
    rw [hfuel, hl]
    refine wpAny_of_seq (l.drop k) k _ a w (fun j => by simp [List.getElem?_drop]) (by rw [List.length_drop]; exact hseq) ?_
    refine hq ψ a w hle hr ⟨inv.tsize, inv.defers, fun t => ?_⟩
    by_cases hw : ∃ (j : Nat) (oj : Oper), j < k ∧ l[j]? = some oj ∧ oj.dst = some t
    · obtain ⟨j, oj, hjk, hj, hd⟩ := hw
      rw [slotsAt_writerK hB (by omega) s Vs hjk hj hd k hjk (Nat.le_refl _)]
      exact inv.done t j oj hjk hj hd (hdone j hjk)
    · rw [slotsAt_none s Vs k fun j oj hjk hj hd => hw ⟨j, oj, hjk, hj, hd⟩]
      exact inv.still t fun j oj hjk hj hd => absurd ⟨j, oj, hjk, hj, hd⟩ hw
  intro fuel
  induction fuel with
  | zero =>
    intro listed a w ψ hle hr inv hc
    exfalso
    have hls : listed.size = l.length := by have := inv.head.size; simpa using this
    have h1 := inv.head.tail k (Nat.le_refl _) hsize
    have hkz : k < listed.size := by omega
    have h2 : listed.toList[k]? = some false := by
      simp [Array.getD, hkz] at h1
      simp [hkz, h1]
    have hmem : false ∈ listed.toList.filter (!·) := by simp [List.mem_filter, List.mem_of_getElem? h2]
    have := List.length_pos_of_mem hmem
    omega
  | succ fuel ih =>
    intro listed a w ψ hle hr inv hc
    have hls : listed.size = l.length := by have := inv.head.size; simpa using this
    by_cases hdone : ∀ j, j < k → listed.getD j false = true
    · exact fin _ listed a w ψ hle hr inv hdone hc
    · obtain ⟨u, hu, hul⟩ : ∃ u, u < k ∧ listed.getD u true = false := by
        refine Classical.byContradiction fun hne => hdone fun j hj => ?_
        have hjs : j < listed.size := by omega
        cases e : listed.getD j false with
        | true => rfl
        | false =>
          exfalso
          refine hne ⟨j, hj, ?_⟩
          simp [Array.getD, hjs] at e ⊢; exact e
      refine ⟨fun hrd => ?_, fun i hi => ?_⟩
      · exfalso
        -- the least that is not listed may come up
        have : ∀ i, i < k → listed.getD i false = true := by
          intro i
          induction i using Nat.strongRecOn with
          | ind i ihh =>
            intro hik
            cases hl : listed.getD i false with
            | true => rfl
            | false =>
              exfalso
              obtain ⟨o, ho⟩ : ∃ o, l[i]? = some o := ⟨_, List.getElem?_eq_getElem (by omega)⟩
              have : i ∈ Region.ready .any l.toArray listed := by
                rw [mem_ready]
                refine ⟨?_, o, by simpa using ho, fun e he hb => ?_⟩
                · have hi' : i < listed.size := by omega
                  simp [Array.getD, hi'] at hl ⊢; exact hl
                · have hlt := (orderBk_spec hB hik ho).1 e he hb
                  exact ihh e.on hlt (by omega)
              rw [hrd] at this
              cases this
        exact hdone this
      · have hik : i < k := by
          rcases Nat.lt_or_ge i k with c | c
          · exact c
          · exact absurd hi (tail_waits hsink hchain hsize inv.head _ u rfl hu hul i c)
        obtain ⟨h1, o, ho, hedges⟩ := mem_ready.1 hi
        have hol : l[i]? = some o := by simpa using ho
        have hisz : i < listed.size := by omega
        have hif : listed.getD i false = false := by simp [Array.getD, hisz] at h1 ⊢; exact h1
        have spec := orderBk_spec hB hik hol
        have hs : SRel ψ n ((slotsAt s l Vs i).keep (looksL l o)) a := by
          refine ⟨inv.tsize, inv.defers, fun t => ?_⟩
          rw [Slots.get_keep]
          by_cases ht : (looksL l o).contains t = true
          · rw [if_pos ht]
            have ht' : t ∈ looksL l o := by simpa using ht
            by_cases hw : ∃ (j : Nat) (oj : Oper), j < k ∧ l[j]? = some oj ∧ oj.dst = some t
            · obtain ⟨j, oj, hjk, hj, hd⟩ := hw
              rcases (spec.2 j oj t hjk hj hd).2 ht' with ⟨c1, c2⟩ | ⟨c1, c2⟩
              · rw [slotsAt_writerK hB (by omega) s Vs hjk hj hd i c1 (by omega)]
                refine inv.done t j oj hjk hj hd ?_
                obtain ⟨oi, g1, e, g2, g3, g4⟩ := Region.waitsFor_spec c2
                rw [ho] at g1
                obtain rfl := Option.some.inj g1
                rw [← g4]
                exact hedges e g2 g3
              · rw [slotsAt_none s Vs i fun j' oj' hj'' hj' hd' => by
                  have := ((orderBk_spec hB (by omega) hj').2 j oj t hjk hj hd).1 hd'
                  omega]
                refine inv.still t fun j' oj' hjk' hj' hd' => ?_
                have e := ((orderBk_spec hB hjk' hj').2 j oj t hjk hj hd).1 hd'
                subst e
                cases hl : listed.getD j' false with
                | false => rfl
                | true =>
                  exfalso
                  obtain ⟨oi, g1, e, g2, g3, g4⟩ := Region.waitsFor_spec c2
                  have := inv.head.closed j' oi g1 hl e g2 g3
                  rw [g4, hif] at this
                  cases this
            · rw [slotsAt_none s Vs i fun j oj hji hj hd => hw ⟨j, oj, by omega, hj, hd⟩]
              exact inv.still t fun j oj hjk hj hd => absurd ⟨j, oj, hjk, hj, hd⟩ hw
          · rw [if_neg ht]
            trivial
        have step := hst i o hik hol ψ w a (wpAny P .any l.toArray Q fuel (listed.setIfInBounds i true)) Q hr hs fun ψ' v w' hle' hr' hv => by
          have hdn : ∀ d, o.dst = some d → d < n := fun d hd => nth_lt l i d hall (by rw [nthDst_eq, hol]; exact hd)
          refine ih _ _ _ ψ' (PMap.le_trans hle hle') hr' ⟨inv.head.set hi hik, ?_, ?_, fun t j oj hjk hj hd hl => ?_, fun t hun => ?_⟩ ?_
          · cases hod : o.dst with
            | none => simpa [Act.put] using inv.tsize
            | some d => simpa [Act.put] using inv.tsize
          · cases hod : o.dst with
            | none => simpa [Act.put] using inv.defers
            | some d => simpa [Act.put] using inv.defers
          · by_cases e : j = i
            · subst e
              rw [hol] at hj
              obtain rfl := Option.some.inj hj
              have hlt : t < a.tmps.size := by rw [inv.tsize]; exact hdn t hd
              have : (a.put o.dst v).tmps.getD t undef = v := by rw [hd]; simp [Act.put, hlt]
              rw [this]; exact hv
            · rw [set_other e] at hl
              have hne : o.dst ≠ some t := fun hod => e (((spec.2 j oj t hjk hj hd).1 hod).symm)
              have : (a.put o.dst v).tmps.getD t undef = a.tmps.getD t undef := by
                cases hod : o.dst with
                | none => rfl
                | some d =>
                  have hdt : d ≠ t := fun e => hne (by rw [hod, e])
                  simp [Act.put, Array.getD_eq_getD_getElem?, Array.getElem?_setIfInBounds_ne hdt]
              rw [this]
              exact VR_mono hle' _ _ (inv.done t j oj hjk hj hd hl)
          · have hne : o.dst ≠ some t := fun hod => by
              have := hun i o hik hol hod
              rw [set_self hisz] at this
              cases this
            have : (a.put o.dst v).tmps.getD t undef = a.tmps.getD t undef := by
              cases hod : o.dst with
              | none => rfl
              | some d =>
                have hdt : d ≠ t := fun e => hne (by rw [hod, e])
                simp [Act.put, Array.getD_eq_getD_getElem?, Array.getElem?_setIfInBounds_ne hdt]
            rw [this]
            refine VR_mono hle' _ _ (inv.still t fun j oj hjk hj hd => ?_)
            have e : j ≠ i := fun e => by subst e; rw [hol] at hj; obtain rfl := Option.some.inj hj; exact hne hd
            have := hun j oj hjk hj hd
            rwa [set_other e] at this
          · have h2 : listed.toList[i]? = some false := by
              simp [Array.getD, hisz] at h1
              simp [hisz, h1]
            have := count_set listed.toList i h2
            have e : (listed.setIfInBounds i true).toList = listed.toList.set i true := by simp
            rw [e]
            omega
        simp only [wpOp, ho]
        split
        · rename_i hw
          rw [if_pos hw] at step
          exact .inl step
        · rename_i hw
          rw [if_neg hw] at step
          exact step

/-- The static conditions of a statement of open order with k operations ahead of those that write. -/
def tailB (l : List Oper) (k : Nat) : Bool :=
  decide (k < l.length) && orderBk l k && Region.sinkB .any l.toArray k && Region.chainB .any l.toArray k && Region.seqB .any l.toArray (l.length - k) k (firstK l.length k)

theorem awp_draw_anyT {Q : Exit → Slots → AHeap → Prop} {s : Slots} {id : Nat} {l : List Oper} (k : Nat) (hm : P.follows .mixedOrders = true) (hB : tailB l k = true) (hd : dstsOk n l = true)
    (hc : vOps P w₀ l (l.take k) s h (fun s' h' => aOps P w₀ l (l.drop k) s' h' (fun s'' h'' => Q .normal s'' h''))) : Awp P w₀ n (.region id l.toArray true) Q s h := by
  intro φ a w hr hs
  simp only [tailB, Bool.and_eq_true, decide_eq_true_eq] at hB
  obtain ⟨⟨⟨⟨hk, h1⟩, h2⟩, h3⟩, h4⟩ := hB
  obtain ⟨Vs, g1, g2, g3⟩ := vOps_stepsT (P := P) (w₀ := w₀) (n := n) (h := h) (l.drop k) hd (s := s) (l.take k) [] [] (by simp) rfl hc
  have htl : (l.take k).length = k := by simp; omega
  simp only [List.nil_append, List.length_nil, Nat.zero_le, true_implies, Nat.zero_add, htl] at g1 g2 g3
  refine wp_region_any hm ?_
  have dtake : ∀ (l : List Oper) (m : Nat), dstsOk n l = true → dstsOk n (l.drop m) = true := by
    intro l
    induction l with
    | nil => intro m _; simp [dstsOk]
    | cons o r ih =>
      intro m h
      cases m with
      | zero => simpa using h
      | succ m =>
        simp only [dstsOk, Bool.and_eq_true] at h
        simpa using ih m h.2
  refine any_okK (φ := φ) hk hd h1 h2 h3 h4 (s := s) (Vs := Vs) (fun i o hi ho => g2 i o hi ho) (fun ψ a' w' hle hr' hs' => ?_) _ _ _ _ φ φ.le_refl hr.drew ?_ ?_
  · have := aOps_ok (P := P) (w₀ := w₀) l n hd (l.drop k) k ψ _ h a' w' _ (fun e a' w' => ∃ χ s' h', φ.le χ ∧ HRel w₀ χ h' w' ∧ SRel χ n s' a' ∧ Q e s' h') (fun j => by simp [List.getElem?_drop]) (dtake l k hd) g3 hr' hs'
      (fun χ s' h' a' w' e1 e2 e3 e4 => ⟨χ, s', h', PMap.le_trans hle e1, e2, e3, e4⟩)
    rw [wpOps_eq_wpList (l.drop k) k (fun j => by simp [List.getElem?_drop])] at this
    exact this
  · have hf : ∀ j, (Array.replicate l.toArray.size false).getD j false = false := fun j => by
      simp [Array.getD]
    exact ⟨⟨by simp, fun j oj _ hl => (by rw [getD_replicate_false] at hl; cases hl), fun t _ ht => getD_in (by simpa using ht) (getD_replicate_false _ _)⟩, hs.size, hs.defers, fun t j oj _ _ _ hl => (by rw [hf] at hl; cases hl), fun t _ => hs.val t⟩
  · simp

theorem awp_dseq_anyT {Q : Exit → Slots → AHeap → Prop} {s : Slots} {id : Nat} {l : List Oper} {y : Code} (k : Nat) (L : List Nat) (hm : P.follows .mixedOrders = true) (hB : tailB l k = true) (hd : dstsOk n l = true)
    (hc : ∀ K : Slots → AHeap → Prop, (∀ s h, Awp P w₀ n y Q s h → K s h) → vOps P w₀ l (l.take k) s h (fun s' h' => aOps P w₀ l (l.drop k) s' h' (fun s'' h'' => K (s''.keep L) h''))) : Awp P w₀ n (.seq (.region id l.toArray true) y) Q s h :=
  awp_seq (awp_draw_anyT k hm hB hd (vOps_mono (hc (fun s h => Awp P w₀ n y Q s h) (fun _ _ hk => hk)) fun _ _ ha => awp_rseq.aOps_mono (fun _ _ hk => Awp.keep L hk) ha))
end
end Go.AM

/-
  An assertion layer over the model's wp, part S: statements of open order whose heap hangs on what has been listed (an alloc among the operations).
  Conditions: none. Nothing here is about a particular program.
-/
namespace Go.AM
open Go.RowKit (Below)

section
variable {P : Program} {w₀ : World} {n : Nat} {h : AHeap}

/-- What operation i does, in whatever order it comes up; HS tells the heap from what is listed. -/
def StepH (P : Program) (w₀ : World) (n : Nat) (HS : Array Bool → PMap → Act → World → Prop) (l : List Oper) (Vs : List AVal) (s : Slots) (i : Nat) (o : Oper) : Prop :=
  ∀ (listed : Array Bool) (ψ : PMap) (w : World) (a : Act) (next : Act → World → Prop) (Q : Exit → Act → World → Prop), listed.getD i false = false → i < listed.size → (∀ e ∈ o.after, Region.binds .any e = true → listed.getD e.on false = true) →
    HS listed ψ a w → AnyInv l Vs s ψ n listed a → SRel ψ n ((slotsAt s l Vs i).keep (looksL l o)) a →
    (∀ ψ' v w', ψ.le ψ' → HS (listed.setIfInBounds i true) ψ' (a.put o.dst v) w' → VR ψ' (Vs.getD i .dead) v → next (a.put o.dst v) w') →
    if Region.wanted o (yielded l.toArray a.tmps) = true then o.wp P a w next Q else next (a.put o.dst undef) w

/-- The heap of a statement that allocates at ia (into slot ta) and stores there at is. -/
def HSA (w₀ : World) (h : AHeap) (ia is ta : Nat) (zb b : Blk) (listed : Array Bool) (ψ : PMap) (a : Act) (w : World) : Prop :=
  (listed.getD ia false = false ∧ HRel w₀ ψ h w) ∨
  (listed.getD ia false = true ∧ ∃ k, h k = none ∧ VR ψ (.ptr (.own k) 0) (a.tmps.getD ta undef) ∧ HRel w₀ ψ (h.set k (if listed.getD is false then b else zb)) w)

theorem put_tmps_ne (a : Act) (d : Option Tmp) (v : Value) {t : Nat} (hne : d ≠ some t) : (a.put d v).tmps.getD t undef = a.tmps.getD t undef := by
  cases d with
  | none => rfl
  | some d =>
    have hdt : d ≠ t := fun e => hne (by rw [e])
    simp [Act.put, Array.getD_eq_getD_getElem?, Array.getElem?_setIfInBounds_ne hdt]

theorem StepH.plain {l : List Oper} {Vs : List AVal} {s : Slots} {i : Nat} {o : Oper} {ia is ta : Nat} {zb b : Blk} (hi : i ≠ ia) (hi' : i ≠ is) (hdt : o.dst ≠ some ta)
    (h1 : StepOk P w₀ n h l o (slotsAt s l Vs i) (Vs.getD i .dead)) (h2 : ∀ k c, h k = none → StepOk P w₀ n (h.set k c) l o (slotsAt s l Vs i) (Vs.getD i .dead)) : StepH P w₀ n (HSA w₀ h ia is ta zb b) l Vs s i o := by
  intro listed ψ w a next Q hl hsz he hH inv hs hn
  rcases hH with ⟨e1, hr⟩ | ⟨e1, k, hk, hv, hr⟩
  · exact h1 ψ w a next Q hr hs fun ψ' v w' hle hr' hv' => hn ψ' v w' hle (.inl ⟨by rw [set_other (Ne.symm hi)]; exact e1, hr'⟩) hv'
  · refine h2 k _ hk ψ w a next Q hr hs fun ψ' v w' hle hr' hv' => hn ψ' v w' hle (.inr ⟨by rw [set_other (Ne.symm hi)]; exact e1, k, hk, ?_, ?_⟩) hv'
    · rw [put_tmps_ne a o.dst v hdt]; exact VR_mono hle _ _ hv
    · rw [set_other (Ne.symm hi')]; exact hr'

theorem StepH.alloc {l : List Oper} (hall : dstsOk n l = true) {Vs : List AVal} {s : Slots} {o : Oper} {ia is ta : Nat} {zb b : Blk} (hol : l[ia]? = some o) (hg : o.guard = none) (hd : o.dst = some ta) {e : TypeId} (hop : o.op = .alloc e) {z : Value} (hz : zeOf P e = some z)
    (hzb : zb = ⟨z.cells.toList.map absS, 0⟩) (hne : is ≠ ia) (hw : Region.waitsFor .any l.toArray is ia = true) (hV : Vs.getD ia .dead = .dead) : StepH P w₀ n (HSA w₀ h ia is ta zb b) l Vs s ia o := by
  intro listed ψ w a next Q hl hsz he hH inv hs hn
  have hwt : Region.wanted o (yielded l.toArray a.tmps) = true := by simp [Region.wanted, hg]
  rw [if_pos hwt]
  rcases hH with ⟨_, hr⟩ | ⟨e1, _⟩
  · have hlis : listed.getD is false = false := by
      cases hc : listed.getD is false with
      | false => rfl
      | true =>
        exfalso
        obtain ⟨oi, g1, e, g2, g3, g4⟩ := Region.waitsFor_spec hw
        have := inv.closed is oi (by simpa using g1) hc e g2 g3
        rw [g4, hl] at this
        cases this
    have heop : eop P w₀ h ((slotsAt s l Vs ia).keep (looksL l o)) o.op (fun x h' => ∃ k, h k = none ∧ x = .ptr (.own k) 0 ∧ h' = h.set k zb) := by
      rw [hop]
      simp only [eop, hz]
      exact fun k hk => ⟨k, hk, rfl, by rw [hzb]⟩
    refine eop_ok o heop hr hs fun ψ' x h' v w' h1 h2 h3 ⟨k, hk, e1, e2⟩ => ?_
    subst e1 e2
    have hlt : ta < a.tmps.size := by rw [inv.tsize]; exact nth_lt l ia ta hall (by rw [nthDst_eq, hol]; exact hd)
    refine hn ψ' v w' h1 (.inr ⟨set_self hsz, k, hk, ?_, ?_⟩) (by rw [hV]; trivial)
    · have : (a.put o.dst v).tmps.getD ta undef = v := by rw [hd]; simp [Act.put, hlt]
      rw [this]; exact h3
    · rw [set_other hne, hlis, if_neg (by decide)]; exact h2
  · rw [hl] at e1; cases e1

theorem StepH.store {l : List Oper} {Vs : List AVal} {s : Slots} {o : Oper} {ia is ta : Nat} {zb b : Blk} (hol : l[is]? = some o) (hg : o.guard = none) (hd : o.dst = none) (hne : is ≠ ia) (hw : Region.waitsFor .any l.toArray is ia = true) (hV : Vs.getD is .dead = .dead)
    (hst : ∀ k, h k = none → eop P w₀ (h.set k zb) (((slotsAt s l Vs is).put ta (.ptr (.own k) 0)).keep (looksL l o)) o.op (fun _ h' => h' = h.set k b)) : StepH P w₀ n (HSA w₀ h ia is ta zb b) l Vs s is o := by
  intro listed ψ w a next Q hl hsz he hH inv hs hn
  have hwt : Region.wanted o (yielded l.toArray a.tmps) = true := by simp [Region.wanted, hg]
  rw [if_pos hwt]
  have hlia : listed.getD ia false = true := by
    obtain ⟨oi, g1, e, g2, g3, g4⟩ := Region.waitsFor_spec hw
    have g1' : l[is]? = some oi := by simpa using g1
    rw [hol] at g1'
    obtain rfl := Option.some.inj g1'
    rw [← g4]
    exact he e g2 g3
  rcases hH with ⟨e1, _⟩ | ⟨e1, k, hk, hv, hr⟩
  · rw [hlia] at e1; cases e1
  · rw [hl, if_neg (by decide)] at hr
    have hs' : SRel ψ n (((slotsAt s l Vs is).put ta (.ptr (.own k) 0)).keep (looksL l o)) a := by
      refine ⟨hs.size, hs.defers, fun t => ?_⟩
      have h0 := hs.val t
      rw [Slots.get_keep] at h0 ⊢
      by_cases hc : (looksL l o).contains t = true
      · rw [if_pos hc] at h0 ⊢
        rw [Slots.get_put]
        by_cases ht : t = ta
        · subst ht; simpa using hv
        · simpa [ht] using h0
      · rw [if_neg hc]; trivial
    refine eop_ok o (hst k hk) hr hs' fun ψ' x h' v w' h1 h2 h3 e2 => ?_
    subst e2
    refine hn ψ' v w' h1 (.inr ⟨by rw [set_other (Ne.symm hne)]; exact hlia, k, hk, ?_, ?_⟩) (by rw [hV]; trivial)
    · rw [hd]; exact VR_mono h1 _ _ hv
    · rw [set_self hsz, if_pos rfl]; exact h2

def Near (h g : AHeap) : Prop := g = h ∨ ∃ k c, h k = none ∧ g = h.set k c
theorem Near.sub {h g : AHeap} (hn : Near h g) : ∀ k b, h k = some b → g k = some b := by
  intro k b hb
  rcases hn with rfl | ⟨k', c, hk, rfl⟩
  · exact hb
  · rw [AHeap.set_ne]
    · exact hb
    · intro e; subst e; rw [hk] at hb; cases hb

variable {ops rest : List Oper} {dst : Option Tmp} {ty : TypeId} {pos : String} {af : Array Edge}
end
end Go.AM

/-
  An assertion layer over the model's wp, part T: one rule for statements of open order: operations that read, call or lay blocks in any order, late ones that only look at slots, and a chained tail.
  Conditions: none. Nothing here is about a particular program.
-/
namespace Go.AM
open Go.RowKit (Below)

/-! ### What an operation does hangs on what it looks at -/
theorem ev_mem {s : Slots} {L : List Nat} {op : Op} (hL : ∀ t ∈ opTmps op, t ∈ L) : ∀ x ∈ op.operands.toList, ev (s.keep L) x = ev s x := by
  intro x hx
  refine ev_keep fun t ht => hL t ?_
  subst ht
  exact List.mem_filterMap.2 ⟨_, hx, rfl⟩
theorem evs_mem {s s' : Slots} : ∀ {xs : List Operand}, (∀ x ∈ xs, ev s' x = ev s x) → evs s' xs = evs s xs
  | [], _ => rfl
  | x :: xs, h => by
    have := evs_mem (s := s) (s' := s') (xs := xs) fun y hy => h y (List.mem_cons_of_mem _ hy)
    simp only [evs, List.map_cons] at this ⊢
    rw [h x List.mem_cons_self, this]
theorem evP_mem {s s' : Slots} : ∀ {xs : List (Nat × Operand)}, (∀ p ∈ xs, ev s' p.2 = ev s p.2) → evP s' xs = evP s xs
  | [], _ => rfl
  | x :: xs, h => by
    have := evP_mem (s := s) (s' := s') (xs := xs) fun y hy => h y (List.mem_cons_of_mem _ hy)
    simp only [evP, List.map_cons] at this ⊢
    rw [h x List.mem_cons_self, this]
theorem evO_mem {s s' : Slots} {x : Option Operand} (h : ∀ y, x = some y → ev s' y = ev s y) : evO s' x = evO s x := by
  cases x with
  | none => rfl
  | some y => simp only [evO, h y rfl]

theorem pop_congr {P : Program} {w₀ : World} {h : AHeap} {s s' : Slots} (op : Op) (E : ∀ x ∈ op.operands.toList, ev s' x = ev s x) : pop P w₀ h s' op = pop P w₀ h s op := by
  cases op with
  | move x => simp only [pop, E x (by simp [Op.operands])]
  | assign x => simp only [pop, E x (by simp [Op.operands])]
  | pick c a b => simp only [pop, E c (by simp [Op.operands]), E a (by simp [Op.operands]), E b (by simp [Op.operands])]
  | binOp o t x y u => simp only [pop, E x (by simp [Op.operands]), E y (by simp [Op.operands])]
  | unOp o t x => simp only [pop, E x (by simp [Op.operands])]
  | convert a b x => simp only [pop, E x (by simp [Op.operands])]
  | load t x => simp only [pop, E x (by simp [Op.operands])]
  | field t x f => simp only [pop, E x (by simp [Op.operands])]
  | fieldAddr t x f => simp only [pop, E x (by simp [Op.operands])]
  | index t x i => simp only [pop, E x (by simp [Op.operands]), E i (by simp [Op.operands])]
  | indexAddr t x i => simp only [pop, E x (by simp [Op.operands]), E i (by simp [Op.operands])]
  | slice t x lo hi mx =>
    simp only [pop, E x (by simp [Op.operands])]
    rw [evO_mem (s := s) (s' := s') (x := lo) fun y hy => E y (by subst hy; simp [Op.operands]), evO_mem (s := s) (s' := s') (x := hi) fun y hy => E y (by subst hy; simp [Op.operands]), evO_mem (s := s) (s' := s') (x := mx) fun y hy => E y (by subst hy; simp [Op.operands])]
  | extract x i => simp only [pop, E x (by simp [Op.operands])]
  | nilCheck x => simp only [pop, E x (by simp [Op.operands])]
  | build t ps =>
    simp only [pop]
    rw [evP_mem (s := s) (s' := s') fun p hp => E p.2 (by simp only [Op.operands, List.toList_toArray, List.mem_map]; exact ⟨p, hp, rfl⟩)]
  | makeFunc fn first cap =>
    simp only [pop]
    rw [evs_mem (s := s) (s' := s') (xs := cap.toList) fun x hx => E x (by simp only [Op.operands, Array.toList_append, List.mem_append]; exact .inr hx)]
  | makeInterface t x => simp only [pop, E x (by simp [Op.operands])]
  | call c =>
    obtain ⟨callee, args, ts⟩ := c
    simp only [pop]
    cases callee with
    | builtin b =>
      simp only
      rw [evs_mem (s := s) (s' := s') (xs := args.toList) fun x hx => E x (by simp only [Op.operands, Call.operands, Array.toList_append, List.mem_append]; exact .inr hx)]
    | _ => rfl
  | _ => rfl

theorem eop_congr {P : Program} {w₀ : World} {h : AHeap} {s s' : Slots} (op : Op) {K : AVal → AHeap → Prop} (E : ∀ x ∈ op.operands.toList, ev s' x = ev s x) : eop P w₀ h s' op K = eop P w₀ h s op K := by
  have hp := pop_congr (P := P) (w₀ := w₀) (h := h) (s := s) (s' := s') op E
  cases op with
  | box e x => simp only [eop, E x (by simp [Op.operands])]
  | buildSlice t n ps =>
    simp only [eop]
    rw [evP_mem (s := s) (s' := s') fun p hp => E p.2 (by simp only [Op.operands, List.toList_toArray, List.mem_map]; exact ⟨p, hp, rfl⟩)]
  | store t x v => simp only [eop, E x (by simp [Op.operands]), E v (by simp [Op.operands])]
  | makeSlice t n c => simp only [eop, E n (by simp [Op.operands]), E c (by simp [Op.operands])]
  | convert a b x => simp only [eop, E x (by simp [Op.operands]), hp]
  | call c =>
    obtain ⟨callee, args, ts⟩ := c
    have hx : evs s' args.toList = evs s args.toList := evs_mem fun x hx => E x (by simp only [Op.operands, Call.operands, Array.toList_append, List.mem_append]; exact .inr hx)
    cases callee with
    | value f =>
      simp only [eop, hx]
      rw [E f (by simp [Op.operands, Call.operands])]
    | builtin b => cases b <;> simp only [eop, hx] <;> rw [hp]
    | invoke r m => simp only [eop, hp]
  | alloc e => rfl
  | _ => simp only [eop, hp]

/-! ### Names that a value bears -/
mutual
/-- Each own block that the value names has a place. -/
def AVal.okIn (f : Nat → Bool) : AVal → Prop
  | .ptr (.own k) _ => f k = true
  | .slice (.own k) _ len c => match c with
    | .exact c => (c ≠ 0 ∨ len ≠ 0 → f k = true)
    | .grow _ => f k = true
  | .func _ cs => okInL f cs
  | .iface _ x => x.okIn f
  | .agg cs => okInL f cs
  | .tuple cs => okInL f cs
  | _ => True
def okInL (f : Nat → Bool) : List AVal → Prop
  | [] => True
  | x :: xs => x.okIn f ∧ okInL f xs
end

mutual
theorem okIn_of_VR {φ : PMap} : ∀ (x : AVal) (v : Value), VR φ x v → x.okIn (fun k => (φ k).isSome)
  | .dead, _, _ => by simp only [AVal.okIn]
  | .bool _, _, _ => by simp only [AVal.okIn]
  | .int _ _, _, _ => by simp only [AVal.okIn]
  | .str _, _, _ => by simp only [AVal.okIn]
  | .nilPtr, _, _ => by simp only [AVal.okIn]
  | .nilSlice, _, _ => by simp only [AVal.okIn]
  | .nilFunc, _, _ => by simp only [AVal.okIn]
  | .nilIface, _, _ => by simp only [AVal.okIn]
  | .nilMap, _, _ => by simp only [AVal.okIn]
  | .ptr (.base b) _, _, _ => by simp only [AVal.okIn]
  | .ptr (.own k) o, v, h => by
    simp only [VR, locAddr, Option.map_eq_some_iff] at h
    obtain ⟨a, ⟨p, hp, _⟩, _⟩ := h
    simp only [AVal.okIn, hp, Option.isSome_some]
  | .slice (.base b) _ _ _, _, _ => by simp only [AVal.okIn]
  | .slice (.own k) o len (.exact c), v, h => by
    simp only [VR, locAddr, Option.map_eq_some_iff] at h
    obtain ⟨a, _, h2⟩ := h
    simp only [AVal.okIn]
    intro hc
    obtain ⟨p, hp, _⟩ := h2 hc
    simp only [hp, Option.isSome_some]
  | .slice (.own k) o len (.grow es), v, h => by
    simp only [VR] at h
    obtain ⟨k', p, c, a, e, hp, _⟩ := h
    cases e
    simp only [AVal.okIn, hp, Option.isSome_some]
  | .func f cs, v, h => by
    simp only [VR] at h
    obtain ⟨vs, _, h2⟩ := h
    simp only [AVal.okIn]
    exact okInL_of_VRs cs vs h2
  | .iface t x, v, h => by
    simp only [VR] at h
    obtain ⟨y, _, h2⟩ := h
    simp only [AVal.okIn]
    exact okIn_of_VR x y h2
  | .agg cs, v, h => by
    simp only [VR] at h
    obtain ⟨vs, _, h2⟩ := h
    simp only [AVal.okIn]
    exact okInL_of_VRs cs vs h2
  | .tuple cs, v, h => by
    simp only [VR] at h
    obtain ⟨vs, _, h2⟩ := h
    simp only [AVal.okIn]
    exact okInL_of_VRs cs vs h2
theorem okInL_of_VRs {φ : PMap} : ∀ (xs : List AVal) (vs : List Value), VRs φ xs vs → okInL (fun k => (φ k).isSome) xs
  | [], _, _ => by simp only [okInL]
  | x :: xs, vs, h => by
    simp only [VRs] at h
    obtain ⟨v, vs', _, h1, h2⟩ := h
    simp only [okInL]
    exact ⟨okIn_of_VR x v h1, okInL_of_VRs xs vs' h2⟩
end

mutual
theorem VR_limit {φ ψ : PMap} {f : Nat → Bool} (hf : ∀ k, f k = true → φ k = ψ k) : ∀ (x : AVal) (v : Value), x.okIn f → VR φ x v → VR ψ x v
  | .dead, _, _, h => h
  | .bool _, _, _, h => h
  | .int _ _, _, _, h => h
  | .str _, _, _, h => h
  | .nilPtr, _, _, h => h
  | .nilSlice, _, _, h => h
  | .nilFunc, _, _, h => h
  | .nilIface, _, _, h => h
  | .nilMap, _, _, h => h
  | .ptr (.base b) _, _, _, h => h
  | .ptr (.own k) o, v, ok, h => by
    simp only [AVal.okIn] at ok
    simp only [VR, locAddr, ← hf k ok] at h ⊢
    exact h
  | .slice (.base b) _ _ (.exact c), _, _, h => h
  | .slice (.base b) _ _ (.grow c), v, _, h => by
    simp only [VR] at h
    obtain ⟨k, p, c, a, e, _⟩ := h
    cases e
  | .slice (.own k) o len (.exact c), v, ok, h => by
    simp only [AVal.okIn] at ok
    simp only [VR, locAddr] at h ⊢
    obtain ⟨a, h1, h2⟩ := h
    exact ⟨a, h1, fun hc => by rw [← hf k (ok hc)]; exact h2 hc⟩
  | .slice (.own k) o len (.grow es), v, ok, h => by
    simp only [AVal.okIn] at ok
    simp only [VR] at h ⊢
    obtain ⟨k', p, c, a, e, hp, rest⟩ := h
    cases e
    exact ⟨k, p, c, a, rfl, by rw [← hf k ok]; exact hp, rest⟩
  | .func f cs, v, ok, h => by
    simp only [AVal.okIn] at ok
    simp only [VR] at h ⊢
    obtain ⟨vs, h1, h2⟩ := h
    exact ⟨vs, h1, VRs_limit hf cs vs ok h2⟩
  | .iface t x, v, ok, h => by
    simp only [AVal.okIn] at ok
    simp only [VR] at h ⊢
    obtain ⟨y, h1, h2⟩ := h
    exact ⟨y, h1, VR_limit hf x y ok h2⟩
  | .agg cs, v, ok, h => by
    simp only [AVal.okIn] at ok
    simp only [VR] at h ⊢
    obtain ⟨vs, h1, h2⟩ := h
    exact ⟨vs, h1, VRs_limit hf cs vs ok h2⟩
  | .tuple cs, v, ok, h => by
    simp only [AVal.okIn] at ok
    simp only [VR] at h ⊢
    obtain ⟨vs, h1, h2⟩ := h
    exact ⟨vs, h1, VRs_limit hf cs vs ok h2⟩
theorem VRs_limit {φ ψ : PMap} {f : Nat → Bool} (hf : ∀ k, f k = true → φ k = ψ k) : ∀ (xs : List AVal) (vs : List Value), okInL f xs → VRs φ xs vs → VRs ψ xs vs
  | [], _, _, h => h
  | x :: xs, vs, ok, h => by
    simp only [okInL] at ok
    simp only [VRs] at h ⊢
    obtain ⟨v, vs', h0, h1, h2⟩ := h
    exact ⟨v, vs', h0, VR_limit hf x v ok.1 h1, VRs_limit hf xs vs' ok.2 h2⟩
end



/-- Names that nothing bears may be taken back. -/
theorem HRel.limit {w₀ w w' : World} {φ ψ ψ' : PMap} {g : AHeap} (hr : HRel w₀ φ g w) (hr' : HRel w₀ ψ g w') (hl : ψ'.le ψ) (hk : ∀ k, (φ k).isSome = true → ψ k = ψ' k) : HRel w₀ ψ' g w' := by
  refine ⟨hr'.below, fun k b hb => ?_, fun k k' b b' p p' hb hb' hp hp' => hr'.inj k k' b b' p p' hb hb' (hl _ _ hp) (hl _ _ hp'), fun k p hp => hr'.lt k p (hl _ _ hp), ?_, fun k p hp => hr'.typ k p (hl _ _ hp)⟩
  · obtain ⟨p, hp, h1, h2⟩ := hr'.own k b hb
    obtain ⟨q, hq, _, c2⟩ := hr.own k b hb
    refine ⟨p, by rw [← hk k (by simp [hq])]; exact hp, h1, ?_⟩
    obtain ⟨cs, e, lo, hi, r1, r2, r3, r4, r5, r6⟩ := h2.row
    obtain ⟨cs', e', lo', hi', s1, s2, s3, s4, s5, s6⟩ := c2.row
    exact ⟨cs, e, lo, hi, r1, r2, r3, r4, VRs_limit (f := fun k => (φ k).isSome) (fun k hf => hk k hf) _ _ (okInL_of_VRs _ _ s5) r5, r6⟩
  · obtain ⟨N, hN⟩ := hr'.fin
    refine ⟨N, fun k hk' => ?_⟩
    cases e : ψ' k with
    | none => rfl
    | some p => have := hl k p e; rw [hN k hk'] at this; cases this

/-- 0: lays a block; 1: calls; 2: reads; 3: none of these. -/
def kindF (P : Program) : Op → Nat
  | .alloc _ => 0
  | .box _ _ => 0
  | .buildSlice _ _ _ => 0
  | .makeSlice _ _ _ => 0
  | .store _ _ _ => 3
  | .convert src dst _ => if eStrBytes P src dst = true then 0 else if eSame P src dst = true then 3 else 2
  | .call c => match c.callee with
    | .value _ => 1
    | .builtin .append => 3
    | .builtin .copy => 3
    | .builtin _ => 2
    | .invoke _ _ => 3
  | _ => 2

/-- An operation that lays a block does so under a name of our choice, beside whatever else lies there. -/
theorem lay_ok {P : Program} {w₀ : World} {h : AHeap} {s : Slots} {op : Op} {K : AVal → AHeap → Prop} (hk0 : kindF P op = 0) (he : eop P w₀ h s op K) :
    ∃ (val : Nat → AVal) (b : Blk), (∀ k, h k = none → K (val k) (h.set k b)) ∧
      ∀ (k : Nat) (o : Oper), o.op = op → ∀ {w : World} {φ : PMap} {g : AHeap} {n : Nat} {a : Act} {next : Act → World → Prop} {Q : Exit → Act → World → Prop}, HRel w₀ φ g w → SRel φ n s a → g k = none → φ k = none → tyOf k = none →
        (∀ p v w', HRel w₀ (φ.upd k p) (g.set k b) w' → VR (φ.upd k p) (val k) v → next (a.put o.dst v) w') → o.wp P a w next Q := by
  cases op <;> simp only [kindF] at hk0 <;> first
    | (cases hk0; done)
    | skip
  case alloc e =>
    simp only [eop] at he
    split at he <;> first | exact he.elim | skip
    rename_i z hz
    refine ⟨fun k => .ptr (.own k) 0, ⟨z.cells.toList.map absS, 0⟩, he, ?_⟩
    rintro k ⟨dst, op, type, pos, after, guard⟩ rfl w φ g n a next Q hr hs hk hφ hkt hn
    obtain ⟨e1, e2⟩ := hr.alloc k hk hφ (z.cells.toList.map absS) z.cells e 0 0 (by rw [List.length_map, List.take_length]; exact VRs_absS φ z.cells.toList) no_frz (fun t ht => by rw [hkt] at ht; cases ht)
    refine wp_value (v := .pointer (some ⟨w.heap.size, 0, none⟩)) (w' := w.alloc (.cells z.cells e)) ?_ (hn _ _ _ e2 (VR_new _ _ _))
    simp [execOp, Instr.alloc, run_zero' hz, newVar, newRow]
  case box e x =>
    simp only [eop] at he
    obtain ⟨hl, he⟩ := he
    refine ⟨fun k => .ptr (.own k) 0, ⟨(ev s x).cells, 0⟩, he, ?_⟩
    rintro k ⟨dst, op, type, pos, after, guard⟩ rfl w φ g n a next Q hr hs hk hφ hkt hn
    have hx := VRs_cells (hs.ev x) hl
    have hlen := VRs_length hx
    obtain ⟨e1, e2⟩ := hr.alloc k hk hφ (ev s x).cells (a.eval x).cells e 0 0 (by rw [← hlen, List.take_length]; exact hx) no_frz (fun t ht => by rw [hkt] at ht; cases ht)
    refine wp_value (v := .pointer (some ⟨w.heap.size, 0, none⟩)) (w' := w.alloc (.cells (a.eval x).cells e)) ?_ (hn _ _ _ e2 (VR_new _ _ _))
    simp [execOp, Instr.box, newVar, newRow]
  case buildSlice t m parts =>
    simp only [eop] at he
    split at he <;> first | exact he.elim | skip
    rename_i cs hb
    refine ⟨fun k => .slice (.own k) 0 m (.exact m), ⟨cs, 0⟩, he, ?_⟩
    rintro k ⟨dst, op, type, pos, after, guard⟩ rfl w φ g n a next Q hr hs hk hφ hkt hn
    unfold buildSliceA at hb
    split at hb <;> first | (cases hb; done) | skip
    rename_i e ht
    split at hb <;> first | (cases hb; done) | skip
    rename_i es z hes hz
    split at hb <;> first | (cases hb; done) | skip
    rename_i hc
    obtain ⟨c1, c2, c3⟩ := hc
    have hzs : VRs φ (z.cells.toList.map absS) z.cells.toList := VRs_absS φ _
    obtain ⟨r, f1, f2⟩ := fill_ok (φ := φ) (fun i => some (i * es, es)) (vs := (parts.map fun (i, x) => (i, a.eval x)).toList) (us := (Array.range (m * es)).map (z.cells[· % z.cells.size]!)) (by simpa using hs.evP parts.toList) (VRs_rep hzs (by omega) (m * es)) hb
    have hlen := VRs_length f2
    simp only [Array.length_toList] at hlen
    have hcl : cs.length = m * es := by rw [fill_length _ hb]; simp [repCells]
    obtain ⟨e1, e2⟩ := hr.alloc k hk hφ cs r e 0 0 (by rw [← hlen, ← Array.length_toList, List.take_length]; exact f2) no_frz (fun t ht => by rw [hkt] at ht; cases ht)
    refine wp_value (v := .slice (some ⟨w.heap.size, 0, none⟩) m m) (w' := w.alloc (.cells r e)) ?_ (hn _ _ _ e2 ?_)
    · have hbig : ¬ (m * es > 2 ^ 24) := by omega
      have hb' : ¬ (16777216 < m * es) := by omega
      by_cases hz0 : m * es = 0
      · have hr0 : r = #[] := Array.eq_empty_of_size_eq_zero (by omega)
        have harr : ((Array.range (m * es)).map (z.cells[· % z.cells.size]!)) = #[] := by rw [hz0]; simp
        rw [harr] at f1
        simp at f1
        simp [execOp, Instr.buildSlice, run_underlying' ht, run_sizeOf' hes, hz0, Array.range_zero', f1, newRow]
      · simp [execOp, Instr.buildSlice, run_underlying' ht, run_sizeOf' hes, hz0, hb', run_zero' hz]
        simp at f1
        simp [f1, newRow]
    · simp only [VR]
      exact ⟨_, rfl, fun _ => by simp [locAddr, PMap.upd]⟩
  case makeSlice t m c =>
    simp only [eop] at he
    unfold eMake at he
    split at he <;> first | exact he.elim | skip
    rename_i e len cap ht hlen hcap
    split at he <;> first | exact he.elim | skip
    rename_i es by' z hes hby hz
    obtain ⟨⟨g1, g2, g3, g4, g5, g6⟩, he⟩ := he
    refine ⟨fun k => .slice (.own k) 0 len.toNat (.exact cap.toNat), ⟨repCells (z.cells.toList.map absS) (cap.toNat * es), 0⟩, he, ?_⟩
    rintro k ⟨dst, op, type, pos, after, guard⟩ rfl w φ g n a next Q hr hs hk hφ hkt hn
    have i1 : ∃ k, a.eval m = .int k len := by
      have := hs.ev m
      revert hlen this
      cases ev s m <;> simp [intA, VR]
      intro e1 e2
      subst e1
      exact ⟨_, e2⟩
    have i2 : ∃ k, a.eval c = .int k cap := by
      have := hs.ev c
      revert hcap this
      cases ev s c <;> simp [intA, VR]
      intro e1 e2
      subst e1
      exact ⟨_, e2⟩
    obtain ⟨k1, i1⟩ := i1
    obtain ⟨k2, i2⟩ := i2
    simp only [szOf, Option.map_eq_some_iff] at hes
    obtain ⟨ii, hi, hes⟩ := hes
    simp only [byOf, hi, Option.map_some, Option.some.injEq] at hby
    simp only [zeOf, hi, Option.bind_some] at hz
    subst hby
    have hmake := run_make (P := P) w t e ii z ht hi hz k1 k2 len cap g1 g2 g3 g4
    rw [hes] at hmake
    have hzs : VRs φ (z.cells.toList.map absS) z.cells.toList := VRs_absS φ _
    have hrep := VRs_rep hzs (by omega) (cap.toNat * es)
    obtain ⟨e1, e2⟩ := hr.alloc k hk hφ (repCells (z.cells.toList.map absS) (cap.toNat * es)) (madeCells z.cells (cap.toNat * es)) e 0 0 (by
      have hl := VRs_length hrep
      rw [← hl]
      unfold madeCells
      rw [List.take_length]
      exact hrep) no_frz (fun t ht => by rw [hkt] at ht; cases ht)
    refine wp_value (v := .slice (some ⟨w.heap.size, 0, none⟩) len.toNat cap.toNat) (w' := w.alloc (.cells (madeCells z.cells (cap.toNat * es)) e)) ?_ (hn _ _ _ e2 ?_)
    · simp only [execOp, i1, i2]
      exact run_value hmake
    · simp only [VR]
      exact ⟨_, rfl, fun _ => by simp [locAddr, PMap.upd]⟩
  case convert src dst' x =>
    split at hk0
    · rename_i hc
      simp only [eop] at he
      split at he
      · rename_i b hb
        rw [if_pos hc] at he
        obtain ⟨g1, he⟩ := he
        refine ⟨fun k => .slice (.own k) 0 b.length (.grow 1), ⟨byteCells b, 0⟩, he, ?_⟩
        rintro k ⟨dst, op, type, pos, after, guard⟩ rfl w φ g n a next Q hr hs hk hφ hkt hn
        unfold eStrBytes at hc
        split at hc <;> first | (cases hc; done) | skip
        rename_i e h1 h2
        split at hc <;> first | (cases hc; done) | skip
        rename_i h3
        have hx := hs.ev x
        rw [hb] at hx
        simp only [VR] at hx
        have hcap : b.length ≤ grownCap w b.length 0 e := by
          simp only [grownCap, Question.cut]
          omega
        have hrun := run_bytes_of_string (P := P) w src dst' e ⟨⟨b⟩⟩ h1 h2 h3
        rw [bsize] at hrun
        generalize hG : grownCap w b.length 0 e = G at *
        have hrow : (bytesRow ⟨⟨b⟩⟩ G).toList = (b.map fun c => Value.int .u8 c.toNat) ++ List.replicate (G - b.length) (.int .u8 0) := by
          simp [bytesRow, bsize]
        have hsize : (bytesRow ⟨⟨b⟩⟩ G).size = G := by
          rw [← Array.length_toList, hrow]
          simp
          omega
        rw [hsize] at hrun
        have hcells : (byteCells b).length = b.length := byteCells_length b
        obtain ⟨e1, e2⟩ := hr.drew.alloc k hk hφ (byteCells b) (bytesRow ⟨⟨b⟩⟩ G) e G (G + 1) (by
          rw [hcells, hrow, List.take_append_of_le_length (by simp)]
          rw [List.take_of_length_le (by simp)]
          exact VRs_bytes φ b) (fun i h1 h2 => by rw [hsize]; exact h1) (fun t ht => by rw [hkt] at ht; cases ht)
        refine wp_value (v := .slice (some ⟨w.heap.size, 0, none⟩) b.length G) (w' := w.drew.alloc (.cells (bytesRow ⟨⟨b⟩⟩ G) e (G, G + 1))) ?_ (hn _ _ _ e2 ?_)
        · simp only [execOp, hx]
          exact run_value hrun
        · simp only [VR]
          exact ⟨k, _, G, ⟨w.heap.size, 0, none⟩, rfl, PMap.upd_same _ _ _, rfl, hcap, fun _ => ⟨rfl, by simp [hsize]⟩⟩
      · rename_i k o m c hx
        simp only [eStrBytes] at hc
        split at he
        · rename_i hc'
          simp only [eSame, Bool.and_eq_true, beq_iff_eq] at hc'
          obtain ⟨rfl, hc'⟩ := hc'
          split at hc <;> first | (cases hc; done) | skip
          rename_i e h1 h2
          rw [h1] at h2; cases h2
        · exfalso
          simp only [pop, hx, pConv] at he
          split at hc <;> first | (cases hc; done) | skip
          rename_i e h1 h2
          simp [h1, h2] at he
          exact he.1
      · rename_i hn1 hn2
        exfalso
        unfold eStrBytes at hc
        split at hc <;> first | (cases hc; done) | skip
        rename_i e h1 h2
        have he1 := he.1
        simp only [pop] at he1
        cases hx : ev s x with
        | str b => exact hn1 b hx
        | _ => simp [hx, pConv, h1, h2, PR.no] at he1
    · split at hk0 <;> cases hk0
  case call c =>
    obtain ⟨callee, args, ts⟩ := c
    cases callee with
    | value f => cases hk0
    | invoke r m => cases hk0
    | builtin b => cases b <;> cases hk0

section
variable {P : Program} {w₀ : World} {n : Nat} {h₀ : AHeap}

/-! ### The heads of statements of open order -/
def stepF (P : Program) (w₀ : World) (h₀ h : AHeap) (S : Slots) (op : Op) (V : AVal) : Prop :=
  if kindF P op = 2 then (pop P w₀ h S op).pre ∧ V = (pop P w₀ h S op).val
  else kindF P op = 1 ∧ V.okIn (fun k => (h₀ k).isSome) ∧ ∀ g, (∀ k b, h₀ k = some b → g k = some b) → eop P w₀ g S op (fun x h' => x = V ∧ h' = g)

def fOps (P : Program) (w₀ : World) (ops : List Oper) (h₀ : AHeap) : List Oper → Slots → AHeap → (Slots → AHeap → Prop) → Prop
  | [], s, h, K => K s h
  | o :: rest, s, h, K =>
    if kindF P o.op = 0 then o.guard = none ∧ eop P w₀ h (s.keep (looksL ops o)) o.op (fun x h' => fOps P w₀ ops h₀ rest (putD s o.dst x) h' K)
    else match o.guard with
      | none => ∃ V, stepF P w₀ h₀ h (s.keep (looksL ops o)) o.op V ∧ fOps P w₀ ops h₀ rest (putD s o.dst V) h K
      | some (j, want) => match nthDst ops j with
        | none => fOps P w₀ ops h₀ rest (putD s o.dst (.tuple [])) h K
        | some d => gKnown (s.get d) = true ∧ ∃ V, (guardB (s.get d) want = true → stepF P w₀ h₀ h (s.keep (looksL ops o)) o.op V) ∧ fOps P w₀ ops h₀ rest (putD s o.dst (condV (guardB (s.get d) want) V)) h K

theorem fOps_mono {ops : List Oper} {K K' : Slots → AHeap → Prop} (hk : ∀ s h, K s h → K' s h) : ∀ {l : List Oper} {s : Slots} {h : AHeap}, fOps P w₀ ops h₀ l s h K → fOps P w₀ ops h₀ l s h K'
  | [], s, h, hv => hk _ _ hv
  | o :: rest, s, h, hv => by
    simp only [fOps] at hv ⊢
    split
    · rename_i h0
      rw [if_pos h0] at hv
      exact ⟨hv.1, eop_mono hv.2 fun x h' hx => fOps_mono hk hx⟩
    · rename_i h0
      rw [if_neg h0] at hv
      split
      · rename_i hg
        rw [hg] at hv
        obtain ⟨V, h1, h2⟩ := hv
        exact ⟨V, h1, fOps_mono hk h2⟩
      · rename_i j want hg
        rw [hg] at hv
        simp only at hv
        split
        · rename_i hj
          rw [hj] at hv
          exact fOps_mono hk hv
        · rename_i d hj
          rw [hj] at hv
          obtain ⟨h1, V, h2, h3⟩ := hv
          exact ⟨h1, V, h2, fOps_mono hk h3⟩

/-- The heap when some of the blocks are laid; the block that operation i lays bears the name N + i. -/
def gOf (h₀ : AHeap) (N : Nat) (bl : List (Option Blk)) (listed : Nat → Bool) : AHeap := fun k => if N ≤ k then (bif listed (k - N) then bl.getD (k - N) none else none) else h₀ k

def HH (w₀ : World) (h₀ : AHeap) (N : Nat) (bl : List (Option Blk)) (listed : Array Bool) (ψ : PMap) (w : World) : Prop :=
  HRel w₀ ψ (gOf h₀ N bl fun i => listed.getD i false) w ∧ ∀ i, i < bl.length → listed.getD i false = false → ψ (N + i) = none

/-- What operation i of the head does, whatever is listed. -/
def HeadStep (P : Program) (w₀ : World) (n : Nat) (h₀ : AHeap) (l : List Oper) (N : Nat) (bl : List (Option Blk)) (S : Slots) (i : Nat) (o : Oper) (V : AVal) : Prop :=
  ∀ (listed : Array Bool) (ψ : PMap) (w : World) (a : Act) (next : Act → World → Prop) (Q : Exit → Act → World → Prop), listed.getD i false = false → i < listed.size → HH w₀ h₀ N bl listed ψ w → SRel ψ n (S.keep (looksL l o)) a →
    (∀ ψ' v w', ψ.le ψ' → HH w₀ h₀ N bl (listed.setIfInBounds i true) ψ' w' → VR ψ' V v → next (a.put o.dst v) w') →
    if Region.wanted o (yielded l.toArray a.tmps) = true then o.wp P a w next Q else next (a.put o.dst undef) w

theorem cells_up {ψ : PMap} {H g : AHeap} (hg : ∀ k b, H k = some b → (ψ k).isSome = true → g k = some b) {l : Loc} (hl : ∀ k, l = .own k → (ψ k).isSome = true ∨ False) : ∀ (n o : Nat), allLive (cellsAt w₀ H l o n) = true → cellsAt w₀ g l o n = cellsAt w₀ H l o n
  | 0, _, _ => rfl
  | n + 1, o, ha => by
    simp only [cellsAt, allLive, Bool.and_eq_true] at ha ⊢
    rw [cells_up hg hl n (o + 1) ha.2]
    congr 1
    cases l with
    | base b => rfl
    | own k =>
      have hs := (hl k rfl).resolve_right id
      have h1 := ha.1
      simp only [rd] at h1 ⊢
      cases hH : H k with
      | none => simp [hH, AVal.live] at h1
      | some b => simp [hg k b hH hs]

theorem rd_up {ψ : PMap} {H g : AHeap} (hg : ∀ k b, H k = some b → (ψ k).isSome = true → g k = some b) {l : Loc} (hl : ∀ k, l = .own k → (ψ k).isSome = true) (o : Nat) (ha : (rd w₀ H l o).live = true) : rd w₀ g l o = rd w₀ H l o := by
  have := cells_up (w₀ := w₀) hg (l := l) (fun k e => .inl (hl k e)) 1 o (by simp [cellsAt, allLive, ha])
  simpa [cellsAt] using this

theorem ptr_some {ψ : PMap} {l : Loc} {o : Nat} {v : Value} (h : VR ψ (.ptr l o) v) : ∀ k, l = .own k → (ψ k).isSome = true := by
  rintro k rfl
  have := okIn_of_VR _ _ h
  simpa only [AVal.okIn] using this

/-- What is read here is read alike where more lies. -/
theorem pop_up {ψ : PMap} {H g : AHeap} {S : Slots} {a : Act} {op : Op} (hk : kindF P op = 2) (hg : ∀ k b, H k = some b → (ψ k).isSome = true → g k = some b) (hs : SRel ψ n S a) (hp : (pop P w₀ H S op).pre) : pop P w₀ g S op = pop P w₀ H S op := by
  cases op <;> first
    | rfl
    | skip
  case load t x =>
    simp only [pop] at hp ⊢
    have hx := hs.ev x
    cases hv : ev S x with
    | ptr l o =>
      rw [hv] at hx hp
      have hl := ptr_some hx
      simp only [pLoad] at hp ⊢
      split at hp
      · rename_i h1 h2
        rw [cells_up hg (fun k e => .inl (hl k e)) _ _ hp]
      · rename_i h1
        rw [rd_up hg hl _ hp]
      · exact hp.elim
    | _ => rfl
  case convert src dst x =>
    simp only [pop] at hp ⊢
    have hx := hs.ev x
    cases hv : ev S x with
    | slice l o len c =>
      rw [hv] at hx hp
      simp only [pConv] at hp ⊢
      split at hp <;> first | exact hp.elim | skip
      rename_i e h1 h2
      split at hp <;> first | exact hp.elim | skip
      rename_i h3
      by_cases hz : len = 0
      · subst hz; rfl
      · have hl : ∀ k, l = .own k → (ψ k).isSome = true ∨ False := by
          rintro k rfl
          have := okIn_of_VR _ _ hx
          simp only [AVal.okIn] at this
          cases c with
          | exact c => exact .inl (this (.inr hz))
          | grow es => exact .inl this
        rw [cells_up hg hl _ _ (allLive_of_u8 hp)]
    | _ => rfl

theorem gOf_set {h₀ : AHeap} {N : Nat} {bl : List (Option Blk)} {i : Nat} {b : Blk} (hb : bl.getD i none = some b) {listed : Array Bool} (hsz : i < listed.size) :
    (gOf h₀ N bl fun j => listed.getD j false).set (N + i) b = gOf h₀ N bl fun j => (listed.setIfInBounds i true).getD j false := by
  funext k
  simp only [gOf, AHeap.set]
  by_cases e : k = N + i
  · subst e
    rw [if_pos rfl, if_pos (by omega), show N + i - N = i by omega, set_self hsz, hb]
    rfl
  · rw [if_neg e]
    by_cases hN : N ≤ k
    · rw [if_pos hN, if_pos hN, set_other (by omega)]
    · rw [if_neg hN, if_neg hN]

theorem gOf_none {h₀ : AHeap} {N : Nat} {bl : List (Option Blk)} {i : Nat} (hb : bl.getD i none = none) {listed : Array Bool} :
    (gOf h₀ N bl fun j => (listed.setIfInBounds i true).getD j false) = gOf h₀ N bl fun j => listed.getD j false := by
  funext k
  simp only [gOf]
  by_cases hN : N ≤ k
  · rw [if_pos hN, if_pos hN]
    by_cases e : k - N = i
    · rw [e, hb]; simp
    · rw [set_other e]
  · rw [if_neg hN, if_neg hN]

theorem HH.quiet {N : Nat} {bl : List (Option Blk)} {i : Nat} (hb : bl.getD i none = none) {listed : Array Bool} {ψ : PMap} {w : World} (h : HH w₀ h₀ N bl listed ψ w) : HH w₀ h₀ N bl (listed.setIfInBounds i true) ψ w := by
  refine ⟨by rw [gOf_none hb]; exact h.1, fun j hj hl => h.2 j hj ?_⟩
  by_cases e : j = i
  · subst e
    cases hc : listed.getD j false with
    | false => rfl
    | true =>
      have hsz : j < listed.size := by
        refine Nat.lt_of_not_le fun hge => ?_
        simp [Array.getD, Nat.not_lt.2 hge] at hc
      rw [set_self hsz] at hl
      cases hl
  · rwa [set_other e] at hl

/-- The facts of one step of the head. -/
theorem HeadStep.of_step {l : List Oper} (hall : dstsOk n l = true) {N : Nat} (hN : ∀ j, N ≤ j → h₀ j = none) {bl : List (Option Blk)} {H : AHeap} {i : Nat} (hH : ∀ k b, H k = some b → k < N ∧ h₀ k = some b ∨ N ≤ k ∧ k - N < bl.length ∧ bl.getD (k - N) none = some b) (hb : bl.getD i none = none) {S : Slots} {o : Oper} {V : AVal}
    (hstep : stepF P w₀ h₀ H (S.keep (looksL l o)) o.op V) {ψ : PMap} {w : World} {a : Act} {listed : Array Bool} {next : Act → World → Prop} {Q : Exit → Act → World → Prop} (hh : HH w₀ h₀ N bl listed ψ w) (hs : SRel ψ n (S.keep (looksL l o)) a)
    (hn : ∀ ψ' v w', ψ.le ψ' → HH w₀ h₀ N bl (listed.setIfInBounds i true) ψ' w' → VR ψ' V v → next (a.put o.dst v) w') : o.wp P a w next Q := by
  unfold stepF at hstep
  split at hstep
  · rename_i hk
    obtain ⟨h1, h2⟩ := hstep
    have hup : ∀ k b, H k = some b → (ψ k).isSome = true → (gOf h₀ N bl fun j => listed.getD j false) k = some b := by
      intro k b hb' hs'
      simp only [gOf]
      rcases hH k b hb' with ⟨c1, c2⟩ | ⟨c1, c2, c3⟩
      · rw [if_neg (by omega)]; exact c2
      · rw [if_pos c1]
        cases hl : listed.getD (k - N) false with
        | true => simpa using c3
        | false =>
          have := hh.2 (k - N) c2 hl
          rw [show N + (k - N) = k by omega] at this
          rw [this] at hs'
          cases hs'
    have e := pop_up (P := P) (w₀ := w₀) (n := n) hk hup hs h1
    obtain ⟨r, e1, e2⟩ := pop_ok o (by rw [e]; exact h1) hh.1 hs
    rw [e, ← h2] at e2
    exact wp_value (e1 w (Same.refl w)) (hn ψ r w ψ.le_refl (hh.quiet hb) e2)
  · obtain ⟨_, hok, he⟩ := hstep
    have hsub : ∀ k b, h₀ k = some b → (gOf h₀ N bl fun j => listed.getD j false) k = some b := by
      intro k b hb'
      have hlt : k < N := by
        refine Nat.lt_of_not_le fun hge => ?_
        rw [hN k hge] at hb'; cases hb'
      simp only [gOf]
      rw [if_neg (by omega)]; exact hb'
    refine eop_ok o (he _ hsub) hh.1 hs fun ψ' x h' v w' h1 h2 h3 ⟨e1, e2⟩ => ?_
    subst e1 e2
    -- the names in store are taken back
    have hle : ψ.le fun k => if N ≤ k ∧ k - N < bl.length ∧ listed.getD (k - N) false = false then none else ψ' k := by
      intro k p hp
      simp only
      rw [if_neg]
      · exact h1 k p hp
      · rintro ⟨c1, c2, c3⟩
        have := hh.2 (k - N) c2 c3
        rw [show N + (k - N) = k by omega, hp] at this
        cases this
    have hlt : (PMap.le (fun k => if N ≤ k ∧ k - N < bl.length ∧ listed.getD (k - N) false = false then none else ψ' k) ψ') := by
      intro k p hp
      simp only at hp
      split at hp
      · cases hp
      · exact hp
    have hsame : ∀ k, (ψ k).isSome = true → ψ' k = (fun k => if N ≤ k ∧ k - N < bl.length ∧ listed.getD (k - N) false = false then none else ψ' k) k := by
      intro k hk
      obtain ⟨p, hp⟩ := Option.isSome_iff_exists.1 hk
      rw [hle k p hp, h1 k p hp]
    refine hn _ v w' hle (HH.quiet hb ⟨hh.1.limit h2 hlt hsame, fun j hj hl => ?_⟩) (VR_limit (f := fun k => (h₀ k).isSome) (fun k hk => ?_) _ _ hok h3)
    · simp only
      rw [if_pos ⟨by omega, by rw [show N + j - N = j by omega]; exact hj, by rw [show N + j - N = j by omega]; exact hl⟩]
    · have hlt : k < N := by
        refine Nat.lt_of_not_le fun hge => ?_
        simp [hN k hge] at hk
      rw [if_neg (by omega)]

theorem HeadStep.lay {l : List Oper} {N : Nat} {bl : List (Option Blk)} {i : Nat} (hil : i < bl.length) {S : Slots} {o : Oper} {val : Nat → AVal} {b : Blk} (hb : bl.getD i none = some b) (hg : o.guard = none)
    (hlay : ∀ {w : World} {φ : PMap} {g : AHeap} {a : Act} {next : Act → World → Prop} {Q : Exit → Act → World → Prop}, HRel w₀ φ g w → SRel φ n (S.keep (looksL l o)) a → g (N + i) = none → φ (N + i) = none →
        (∀ p v w', HRel w₀ (φ.upd (N + i) p) (g.set (N + i) b) w' → VR (φ.upd (N + i) p) (val (N + i)) v → next (a.put o.dst v) w') → o.wp P a w next Q) : HeadStep P w₀ n h₀ l N bl S i o (val (N + i)) := by
  intro listed ψ w a next Q hl hsz hh hs hn
  have hw : Region.wanted o (yielded l.toArray a.tmps) = true := by simp [Region.wanted, hg]
  rw [if_pos hw]
  have hφ := hh.2 i hil hl
  refine hlay hh.1 hs (by simp only [gOf]; rw [if_pos (by omega), show N + i - N = i by omega, hl]; rfl) hφ fun p v w' h1 h2 => ?_
  refine hn _ v w' (PMap.le_upd hφ p) ⟨by rw [← gOf_set hb hsz]; exact h1, fun j hj hl' => ?_⟩ h2
  have e : j ≠ i := fun e => by subst e; rw [set_self hsz] at hl'; cases hl'
  rw [set_other e] at hl'
  have := hh.2 j hj hl'
  simp only [PMap.upd]
  rw [if_neg (by omega)]
  exact this

theorem HeadStep.one {l : List Oper} (hall : dstsOk n l = true) {N : Nat} (hN : ∀ j, N ≤ j → h₀ j = none) {bl : List (Option Blk)} {H : AHeap} {i : Nat} (hH : ∀ k b, H k = some b → k < N ∧ h₀ k = some b ∨ N ≤ k ∧ k - N < bl.length ∧ bl.getD (k - N) none = some b) (hb : bl.getD i none = none) {S : Slots} {o : Oper} {V : AVal} (hg : o.guard = none)
    (hstep : stepF P w₀ h₀ H (S.keep (looksL l o)) o.op V) : HeadStep P w₀ n h₀ l N bl S i o V := by
  intro listed ψ w a next Q _ _ hh hs hn
  have hw : Region.wanted o (yielded l.toArray a.tmps) = true := by simp [Region.wanted, hg]
  rw [if_pos hw]
  exact HeadStep.of_step hall hN hH hb hstep hh hs hn

theorem HeadStep.guarded {l : List Oper} (hall : dstsOk n l = true) {N : Nat} (hN : ∀ j, N ≤ j → h₀ j = none) {bl : List (Option Blk)} {H : AHeap} {i : Nat} (hH : ∀ k b, H k = some b → k < N ∧ h₀ k = some b ∨ N ≤ k ∧ k - N < bl.length ∧ bl.getD (k - N) none = some b) (hb : bl.getD i none = none) {S : Slots} {o : Oper} {V : AVal} {j d : Nat} {want : Bool} (hg : o.guard = some (j, want)) (hj : nthDst l j = some d) (hk : gKnown (S.get d) = true)
    (hstep : guardB (S.get d) want = true → stepF P w₀ h₀ H (S.keep (looksL l o)) o.op V) : HeadStep P w₀ n h₀ l N bl S i o (condV (guardB (S.get d) want) V) := by
  intro listed ψ w a next Q _ _ hh hs hn
  have hd : (S.keep (looksL l o)).get d = S.get d := by
    rw [Slots.get_keep, if_pos]
    simp [looksL, hg, hj]
  have hw : Region.wanted o (yielded l.toArray a.tmps) = guardB (S.get d) want := by
    have := guard_ok hs l j d hj (nth_lt l j d hall hj) (by rw [hd]; exact hk) want
    rw [hd] at this
    simp only [Region.wanted, hg]
    exact this
  cases hb' : guardB (S.get d) want with
  | true =>
    rw [hw, hb', if_pos rfl]
    rw [hb'] at hn
    exact HeadStep.of_step hall hN hH hb (hstep hb') hh hs hn
  | false =>
    rw [hw, hb', if_neg (by decide)]
    rw [hb'] at hn
    exact hn ψ undef w ψ.le_refl (hh.quiet hb) (VR_undef ψ)

theorem HeadStep.never {l : List Oper} {N : Nat} {bl : List (Option Blk)} {i : Nat} (hb : bl.getD i none = none) {S : Slots} {o : Oper} {j : Nat} {want : Bool} (hg : o.guard = some (j, want)) (hj : nthDst l j = none) : HeadStep P w₀ n h₀ l N bl S i o (.tuple []) := by
  intro listed ψ w a next Q _ _ hh hs hn
  have hd : (l.toArray[j]?).bind (·.dst) = none := by rw [← hj, nthDst_eq]; simp
  have hw : Region.wanted o (yielded l.toArray a.tmps) = false := by
    simp only [Region.wanted, hg, yielded, hd]
    rfl
  rw [if_neg (by rw [hw]; decide)]
  exact hn ψ undef w ψ.le_refl (hh.quiet hb) (VR_undef ψ)

theorem gOf_at {N : Nat} (hN : ∀ j, N ≤ j → h₀ j = none) (A B : List (Option Blk)) : ∀ k b, (gOf h₀ N A fun _ => true) k = some b → k < N ∧ h₀ k = some b ∨ N ≤ k ∧ k - N < (A ++ B).length ∧ (A ++ B).getD (k - N) none = some b := by
  intro k b h
  simp only [gOf] at h
  by_cases c : N ≤ k
  · rw [if_pos c] at h
    simp only [cond_true] at h
    right
    have hlt : k - N < A.length := by
      refine Nat.lt_of_not_le fun hge => ?_
      simp [List.getD, List.getElem?_eq_none hge] at h
    refine ⟨c, by simp; omega, ?_⟩
    simpa [List.getD, List.getElem?_append, hlt] using h
  · rw [if_neg c] at h
    exact .inl ⟨by omega, h⟩

theorem gOf_of {N : Nat} (hN : ∀ j, N ≤ j → h₀ j = none) {C : List (Option Blk)} {k : Nat} {b : Blk} (h : k < N ∧ h₀ k = some b ∨ N ≤ k ∧ k - N < C.length ∧ C.getD (k - N) none = some b) : (gOf h₀ N C fun _ => true) k = some b := by
  simp only [gOf, cond_true]
  rcases h with ⟨c, e⟩ | ⟨c, _, e⟩
  · rw [if_neg (by omega)]; exact e
  · rw [if_pos c]; exact e

theorem gOf_push {N : Nat} (A : List (Option Blk)) (b : Blk) : (gOf h₀ N A fun _ => true).set (N + A.length) b = gOf h₀ N (A ++ [some b]) fun _ => true := by
  funext k
  simp only [gOf, AHeap.set, cond_true]
  by_cases e : k = N + A.length
  · subst e
    rw [if_pos rfl, if_pos (by omega), show N + A.length - N = A.length by omega]
    simp [List.getD]
  · rw [if_neg e]
    by_cases c : N ≤ k
    · rw [if_pos c, if_pos c]
      rcases Nat.lt_or_ge (k - N) A.length with c2 | c2
      · simp [List.getD, List.getElem?_append, c2]
      · have h1 : A[k - N]? = none := List.getElem?_eq_none c2
        have h2 : (A ++ [some b])[k - N]? = none := List.getElem?_eq_none (by simp; omega)
        simp [List.getD, h1, h2]
    · rw [if_neg c, if_neg c]

theorem gOf_skip {N : Nat} (A : List (Option Blk)) : (gOf h₀ N A fun _ => true) = gOf h₀ N (A ++ [none]) fun _ => true := by
  funext k
  simp only [gOf, cond_true]
  by_cases c : N ≤ k
  · rw [if_pos c, if_pos c]
    rcases Nat.lt_trichotomy (k - N) A.length with c2 | c2 | c2
    · simp [List.getD, List.getElem?_append, c2]
    · have h1 : A[k - N]? = none := List.getElem?_eq_none (by omega)
      simp [List.getD, c2]
    · have h1 : A[k - N]? = none := List.getElem?_eq_none (by omega)
      have h2 : (A ++ [none])[k - N]? = none := List.getElem?_eq_none (by simp; omega)
      simp [List.getD, h1, h2]
  · rw [if_neg c, if_neg c]

theorem fOps_steps {l : List Oper} (hall : dstsOk n l = true) {N : Nat} (hN : ∀ j, N ≤ j → h₀ j = none) (hNt : ∀ i, i < l.length → tyOf (N + i) = none) (tl : List Oper) {s : Slots} {K : Slots → AHeap → Prop} : ∀ (rest pre : List Oper) (A : List AVal) (B : List (Option Blk)), l = pre ++ rest ++ tl → A.length = pre.length → B.length = pre.length →
    fOps P w₀ l h₀ rest (slotsAt s l A pre.length) (gOf h₀ N B fun _ => true) K →
    ∃ A' B', A'.length = rest.length ∧ B'.length = rest.length ∧
      (∀ i o, pre.length ≤ i → i < pre.length + rest.length → l[i]? = some o →
        (B ++ B').length = pre.length + rest.length ∧ HeadStep P w₀ n h₀ l N (B ++ B') (slotsAt s l (A ++ A') i) i o ((A ++ A').getD i .dead) ∧ (kindF P o.op = 2 → (B ++ B').getD i none = none ∧ (o.guard = none → ∃ H, (∀ j b, H j = some b → (gOf h₀ N (B ++ B') fun _ => true) j = some b) ∧ (pop P w₀ H ((slotsAt s l (A ++ A') i).keep (looksL l o)) o.op).pre ∧ (A ++ A').getD i .dead = (pop P w₀ H ((slotsAt s l (A ++ A') i).keep (looksL l o)) o.op).val))) ∧
      K (slotsAt s l (A ++ A') (pre.length + rest.length)) (gOf h₀ N (B ++ B') fun _ => true)
  | [], pre, A, B, hl, hA, hB, hv => ⟨[], [], rfl, rfl, fun i o h1 h2 _ => by simp at h2; omega, by simpa [fOps] using hv⟩
  | o :: rest, pre, A, B, hl, hA, hB, hv => by
    have hat : l[pre.length]? = some o := by rw [hl]; simp
    have hAt : ∀ V A', (A ++ V :: A').getD pre.length .dead = V := fun V A' => by simp [List.getD, ← hA]
    have hBt : ∀ b B', (B ++ b :: B').getD pre.length none = b := fun b B' => by simp [List.getD, ← hB]
    have hS : ∀ V, slotsAt s l (A ++ [V]) (pre ++ [o]).length = putD (slotsAt s l A pre.length) o.dst V := fun V => by
      rw [List.length_append, List.length_singleton, slotsAt, hat]
      simp only
      rw [slotsAt_take s l A [V] _ (by omega)]
      congr 1
      simp [List.getD, ← hA]
    have go : ∀ (V : AVal) (b : Option Blk), (∀ (A' : List AVal) (B' : List (Option Blk)), (B ++ b :: B').length = pre.length + (o :: rest).length → HeadStep P w₀ n h₀ l N (B ++ b :: B') (slotsAt s l A pre.length) pre.length o V) →
        (kindF P o.op = 2 → b = none ∧ (o.guard = none → ∃ H, (∀ B' j b', H j = some b' → (gOf h₀ N (B ++ b :: B') fun _ => true) j = some b') ∧ (pop P w₀ H ((slotsAt s l A pre.length).keep (looksL l o)) o.op).pre ∧ V = (pop P w₀ H ((slotsAt s l A pre.length).keep (looksL l o)) o.op).val)) →
        fOps P w₀ l h₀ rest (putD (slotsAt s l A pre.length) o.dst V) (gOf h₀ N (B ++ [b]) fun _ => true) K →
        ∃ A' B', A'.length = (o :: rest).length ∧ B'.length = (o :: rest).length ∧
          (∀ i o', pre.length ≤ i → i < pre.length + (o :: rest).length → l[i]? = some o' →
            (B ++ B').length = pre.length + (o :: rest).length ∧ HeadStep P w₀ n h₀ l N (B ++ B') (slotsAt s l (A ++ A') i) i o' ((A ++ A').getD i .dead) ∧ (kindF P o'.op = 2 → (B ++ B').getD i none = none ∧ (o'.guard = none → ∃ H, (∀ j b, H j = some b → (gOf h₀ N (B ++ B') fun _ => true) j = some b) ∧ (pop P w₀ H ((slotsAt s l (A ++ A') i).keep (looksL l o')) o'.op).pre ∧ (A ++ A').getD i .dead = (pop P w₀ H ((slotsAt s l (A ++ A') i).keep (looksL l o')) o'.op).val))) ∧
          K (slotsAt s l (A ++ A') (pre.length + (o :: rest).length)) (gOf h₀ N (B ++ B') fun _ => true) := by
      intro V b hst hpo hv'
      obtain ⟨A', B', h1, h2, h3, h4⟩ := fOps_steps hall hN hNt tl rest (pre ++ [o]) (A ++ [V]) (B ++ [b]) (by simp [hl]) (by simp [hA]) (by simp [hB]) (by rw [hS]; exact hv')
      have hlen : (B ++ b :: B').length = pre.length + (o :: rest).length := by simp [hB, h2]
      refine ⟨V :: A', b :: B', by simp [h1], by simp [h2], fun i o' hi hi' ho' => ?_, ?_⟩
      · rcases Nat.eq_or_lt_of_le hi with e' | e'
        · subst e'
          rw [hat] at ho'
          obtain rfl := Option.some.inj ho'
          rw [slotsAt_take s l A (V :: A') _ (by omega), hAt]
          rw [hBt]
          exact ⟨hlen, hst A' B' hlen, fun e => ⟨(hpo e).1, fun e' => (hpo e).2 e' |>.elim fun H ⟨q0, q1⟩ => ⟨H, q0 B', q1⟩⟩⟩
        · have := h3 i o' (by simp; omega) (by simp at hi' ⊢; omega) ho'
          refine ⟨hlen, ?_⟩
          simpa using this.2
      · have e : pre.length + (o :: rest).length = (pre ++ [o]).length + rest.length := by simp; omega
        rw [e]
        simpa using h4
    simp only [fOps] at hv
    split at hv
    · rename_i hk
      obtain ⟨hg, he⟩ := hv
      obtain ⟨val, b, hc, hlay⟩ := lay_ok hk he
      have hfree : (gOf h₀ N B fun _ => true) (N + B.length) = none := by
        simp only [gOf]
        rw [if_pos (by omega), show N + B.length - N = B.length by omega]
        simp [List.getD]
      have hc' := hc (N + B.length) hfree
      rw [gOf_push] at hc'
      refine go (val (N + B.length)) (some b) (fun A' B' hlen => ?_) (fun e => by rw [hk] at e; cases e) hc'
      rw [hB]
      exact HeadStep.lay (by rw [hlen]; simp) (hBt _ _) hg fun h1 h2 h3 h4 h5 => hlay (N + pre.length) o rfl h1 h2 h3 h4 (hNt _ (by rw [hl]; simp)) h5
    · rename_i hk
      have hH := fun b B' => gOf_at (h₀ := h₀) hN B (b :: B')
      split at hv
      · rename_i hg
        obtain ⟨V, h1, h2⟩ := hv
        rw [gOf_skip] at h2
        refine go V none (fun A' B' _ => HeadStep.one hall hN (hH none B') (hBt _ _) hg h1) (fun e => ⟨rfl, fun _ => ?_⟩) h2
        unfold stepF at h1
        rw [if_pos e] at h1
        exact ⟨_, fun B' j b' hb' => gOf_of hN (hH none B' j b' hb'), h1⟩
      · rename_i j want hg
        split at hv
        · rename_i hj
          rw [gOf_skip] at hv
          exact go _ none (fun A' B' _ => HeadStep.never (hBt _ _) hg hj) (fun _ => ⟨rfl, fun e => by rw [hg] at e; cases e⟩) hv
        · rename_i d hj
          obtain ⟨hk', V, h1, h2⟩ := hv
          rw [gOf_skip] at h2
          exact go _ none (fun A' B' _ => HeadStep.guarded hall hN (hH none B') (hBt _ _) hg hj hk' h1) (fun _ => ⟨rfl, fun e => by rw [hg] at e; cases e⟩) h2

def heapless : Op → Bool
  | .load _ _ => false
  | .convert _ _ _ => false
  | _ => true

def isLoad : Op → Bool
  | .load _ _ => true
  | _ => false

/-- The late loads look into blocks that the tail leaves (ks). -/
def lateOK (l : List Oper) (ks : List Nat) (s : Slots) : List Nat → Prop
  | [] => True
  | i :: r => (match l[i]? with
      | some o => (match o.op with
        | .load _ x => (match ev s x with
          | .ptr (.own k) _ => k ∈ ks
          | .ptr (.base _) _ => True
          | _ => False)
        | _ => True)
      | none => True) ∧ lateOK l ks s r
theorem lateOK_mem {l : List Oper} {ks : List Nat} {s : Slots} : ∀ {late : List Nat}, lateOK l ks s late → ∀ i ∈ late, ∀ o t x, l[i]? = some o → o.op = .load t x → (∃ k p, ev s x = .ptr (.own k) p ∧ k ∈ ks) ∨ ∃ b p, ev s x = .ptr (.base b) p
  | j :: r, h, i, hi, o, t, x, ho, hop => by
    simp only [lateOK] at h
    rcases List.mem_cons.1 hi with e | e
    · subst e
      have h1 := h.1
      simp only [ho, hop] at h1
      split at h1
      · rename_i k p hv; exact .inl ⟨k, p, hv, h1⟩
      · rename_i b p hv; exact .inr ⟨b, p, hv⟩
      · exact h1.elim
    · exact lateOK_mem h.2 i e o t x ho hop

/-- A tail that leaves the blocks ks. -/
def kOps (P : Program) (w₀ : World) (ks : List Nat) : List Oper → Slots → AHeap → (Slots → AHeap → Prop) → Prop
  | [], s, h, K => K s h
  | o :: rest, s, h, K => o.guard = none ∧ eop P w₀ h s o.op fun x h' => (∀ k ∈ ks, h' k = h k) ∧ kOps P w₀ ks rest (putD s o.dst x) h' K
theorem kOps_of_aOps {ops : List Oper} {K : Slots → AHeap → Prop} : ∀ {l : List Oper} {s : Slots} {h : AHeap}, (∀ o ∈ l, o.guard = none) → aOps P w₀ ops l s h K → kOps P w₀ [] l s h K
  | [], _, _, _, ha => ha
  | o :: r, s, h, hg, ha => by
    have h0 := hg o List.mem_cons_self
    simp only [aOps, h0] at ha
    exact ⟨h0, eop_mono ha fun x h' hx => ⟨fun k hk => (by cases hk), kOps_of_aOps (fun o ho => hg o (List.mem_cons_of_mem _ ho)) hx⟩⟩
/-- A load reads alike where its block is the same. -/
theorem load_same {H g : AHeap} {S : Slots} {t : TypeId} {x : Operand} (hx : (∃ k p, ev S x = .ptr (.own k) p ∧ ∀ b, H k = some b → g k = some b) ∨ ∃ b p, ev S x = .ptr (.base b) p) (hp : (pop P w₀ H S (.load t x)).pre) : pop P w₀ g S (.load t x) = pop P w₀ H S (.load t x) := by
  simp only [pop] at hp ⊢
  rcases hx with ⟨k, p, hv, hg⟩ | ⟨b, p, hv⟩
  · rw [hv] at hp ⊢
    have up : ∀ (n o : Nat), allLive (cellsAt w₀ H (.own k) o n) = true → cellsAt w₀ g (.own k) o n = cellsAt w₀ H (.own k) o n := by
      intro n
      induction n with
      | zero => intro o _; rfl
      | succ n ih =>
        intro o ha
        simp only [cellsAt, allLive, Bool.and_eq_true] at ha ⊢
        rw [ih (o + 1) ha.2]
        congr 1
        have h1 := ha.1
        simp only [rd] at h1 ⊢
        cases hH : H k with
        | none => simp [hH, AVal.live] at h1
        | some b => simp [hg b hH]
    simp only [pLoad] at hp ⊢
    split at hp
    · rw [up _ _ hp]
    · have := up 1 p (by simp only [cellsAt, allLive, Bool.and_true]; exact hp)
      simp only [cellsAt, List.cons.injEq, and_true] at this
      rw [this]
    · exact hp.elim
  · rw [hv] at hp ⊢
    have same : ∀ (n o : Nat), cellsAt w₀ g (.base b) o n = cellsAt w₀ H (.base b) o n := by
      intro n
      induction n with
      | zero => intro o; rfl
      | succ n ih => intro o; simp only [cellsAt]; rw [ih]; rfl
    simp only [pLoad, same]
    rfl

theorem pop_heapless {g H : AHeap} {S : Slots} {op : Op} (h : heapless op = true) : pop P w₀ g S op = pop P w₀ H S op := by
  cases op <;> first
    | rfl
    | (cases h; done)

/-- The static conditions of a statement: k operations in its head, of them the late ones may come behind the tail's first. -/
def floatB (P : Program) (l : List Oper) (k : Nat) (late : List Nat) : Bool :=
  orderB l && decide (k ≤ l.length) && (late.all fun i => decide (i < k)) &&
  ((List.range k).all fun i => if late.contains i then (match l[i]? with | some o => o.guard.isNone && (heapless o.op || isLoad o.op) && (kindF P o.op == 2) && (List.range k).all (fun j => decide (j ≤ i) || match l[j]? with | some oj => (match oj.dst with | some t => !(looksL l o).contains t | none => true) | none => true) | none => true)
    else decide (k = l.length) || (List.range (k + 1)).any fun j => decide (i < j) && !late.contains j && Region.waitsFor .any l.toArray j i) &&
  ((List.range l.length).all fun t => decide (t < k) || ((match l[t]? with | some o => o.guard.isNone | none => true) && (decide (t = k) || Region.waitsFor .any l.toArray t (t - 1))))

structure FloatS (P : Program) (l : List Oper) (k : Nat) (late : List Nat) : Prop where
  order : orderB l = true
  kle : k ≤ l.length
  latek : ∀ i, late.contains i = true → i < k
  lateo : ∀ i o, late.contains i = true → l[i]? = some o → o.guard = none ∧ (heapless o.op = true ∨ isLoad o.op = true) ∧ kindF P o.op = 2
  latew : ∀ i o, late.contains i = true → l[i]? = some o → ∀ j oj t, i < j → j < k → l[j]? = some oj → oj.dst = some t → t ∉ looksL l o
  sink : ∀ i, i < k → late.contains i = false → k < l.length → ∃ j, i < j ∧ j ≤ k ∧ late.contains j = false ∧ Region.waitsFor .any l.toArray j i = true
  tailg : ∀ t o, k ≤ t → l[t]? = some o → o.guard = none
  chain : ∀ t, k < t → t < l.length → Region.waitsFor .any l.toArray t (t - 1) = true

theorem floatB_spec {l : List Oper} {k : Nat} {late : List Nat} (h : floatB P l k late = true) : FloatS P l k late := by
  unfold floatB at h
  simp only [Bool.and_eq_true, decide_eq_true_eq, List.all_eq_true, List.mem_range] at h
  obtain ⟨⟨⟨⟨h1, h2⟩, h3⟩, h4⟩, h5⟩ := h
  have hlk : ∀ i, late.contains i = true → i < k := fun i hi => by
    have := h3 i (by simpa using hi)
    simpa using this
  refine ⟨h1, h2, hlk, fun i o hi ho => ?_, fun i o hi ho j oj t hij hjk hj hd => ?_, fun i hi hl hk => ?_, fun t o ht ho => ?_, fun t ht htl => ?_⟩
  · have := h4 i (hlk i hi)
    rw [if_pos hi, ho] at this
    simp only [Bool.and_eq_true, beq_iff_eq, Option.isNone_iff_eq_none, Bool.or_eq_true] at this
    exact ⟨this.1.1.1, this.1.1.2, this.1.2⟩
  · have := h4 i (hlk i hi)
    rw [if_pos hi, ho] at this
    simp only [Bool.and_eq_true, List.all_eq_true, List.mem_range] at this
    have h6 := this.2 j hjk
    rw [hj] at h6
    simp only [hd, Bool.or_eq_true, decide_eq_true_eq, Bool.not_eq_true'] at h6
    rcases h6 with e | e
    · omega
    · intro hm
      rw [← List.contains_iff_mem] at hm
      rw [hm] at e
      cases e
  · have := h4 i hi
    rw [if_neg (by rw [hl]; decide)] at this
    simp only [Bool.or_eq_true, decide_eq_true_eq] at this
    rcases this with e | e
    · omega
    · rw [List.any_eq_true] at e
      obtain ⟨j, hj, e⟩ := e
      simp only [Bool.and_eq_true, decide_eq_true_eq, Bool.not_eq_true'] at e
      rw [List.mem_range] at hj
      exact ⟨j, e.1.1, by omega, e.1.2, e.2⟩
  · have hlt := (List.getElem?_eq_some_iff.1 ho).1
    have := h5 t hlt
    rw [ho] at this
    simp only [Bool.or_eq_true, decide_eq_true_eq, Bool.and_eq_true, Option.isNone_iff_eq_none] at this
    rcases this with e | e
    · omega
    · exact e.1
  · have := h5 t htl
    simp only [Bool.or_eq_true, decide_eq_true_eq, Bool.and_eq_true] at this
    rcases this with e | ⟨_, e | e⟩
    · omega
    · omega
    · exact e

structure InvF (l : List Oper) (k : Nat) (Vs : List AVal) (s : Slots) (ψ : PMap) (n : Nat) (listed : Array Bool) (a : Act) : Prop where
  size : listed.size = l.length
  closed : ∀ j oj, l[j]? = some oj → listed.getD j false = true → ∀ e ∈ oj.after, Region.binds .any e = true → listed.getD e.on false = true
  tsize : a.tmps.size = n
  defers : a.defers = []
  done : ∀ t j oj, j < k → l[j]? = some oj → oj.dst = some t → listed.getD j false = true → VR ψ (Vs.getD j .dead) (a.tmps.getD t undef)
  still : ∀ t, (∀ j oj, l[j]? = some oj → oj.dst = some t → listed.getD j false = false) → VR ψ (s.get t) (a.tmps.getD t undef)

theorem put_get_ne (a : Act) {d : Option Tmp} {v : Value} {t : Nat} (hne : d ≠ some t) : (a.put d v).tmps.getD t undef = a.tmps.getD t undef := put_tmps_ne a d v hne
theorem put_get_eq (a : Act) {d : Option Tmp} {v : Value} {t : Nat} (hd : d = some t) (ht : t < a.tmps.size) : (a.put d v).tmps.getD t undef = v := by rw [hd]; simp [Act.put, ht]
theorem put_size (a : Act) (d : Option Tmp) (v : Value) : (a.put d v).tmps.size = a.tmps.size := by cases d <;> simp [Act.put]
theorem put_defers (a : Act) (d : Option Tmp) (v : Value) : (a.put d v).defers = a.defers := by cases d <;> simp [Act.put]

/-- What operation i looks at lies in its slots. -/
theorem InvF.looks {l : List Oper} {k : Nat} (hB : orderB l = true) {Vs : List AVal} {s : Slots} {ψ : PMap} {listed : Array Bool} {a : Act} (inv : InvF l k Vs s ψ n listed a) {i : Nat} (hik : i < k) {o : Oper} (hol : l[i]? = some o) (hif : listed.getD i false = false)
    (hedges : ∀ e ∈ o.after, Region.binds .any e = true → listed.getD e.on false = true) : SRel ψ n ((slotsAt s l Vs i).keep (looksL l o)) a := by
  have hilt : i < l.length := (List.getElem?_eq_some_iff.1 hol).1
  have spec := orderB_spec hB hol
  refine ⟨inv.tsize, inv.defers, fun t => ?_⟩
  rw [Slots.get_keep]
  by_cases ht : (looksL l o).contains t = true
  · rw [if_pos ht]
    have ht' : t ∈ looksL l o := by simpa using ht
    by_cases hw : ∃ (j : Nat) (oj : Oper), l[j]? = some oj ∧ oj.dst = some t
    · obtain ⟨j, oj, hj, hd⟩ := hw
      rcases (spec.2 j oj t hj hd).2 ht' with ⟨c1, c2⟩ | ⟨c1, c2⟩
      · rw [slotsAt_writer hB s Vs hj hd i c1 (by omega)]
        refine inv.done t j oj (by omega) hj hd ?_
        obtain ⟨oi, g1, e, g2, g3, g4⟩ := Region.waitsFor_spec c2
        have g1' : l[i]? = some oi := by simpa using g1
        rw [hol] at g1'
        obtain rfl := Option.some.inj g1'
        rw [← g4]
        exact hedges e g2 g3
      · rw [slotsAt_none s Vs i fun j' oj' hj'' hj' hd' => by
          have := ((orderB_spec hB hj').2 j oj t hj hd).1 hd'
          omega]
        refine inv.still t fun j' oj' hj' hd' => ?_
        have e := ((orderB_spec hB hj').2 j oj t hj hd).1 hd'
        subst e
        cases hl : listed.getD j' false with
        | false => rfl
        | true =>
          exfalso
          obtain ⟨oi, g1, e, g2, g3, g4⟩ := Region.waitsFor_spec c2
          have g1' : l[j']? = some oi := by simpa using g1
          have := inv.closed j' oi g1' hl e g2 g3
          rw [g4, hif] at this
          cases this
    · rw [slotsAt_none s Vs i fun j oj _ hj hd => hw ⟨j, oj, hj, hd⟩]
      exact inv.still t fun j oj hj hd => absurd ⟨j, oj, hj, hd⟩ hw
  · rw [if_neg ht]
    trivial

/-- One operation more is listed. -/
theorem InvF.next {l : List Oper} {k : Nat} (hall : dstsOk n l = true) (hB : orderB l = true) {Vs : List AVal} {s : Slots} {ψ ψ' : PMap} (hle : ψ.le ψ') {listed : Array Bool} {a : Act} (inv : InvF l k Vs s ψ n listed a) {i : Nat} {o : Oper} (hol : l[i]? = some o)
    (hedges : ∀ e ∈ o.after, Region.binds .any e = true → listed.getD e.on false = true) {v : Value} (hv : i < k → VR ψ' (Vs.getD i .dead) v) : InvF l k Vs s ψ' n (listed.setIfInBounds i true) (a.put o.dst v) := by
  have hilt : i < l.length := (List.getElem?_eq_some_iff.1 hol).1
  have hisz : i < listed.size := by rw [inv.size]; exact hilt
  have spec := orderB_spec hB hol
  have hdn : ∀ d, o.dst = some d → d < n := fun d hd => nth_lt l i d hall (by rw [nthDst_eq, hol]; exact hd)
  refine ⟨by simp [inv.size], fun j oj hj hl e he hb => ?_, by rw [put_size]; exact inv.tsize, by rw [put_defers]; exact inv.defers, fun t j oj hjk hj hd hl => ?_, fun t hun => ?_⟩
  · by_cases e1 : e.on = i
    · rw [e1]; exact set_self hisz
    · rw [set_other e1]
      by_cases e2 : j = i
      · subst e2
        rw [hol] at hj
        obtain rfl := Option.some.inj hj
        exact hedges e he hb
      · rw [set_other e2] at hl
        exact inv.closed j oj hj hl e he hb
  · by_cases e : j = i
    · subst e
      rw [hol] at hj
      obtain rfl := Option.some.inj hj
      rw [put_get_eq a hd (by rw [inv.tsize]; exact hdn t hd)]
      exact hv hjk
    · rw [set_other e] at hl
      rw [put_get_ne a fun hod => e (((spec.2 j oj t hj hd).1 hod).symm)]
      exact VR_mono hle _ _ (inv.done t j oj hjk hj hd hl)
  · have hne : o.dst ≠ some t := fun hod => by
      have := hun i o hol hod
      rw [set_self hisz] at this
      cases this
    rw [put_get_ne a hne]
    refine VR_mono hle _ _ (inv.still t fun j oj hj hd => ?_)
    have e : j ≠ i := fun e => by subst e; rw [hol] at hj; obtain rfl := Option.some.inj hj; exact hne hd
    have := hun j oj hj hd
    rwa [set_other e] at this

/-- The tail is under way: p is the next of it. -/
def PhaseT (P : Program) (w₀ : World) (l : List Oper) (k : Nat) (late ks : List Nat) (hf : AHeap) (Vs : List AVal) (K : Slots → AHeap → Prop) (listed : Array Bool) (ψ : PMap) (a : Act) (w : World) : Prop :=
  ∃ p S g, k ≤ p ∧ p ≤ l.length ∧ (∀ t, k ≤ t → t < l.length → (listed.getD t false = true ↔ t < p)) ∧ (∀ i, i < k → late.contains i = false → listed.getD i false = true) ∧ HRel w₀ ψ g w ∧ kOps P w₀ ks (l.drop p) S g K ∧ (∀ j ∈ ks, g j = hf j) ∧
    (∀ i oi t, i < k → l[i]? = some oi → oi.dst = some t → S.get t = Vs.getD i .dead) ∧
    ∀ t, (∃ i oi, i < k ∧ l[i]? = some oi ∧ oi.dst = some t ∧ listed.getD i false = false) ∨ VR ψ (S.get t) (a.tmps.getD t undef)

def PhaseH (w₀ : World) (h₀ : AHeap) (l : List Oper) (k N : Nat) (bl : List (Option Blk)) (listed : Array Bool) (ψ : PMap) (w : World) : Prop :=
  (∀ t, k ≤ t → t < l.length → listed.getD t false = false) ∧ HH w₀ h₀ N bl listed ψ w

theorem head_done {l : List Oper} {k : Nat} {late : List Nat} (F : FloatS P l k late) {Vs : List AVal} {s : Slots} {ψ : PMap} {listed : Array Bool} {a : Act} (inv : InvF l k Vs s ψ n listed a) (hkl : k < l.length)
    (hedges : ∀ o, l[k]? = some o → ∀ e ∈ o.after, Region.binds .any e = true → listed.getD e.on false = true) : ∀ d i, i + d = k → i < k → late.contains i = false → listed.getD i false = true := by
  intro d
  induction d using Nat.strongRecOn with
  | ind d ih =>
    intro i hd hik hl
    obtain ⟨j, h1, h2, h3, h4⟩ := F.sink i hik hl hkl
    obtain ⟨oj, g1, e, g2, g3, g4⟩ := Region.waitsFor_spec h4
    have g1' : l[j]? = some oj := by simpa using g1
    rw [← g4]
    rcases Nat.eq_or_lt_of_le h2 with e' | e'
    · subst e'
      exact hedges oj g1' e g2 g3
    · exact inv.closed j oj g1' (ih (k - j) (by omega) j (by omega) e' h3) e g2 g3

theorem any_okF {l : List Oper} {k : Nat} {late ks : List Nat} (hall : dstsOk n l = true) (F : FloatS P l k late) {s : Slots} {Vs : List AVal} {N : Nat} {bl : List (Option Blk)} (hbl : bl.length = k)
    (hst : ∀ i o, i < k → l[i]? = some o → HeadStep P w₀ n h₀ l N bl (slotsAt s l Vs i) i o (Vs.getD i .dead))
    (hlb : ∀ i, late.contains i = true → bl.getD i none = none)
    (hlo : lateOK l ks (slotsAt s l Vs k) late)
    (hlate : ∀ i o, late.contains i = true → l[i]? = some o → ∃ H, (∀ j b, H j = some b → (gOf h₀ N bl fun _ => true) j = some b) ∧ (pop P w₀ H ((slotsAt s l Vs i).keep (looksL l o)) o.op).pre ∧ Vs.getD i .dead = (pop P w₀ H ((slotsAt s l Vs i).keep (looksL l o)) o.op).val)
    {K : Slots → AHeap → Prop} (hK : kOps P w₀ ks (l.drop k) (slotsAt s l Vs k) (gOf h₀ N bl fun _ => true) K) {φ : PMap} {Q : Exit → Act → World → Prop}
    (hq : ∀ ψ S g a w, φ.le ψ → HRel w₀ ψ g w → SRel ψ n S a → K S g → Q .normal a w) : ∀ (fuel : Nat) (listed : Array Bool) (a : Act) (w : World) (ψ : PMap), φ.le ψ → InvF l k Vs s ψ n listed a →
    (PhaseH w₀ h₀ l k N bl listed ψ w ∨ PhaseT P w₀ l k late ks (gOf h₀ N bl fun _ => true) Vs K listed ψ a w) → (listed.toList.filter (!·)).length ≤ fuel → wpAny P .any l.toArray Q fuel listed a w := by
  have hB := F.order
  -- from the head to the tail
  have turn : ∀ (listed : Array Bool) (a : Act) (w : World) (ψ : PMap), InvF l k Vs s ψ n listed a → PhaseH w₀ h₀ l k N bl listed ψ w → (∀ i, i < k → late.contains i = false → listed.getD i false = true) → PhaseT P w₀ l k late ks (gOf h₀ N bl fun _ => true) Vs K listed ψ a w := by
    intro listed a w ψ inv ⟨h1, h2, h3⟩ hd
    have hS : ∀ i oi t, i < k → l[i]? = some oi → oi.dst = some t → (slotsAt s l Vs k).get t = Vs.getD i .dead := fun i oi t hi ho hdt => slotsAt_writer hB s Vs ho hdt k hi F.kle
    refine ⟨k, _, _, Nat.le_refl _, F.kle, fun t ht htl => ?_, hd, ?_, hK, fun _ _ => rfl, hS, fun t => ?_⟩
    · rw [h1 t ht htl]
      simp; omega
    · have e : (gOf h₀ N bl fun i => listed.getD i false) = gOf h₀ N bl fun _ => true := by
        funext j
        simp only [gOf, cond_true]
        by_cases c : N ≤ j
        · rw [if_pos c, if_pos c]
          cases hl : listed.getD (j - N) false with
          | true => rfl
          | false =>
            simp only [cond_false]
            cases hc : late.contains (j - N) with
            | true => exact (hlb _ hc).symm
            | false =>
              by_cases c2 : j - N < k
              · rw [hd _ c2 hc] at hl; cases hl
              · have : bl[j - N]? = none := List.getElem?_eq_none (by omega)
                simp [List.getD, this]
        · rw [if_neg c, if_neg c]
      rw [← e]; exact h2
    · by_cases hw : ∃ i oi, i < k ∧ l[i]? = some oi ∧ oi.dst = some t
      · obtain ⟨i, oi, c1, c2, c3⟩ := hw
        cases hl : listed.getD i false with
        | false => exact .inl ⟨i, oi, c1, c2, c3, hl⟩
        | true =>
          right
          rw [hS i oi t c1 c2 c3]
          exact inv.done t i oi c1 c2 c3 hl
      · right
        rw [slotsAt_none s Vs k fun j oj hj ho hd' => hw ⟨j, oj, hj, ho, hd'⟩]
        refine inv.still t fun j oj ho hd' => ?_
        rcases Nat.lt_or_ge j k with c | c
        · exact absurd ⟨j, oj, c, ho, hd'⟩ hw
        · exact h1 j c (List.getElem?_eq_some_iff.1 ho).1
  have fin : ∀ (listed : Array Bool) (a : Act) (w : World) (ψ : PMap), φ.le ψ → InvF l k Vs s ψ n listed a → (PhaseH w₀ h₀ l k N bl listed ψ w ∨ PhaseT P w₀ l k late ks (gOf h₀ N bl fun _ => true) Vs K listed ψ a w) → Region.ready .any l.toArray listed = [] → Q .normal a w := by
    intro listed a w ψ hle inv hph hrd
    have hal := all_listed hB inv.size hrd
    have hT : PhaseT P w₀ l k late ks (gOf h₀ N bl fun _ => true) Vs K listed ψ a w := by
      rcases hph with hph | hph
      · exact turn listed a w ψ inv hph fun i hi _ => hal i (by have := F.kle; omega)
      · exact hph
    obtain ⟨p, S, g, h1, h2, h3, h4, h5, h6, _, h7, h8⟩ := hT
    have hp : p = l.length := by
      rcases Nat.eq_or_lt_of_le h2 with e | e
      · exact e
      · have := (h3 p h1 e).1 (hal p e)
        omega
    subst hp
    rw [List.drop_length] at h6
    refine hq ψ S g a w hle h5 ⟨inv.tsize, inv.defers, fun t => ?_⟩ h6
    rcases h8 t with ⟨i, oi, c1, c2, _, c4⟩ | c
    · rw [hal i (List.getElem?_eq_some_iff.1 c2).1] at c4; cases c4
    · exact c
  intro fuel
  induction fuel with
  | zero =>
    intro listed a w ψ hle inv hph hc
    have hrd : Region.ready .any l.toArray listed = [] := by
      cases hrd : Region.ready .any l.toArray listed with
      | nil => rfl
      | cons i r =>
        exfalso
        have hm : i ∈ Region.ready .any l.toArray listed := by rw [hrd]; exact List.mem_cons_self
        obtain ⟨h1, o, ho, _⟩ := mem_ready.1 hm
        have hi : i < listed.size := by
          have : l[i]? = some o := by simpa using ho
          rw [inv.size]; exact (List.getElem?_eq_some_iff.1 this).1
        have h2 : listed.toList[i]? = some false := by
          simp [Array.getD, hi] at h1
          simp [hi, h1]
        have := List.mem_of_getElem? h2
        have hmem : false ∈ listed.toList.filter (!·) := by simp [List.mem_filter, this]
        have := List.length_pos_of_mem hmem
        omega
    exact ⟨hrd, fin listed a w ψ hle inv hph hrd⟩
  | succ fuel ih =>
    intro listed a w ψ hle inv hph hc
    refine ⟨fun hrd => fin listed a w ψ hle inv hph hrd, fun i hi => ?_⟩
    obtain ⟨h1, o, ho, hedges⟩ := mem_ready.1 hi
    have hol : l[i]? = some o := by simpa using ho
    have hilt : i < l.length := (List.getElem?_eq_some_iff.1 hol).1
    have hisz : i < listed.size := by rw [inv.size]; exact hilt
    have hif : listed.getD i false = false := by simp [Array.getD, hisz] at h1 ⊢; exact h1
    have hcount : ((listed.setIfInBounds i true).toList.filter (!·)).length ≤ fuel := by
      have h2 : listed.toList[i]? = some false := by
        simp [Array.getD, hisz] at h1
        simp [hisz, h1]
      have := count_set listed.toList i h2
      have e : (listed.setIfInBounds i true).toList = listed.toList.set i true := by simp
      rw [e]
      omega
    have goal : (if Region.wanted o (yielded l.toArray a.tmps) = true then o.wp P a w (wpAny P .any l.toArray Q fuel (listed.setIfInBounds i true)) Q else wpAny P .any l.toArray Q fuel (listed.setIfInBounds i true) (a.put o.dst undef) w) := by
      -- the tail's next operation
      have tailstep : ∀ (hT : PhaseT P w₀ l k late ks (gOf h₀ N bl fun _ => true) Vs K listed ψ a w), k ≤ i → (if Region.wanted o (yielded l.toArray a.tmps) = true then o.wp P a w (wpAny P .any l.toArray Q fuel (listed.setIfInBounds i true)) Q else wpAny P .any l.toArray Q fuel (listed.setIfInBounds i true) (a.put o.dst undef) w) := by
        rintro ⟨p, S, g, t1, t2, t3, t4, t5, t6, tk, t7, t8⟩ hki
        have hg := F.tailg i o hki hol
        have hw : Region.wanted o (yielded l.toArray a.tmps) = true := by simp [Region.wanted, hg]
        rw [if_pos hw]
        have hpi : p ≤ i := by
          refine Nat.le_of_not_lt fun hlt => ?_
          rw [(t3 i hki hilt).2 hlt] at hif; cases hif
        have hip : i = p := by
          rcases Nat.eq_or_lt_of_le hpi with e | e
          · exact e.symm
          · exfalso
            have hch := F.chain i (by omega) hilt
            obtain ⟨oi, g1, e', g2, g3, g4⟩ := Region.waitsFor_spec hch
            have g1' : l[i]? = some oi := by simpa using g1
            rw [hol] at g1'
            obtain rfl := Option.some.inj g1'
            have h5 := hedges e' g2 g3
            rw [g4] at h5
            have := (t3 (i - 1) (by omega) (by omega)).1 h5
            omega
        subst hip
        have hdrop : l.drop i = o :: l.drop (i + 1) := by
          rw [List.drop_eq_getElem_cons hilt]
          congr 1
          exact (List.getElem?_eq_some_iff.1 hol).2
        rw [hdrop] at t6
        have t6 := t6.2
        have spec := orderB_spec hB hol
        have hlook : ∀ t, t ∈ looksL l o → VR ψ (S.get t) (a.tmps.getD t undef) := by
          intro t ht
          rcases t8 t with ⟨j, oj, c1, c2, c3, c4⟩ | c
          · exfalso
            rcases (spec.2 j oj t c2 c3).2 ht with ⟨d1, d2⟩ | ⟨d1, d2⟩
            · obtain ⟨oi, g1, e', g2, g3, g4⟩ := Region.waitsFor_spec d2
              have g1' : l[i]? = some oi := by simpa using g1
              rw [hol] at g1'
              obtain rfl := Option.some.inj g1'
              have := hedges e' g2 g3
              rw [g4, c4] at this
              cases this
            · omega
          · exact c
        have hs : SRel ψ n (S.keep (looksL l o)) a := by
          refine ⟨inv.tsize, inv.defers, fun t => ?_⟩
          rw [Slots.get_keep]
          by_cases ht : (looksL l o).contains t = true
          · rw [if_pos ht]; exact hlook t (by simpa using ht)
          · rw [if_neg ht]; trivial
        have t6' := t6
        rw [← eop_congr (s' := S.keep (looksL l o)) o.op (ev_mem fun t ht => by unfold looksL; exact List.mem_append_left _ ht)] at t6'
        refine eop_ok o t6' t5 hs fun ψ' x h' v w' e1 e2 e3 ⟨ek, e4⟩ => ?_
        refine ih _ _ _ ψ' (PMap.le_trans hle e1) (inv.next hall hB e1 hol hedges fun hik => absurd hik (by omega)) (.inr ⟨i + 1, _, h', by omega, by omega, fun t ht htl => ?_, fun j hj hl => ?_, e2, e4, fun j hj => (ek j hj).trans (tk j hj), fun j oj t hj hoj hd => ?_, fun t => ?_⟩) hcount
        · by_cases e : t = i
          · subst e
            rw [set_self hisz]
            simp
          · rw [set_other e, t3 t ht htl]
            omega
        · rw [set_other (by omega)]
          exact t4 j hj hl
        · rw [put_get, if_neg fun hod => by have := (spec.2 j oj t hoj hd).1 hod; omega]
          exact t7 j oj t hj hoj hd
        · by_cases hod : o.dst = some t
          · right
            rw [put_get, if_pos hod, put_get_eq a hod (by rw [inv.tsize]; exact nth_lt l i t hall (by rw [nthDst_eq, hol]; exact hod))]
            exact e3
          · rcases t8 t with ⟨j, oj, c1, c2, c3, c4⟩ | c
            · exact .inl ⟨j, oj, c1, c2, c3, by rw [set_other (by omega)]; exact c4⟩
            · right
              rw [put_get, if_neg hod, put_get_ne a hod]
              exact VR_mono e1 _ _ c
      rcases hph with hH | hT
      · rcases Nat.lt_or_ge i k with hik | hki
        · -- an operation of the head
          refine hst i o hik hol listed ψ w a _ Q hif hisz hH.2 (inv.looks hB hik hol hif hedges) fun ψ' v w' hle' hh' hv => ?_
          exact ih _ _ _ ψ' (PMap.le_trans hle hle') (inv.next hall hB hle' hol hedges fun _ => hv) (.inl ⟨fun t ht htl => by rw [set_other (by omega)]; exact hH.1 t ht htl, hh'⟩) hcount
        · have hik : i = k := by
            rcases Nat.eq_or_lt_of_le hki with e | e
            · exact e.symm
            · exfalso
              have hch := F.chain i e hilt
              obtain ⟨oi, g1, e', g2, g3, g4⟩ := Region.waitsFor_spec hch
              have g1' : l[i]? = some oi := by simpa using g1
              rw [hol] at g1'
              obtain rfl := Option.some.inj g1'
              have h5 := hedges e' g2 g3
              rw [g4, hH.1 (i - 1) (by omega) (by omega)] at h5
              cases h5
          refine tailstep (turn listed a w ψ inv hH fun j hj hl => ?_) hki
          exact head_done F inv (by omega) (fun o' ho' => by
            subst hik
            rw [hol] at ho'
            obtain rfl := Option.some.inj ho'
            exact hedges) (k - j) j (by omega) hj hl
      · rcases Nat.lt_or_ge i k with hik | hki
        · -- a late one
          obtain ⟨p, S, g, t1, t2, t3, t4, t5, t6, tk, t7, t8⟩ := hT
          have hlt : late.contains i = true := by
            cases hc : late.contains i with
            | true => rfl
            | false => rw [t4 i hik hc] at hif; cases hif
          obtain ⟨hg, hhl, hkf⟩ := F.lateo i o hlt hol
          have hw : Region.wanted o (yielded l.toArray a.tmps) = true := by simp [Region.wanted, hg]
          rw [if_pos hw]
          obtain ⟨H, q0, q1, q2⟩ := hlate i o hlt hol
          have hs := inv.looks hB hik hol hif hedges
          have same : pop P w₀ g ((slotsAt s l Vs i).keep (looksL l o)) o.op = pop P w₀ H ((slotsAt s l Vs i).keep (looksL l o)) o.op := by
            rcases hhl with hhl | hhl
            · exact pop_heapless hhl
            · cases hop : o.op with
              | load ty x =>
                rw [hop] at q1
                refine load_same ?_ q1
                have hev : ev ((slotsAt s l Vs i).keep (looksL l o)) x = ev (slotsAt s l Vs k) x := by
                  rw [ev_keep (looks_of (by rw [hop]; simp [Op.operands]))]
                  cases x with
                  | tmp t =>
                    have htl : t ∈ looksL l o := looks_of (x := .tmp t) (by rw [hop]; simp [Op.operands]) t rfl
                    simp only [ev]
                    have noW : ∀ m, i ≤ m → m ≤ k → (slotsAt s l Vs m).get t = (slotsAt s l Vs i).get t := by
                      intro m
                      induction m with
                      | zero => intro h1 _; rw [Nat.le_zero.1 h1]
                      | succ m ihm =>
                        intro h1 h2
                        rcases Nat.eq_or_lt_of_le h1 with e | e
                        · rw [e]
                        · rw [slotsAt]
                          cases hm : l[m]? with
                          | none => exact ihm (by omega) (by omega)
                          | some om =>
                            simp only
                            rw [put_get, if_neg fun hd => ?_]
                            · exact ihm (by omega) (by omega)
                            · rcases Nat.eq_or_lt_of_le (show i ≤ m by omega) with e' | e'
                              · subst e'
                                rw [hol] at hm
                                obtain rfl := Option.some.inj hm
                                rcases ((orderB_spec hB hol).2 i o t hol hd).2 htl with ⟨c, _⟩ | ⟨c, _⟩ <;> omega
                              · exact F.latew i o hlt hol m om t e' (by omega) hm hd htl
                    exact (noW k (by omega) (Nat.le_refl _)).symm
                  | _ => rfl
                rcases lateOK_mem hlo i (by simpa using hlt) o ty x hol hop with ⟨j, pp, c1, c2⟩ | ⟨b, pp, c1⟩
                · exact .inl ⟨j, pp, by rw [hev]; exact c1, fun b hb => by rw [tk j c2]; exact q0 j b hb⟩
                · exact .inr ⟨b, pp, by rw [hev]; exact c1⟩
              | _ => rw [hop] at hhl; cases hhl
          rw [← same] at q1 q2
          obtain ⟨r, e1, e2⟩ := pop_ok o q1 t5 hs
          rw [← q2] at e2
          refine wp_value (e1 w (Same.refl w)) ?_
          refine ih _ _ _ ψ hle (inv.next hall hB ψ.le_refl hol hedges fun _ => e2) (.inr ⟨p, S, g, t1, t2, fun t ht htl => ?_, fun j hj hl => ?_, t5, t6, tk, t7, fun t => ?_⟩) hcount
          · rw [set_other (by omega)]; exact t3 t ht htl
          · by_cases e : j = i
            · subst e; exact set_self hisz
            · rw [set_other e]; exact t4 j hj hl
          · by_cases hod : o.dst = some t
            · right
              rw [t7 i o t hik hol hod, put_get_eq a hod (by rw [inv.tsize]; exact nth_lt l i t hall (by rw [nthDst_eq, hol]; exact hod))]
              exact e2
            · rcases t8 t with ⟨j, oj, c1, c2, c3, c4⟩ | c
              · refine .inl ⟨j, oj, c1, c2, c3, ?_⟩
                have e : j ≠ i := fun e => by subst e; rw [hol] at c2; obtain rfl := Option.some.inj c2; exact hod c3
                rw [set_other e]; exact c4
              · right
                rw [put_get_ne a hod]
                exact c
        · exact tailstep hT hki
    simp only [wpOp, ho]
    split
    · rename_i hw
      rw [if_pos hw] at goal
      exact .inl goal
    · rename_i hw
      rw [if_neg hw] at goal
      exact goal

/-- A statement of open order: operations that read, call or lay blocks, in any order; late ones that only look at slots; a chained tail. -/
theorem awp_draw_G {Q : Exit → Slots → AHeap → Prop} {s : Slots} {h : AHeap} {id : Nat} {l : List Oper} (k : Nat) (late ks : List Nat) (hm : P.follows .mixedOrders = true) (hB : floatB P l k late = true) (hd : dstsOk n l = true)
    (hc : fOps P w₀ l h (l.take k) s h (fun s' h' => lateOK l ks s' late ∧ kOps P w₀ ks (l.drop k) s' h' fun s'' h'' => Q .normal s'' h'')) : Awp P w₀ n (.region id l.toArray true) Q s h := by
  intro φ a w hr hs
  have F := floatB_spec hB
  obtain ⟨N₀, hN₀⟩ := hr.fin
  obtain ⟨N, hN1, hNt⟩ := tyOf_run N₀ l.length
  have hNφ : ∀ j, N ≤ j → φ j = none := fun j hj => hN₀ j (Nat.le_trans hN1 hj)
  have hN : ∀ j, N ≤ j → h j = none := fun j hj => hr.free (hNφ j hj)
  have hg0 : gOf h N [] (fun _ => true) = h := by
    funext j
    simp only [gOf, cond_true]
    by_cases c : N ≤ j
    · rw [if_pos c, hN j c]; rfl
    · rw [if_neg c]
  have htl : (l.take k).length = k := by have := F.kle; simp; omega
  obtain ⟨Vs, bl, g1, g2, g3, g4⟩ := fOps_steps (P := P) (w₀ := w₀) (n := n) (h₀ := h) hd hN hNt (l.drop k) (s := s) (l.take k) [] [] [] (by simp) rfl rfl (by rw [hg0]; exact hc)
  simp only [List.nil_append, List.length_nil, Nat.zero_le, true_implies, Nat.zero_add, htl] at g1 g2 g3 g4
  refine wp_region_any hm ?_
  have hf : ∀ j, (Array.replicate l.toArray.size false).getD j false = false := fun j => by simp [Array.getD]
  refine any_okF (φ := φ) hd F (s := s) (Vs := Vs) (N := N) (bl := bl) g2 (fun i o hi ho => (g3 i o hi ho).2.1) (fun i hl => ?_) g4.1 (fun i o hl ho => ?_) g4.2 (fun ψ S g a' w' hle h1 h2 h3 => ⟨ψ, S, g, hle, h1, h2, h3⟩) _ _ _ _ φ φ.le_refl
    ⟨by simp, fun j oj _ hl => (by rw [hf] at hl; cases hl), hs.size, hs.defers, fun t j oj _ _ _ hl => (by rw [hf] at hl; cases hl), fun t _ => hs.val t⟩ (.inl ⟨fun t _ _ => hf t, ?_, fun i hi _ => hNφ _ (by omega)⟩) ?_
  · obtain ⟨o, ho⟩ : ∃ o, l[i]? = some o := ⟨_, List.getElem?_eq_getElem (by have := F.latek i hl; have := F.kle; omega)⟩
    obtain ⟨_, _, q3⟩ := F.lateo i o hl ho
    exact ((g3 i o (F.latek i hl) ho).2.2 q3).1
  · obtain ⟨q1, q2, q3⟩ := F.lateo i o hl ho
    exact ((g3 i o (F.latek i hl) ho).2.2 q3).2 q1
  · have e : (gOf h N bl fun i => (Array.replicate l.toArray.size false).getD i false) = h := by
      funext j
      simp only [gOf, hf, cond_false]
      by_cases c : N ≤ j
      · rw [if_pos c, hN j c]
      · rw [if_neg c]
    rw [e]
    exact hr.drew
  · have := List.length_filter_le (!·) (Array.replicate l.toArray.size false).toList
    simpa using this

/-- No late loads. -/
def heaplessB (l : List Oper) (late : List Nat) : Bool := late.all fun i => match l[i]? with | some o => !isLoad o.op | none => true
theorem lateOK_heapless {l : List Oper} {s : Slots} : ∀ {late : List Nat}, heaplessB l late = true → lateOK l [] s late
  | [], _ => trivial
  | i :: r, h => by
    unfold heaplessB at h
    simp only [List.all_cons, Bool.and_eq_true] at h
    refine ⟨?_, lateOK_heapless h.2⟩
    cases hi : l[i]? with
    | none => trivial
    | some o =>
      simp only
      have h1 := h.1
      rw [hi] at h1
      simp only [Bool.not_eq_true'] at h1
      cases hop : o.op <;> first | trivial | (rw [hop] at h1; cases h1)

theorem awp_draw_F {Q : Exit → Slots → AHeap → Prop} {s : Slots} {h : AHeap} {id : Nat} {l : List Oper} (k : Nat) (late : List Nat) (hm : P.follows .mixedOrders = true) (hB : (floatB P l k late && heaplessB l late) = true) (hd : dstsOk n l = true)
    (hc : fOps P w₀ l h (l.take k) s h (fun s' h' => aOps P w₀ l (l.drop k) s' h' fun s'' h'' => Q .normal s'' h'')) : Awp P w₀ n (.region id l.toArray true) Q s h := by
  rw [Bool.and_eq_true] at hB
  have F := floatB_spec hB.1
  refine awp_draw_G k late [] hm hB.1 hd (fOps_mono (fun s' h' ha => ⟨lateOK_heapless hB.2, kOps_of_aOps (fun o ho => ?_) ha⟩) hc)
  obtain ⟨j, hj⟩ := List.getElem?_of_mem ho
  rw [List.getElem?_drop] at hj
  exact F.tailg (k + j) o (by omega) hj

theorem awp_dseq_F {Q : Exit → Slots → AHeap → Prop} {s : Slots} {h : AHeap} {id : Nat} {l : List Oper} {y : Code} (k : Nat) (late L : List Nat) (hm : P.follows .mixedOrders = true) (hB : (floatB P l k late && heaplessB l late) = true) (hd : dstsOk n l = true)
    (hc : ∀ K : Slots → AHeap → Prop, (∀ s h, Awp P w₀ n y Q s h → K s h) → fOps P w₀ l h (l.take k) s h (fun s' h' => aOps P w₀ l (l.drop k) s' h' fun s'' h'' => K (s''.keep L) h'')) : Awp P w₀ n (.seq (.region id l.toArray true) y) Q s h :=
  awp_seq (awp_draw_F k late hm hB hd (fOps_mono (fun _ _ ha => awp_rseq.aOps_mono (fun _ _ hk => Awp.keep L hk) ha) (hc (fun s h => Awp P w₀ n y Q s h) (fun _ _ hk => hk))))
end
end Go.AM

/-
  An assertion layer over the model's wp, part U: rewriting lemmas for the heads of statements of open order.
  Conditions: none. Nothing here is about a particular program.
-/
namespace Go.AM
open Go.RowKit (Below)
section
variable {P : Program} {w₀ : World} {ops rest : List Oper} {s : Slots} {h h₀ : AHeap} {K : Slots → AHeap → Prop} {dst : Option Tmp} {ty : TypeId} {pos : String} {af : Array Edge}

theorem fOps_nil : fOps P w₀ ops h₀ [] s h K = K s h := rfl
theorem fp_of {op : Op} (hk : kindF P op = 2) : fOps P w₀ ops h₀ (⟨dst, op, ty, pos, af, none⟩ :: rest) s h K = ((pop P w₀ h s op).pre ∧ fOps P w₀ ops h₀ rest (putD s dst (pop P w₀ h s op).val) h K) := by
  have e : pop P w₀ h (s.keep (looksL ops ⟨dst, op, ty, pos, af, none⟩)) op = pop P w₀ h s op := pop_congr op (ev_mem fun t ht => by unfold looksL; exact List.mem_append_left _ ht)
  have h0 : ¬ kindF P op = 0 := by omega
  simp only [fOps, if_neg h0, stepF, if_pos hk, e]
  exact propext ⟨fun ⟨V, ⟨h1, h2⟩, h3⟩ => ⟨h1, h2 ▸ h3⟩, fun ⟨h1, h2⟩ => ⟨_, ⟨h1, rfl⟩, h2⟩⟩
theorem fp_move (x : Operand) : fOps P w₀ ops h₀ (⟨dst, .move x, ty, pos, af, none⟩ :: rest) s h K = ((pop P w₀ h s (.move x)).pre ∧ fOps P w₀ ops h₀ rest (putD s dst (pop P w₀ h s (.move x)).val) h K) := fp_of (by rfl)
theorem fp_binOp (o : BinOp) (t : TypeId) (x y : Operand) (u : TypeId) : fOps P w₀ ops h₀ (⟨dst, .binOp o t x y u, ty, pos, af, none⟩ :: rest) s h K = ((pop P w₀ h s (.binOp o t x y u)).pre ∧ fOps P w₀ ops h₀ rest (putD s dst (pop P w₀ h s (.binOp o t x y u)).val) h K) := fp_of (by rfl)
theorem fp_load (t : TypeId) (x : Operand) : fOps P w₀ ops h₀ (⟨dst, .load t x, ty, pos, af, none⟩ :: rest) s h K = ((pop P w₀ h s (.load t x)).pre ∧ fOps P w₀ ops h₀ rest (putD s dst (pop P w₀ h s (.load t x)).val) h K) := fp_of (by rfl)
theorem fp_fieldAddr (t : TypeId) (x : Operand) (f : Nat) : fOps P w₀ ops h₀ (⟨dst, .fieldAddr t x f, ty, pos, af, none⟩ :: rest) s h K = ((pop P w₀ h s (.fieldAddr t x f)).pre ∧ fOps P w₀ ops h₀ rest (putD s dst (pop P w₀ h s (.fieldAddr t x f)).val) h K) := fp_of (by rfl)
theorem fp_nilCheck (x : Operand) : fOps P w₀ ops h₀ (⟨dst, .nilCheck x, ty, pos, af, none⟩ :: rest) s h K = ((pop P w₀ h s (.nilCheck x)).pre ∧ fOps P w₀ ops h₀ rest (putD s dst (pop P w₀ h s (.nilCheck x)).val) h K) := fp_of (by rfl)
theorem fp_len (a : List Operand) (t : Array TypeId) : fOps P w₀ ops h₀ (⟨dst, .call ⟨.builtin .len, a.toArray, t⟩, ty, pos, af, none⟩ :: rest) s h K = ((pop P w₀ h s (.call ⟨.builtin .len, a.toArray, t⟩)).pre ∧ fOps P w₀ ops h₀ rest (putD s dst (pop P w₀ h s (.call ⟨.builtin .len, a.toArray, t⟩)).val) h K) := fp_of (by rfl)
theorem fp_build (t : TypeId) (ps : List (Nat × Operand)) : fOps P w₀ ops h₀ (⟨dst, .build t ps.toArray, ty, pos, af, none⟩ :: rest) s h K = ((pop P w₀ h s (.build t ps.toArray)).pre ∧ fOps P w₀ ops h₀ rest (putD s dst (pop P w₀ h s (.build t ps.toArray)).val) h K) := fp_of (by rfl)
/-- A block is laid. -/
theorem fOps_lay {op : Op} (hk : kindF P op = 0) (he : aOps P w₀ ops [⟨dst, op, ty, pos, af, none⟩] s h (fun s' h' => fOps P w₀ ops h₀ rest s' h' K)) : fOps P w₀ ops h₀ (⟨dst, op, ty, pos, af, none⟩ :: rest) s h K := by
  simp only [aOps] at he
  simp only [fOps, if_pos hk]
  refine ⟨trivial, ?_⟩
  rw [eop_congr op (ev_mem fun t ht => by unfold looksL; exact List.mem_append_left _ ht)]
  exact he
theorem kOps_nil {ks : List Nat} : kOps P w₀ ks [] s h K = K s h := rfl
end
end Go.AM

/-
  An assertion layer over the model's wp, part V: heaps that are chains of blocks; slices whose elements are rows of cells.
  Conditions: none. Nothing here is about a particular program.
-/
namespace Go.AM
open Go.RowKit (Below)

theorem AHeap.set_none (h : AHeap) (k j : Nat) (b : Blk) : ((h.set k b) j = none) = (j ≠ k ∧ k ≠ j ∧ h j = none) := by
  refine propext ⟨fun e => ?_, fun ⟨e1, _, e2⟩ => by rw [AHeap.set_ne _ _ e1]; exact e2⟩
  have hne : j ≠ k := fun e' => by subst e'; rw [AHeap.set_same] at e; cases e
  exact ⟨hne, Ne.symm hne, by rwa [AHeap.set_ne _ _ hne] at e⟩
theorem rd_ne' (w₀ : World) (h : AHeap) {j k : Nat} (hj : j ≠ k) (b : Blk) (o : Nat) : rd w₀ (h.set k b) (.own j) o = rd w₀ h (.own j) o := rd_ne w₀ h b hj o
theorem Sub.set_both {h h' : AHeap} (hs : Sub h h') (k : Nat) (b : Blk) : Sub (h.set k b) (h'.set k b) := fun j c e => by
  by_cases ej : j = k
  · subst ej; rw [AHeap.set_same] at e ⊢; exact e
  · rw [AHeap.set_ne _ _ ej] at e ⊢; exact hs j c e
theorem lv_bool (b : Bool) : (AVal.bool b).live = true := rfl
theorem lv_int (k : IntKind) (n : Int) : (AVal.int k n).live = true := rfl
theorem lv_str (s : List UInt8) : (AVal.str s).live = true := rfl
theorem lv_nilPtr : AVal.nilPtr.live = true := rfl
theorem lv_ptr (l : Loc) (o : Nat) : (AVal.ptr l o).live = true := rfl
theorem lv_nilSlice : AVal.nilSlice.live = true := rfl
theorem lv_slice (l : Loc) (o n : Nat) (c : Cap) : (AVal.slice l o n c).live = true := rfl
theorem lv_nilFunc : AVal.nilFunc.live = true := rfl
theorem lv_func (f : FuncId) (c : List AVal) : (AVal.func f c).live = true := rfl
theorem lv_nilIface : AVal.nilIface.live = true := rfl
theorem lv_iface (t : TypeId) (v : AVal) : (AVal.iface t v).live = true := rfl
theorem lv_nilMap : AVal.nilMap.live = true := rfl
theorem lv_agg (cs : List AVal) : (AVal.agg cs).live = true := rfl
theorem lv_tuple (cs : List AVal) : (AVal.tuple cs).live = true := rfl
theorem IsB.live {w₀ : World} {h : AHeap} {v : AVal} {bs : List UInt8} (hb : IsB w₀ h v bs) : v.live = true := by cases hb <;> rfl
theorem IsB.scal {w₀ : World} {h : AHeap} {v : AVal} {bs : List UInt8} (hb : IsB w₀ h v bs) : v.scal = true := by cases hb <;> rfl

section
variable {P : Program} {w₀ : World} {s : Slots} {h : AHeap}
end

section
variable {P : Program}
theorem pSliceS_00 {t : TypeId} (ht : P.underlying t = some .string) (s : List UInt8) : pSlice P t (.str s) none none none = pSliceS s (bndA none 0) (bndA none s.length) := pSliceS_str ht s _ _
theorem pSliceS_0i {t : TypeId} (ht : P.underlying t = some .string) (s : List UInt8) (k : IntKind) (b : Int) : pSlice P t (.str s) none (some (.int k b)) none = pSliceS s (bndA none 0) (bndA (some (.int k b)) s.length) := pSliceS_str ht s _ _
theorem pSliceS_i0 {t : TypeId} (ht : P.underlying t = some .string) (s : List UInt8) (k : IntKind) (b : Int) : pSlice P t (.str s) (some (.int k b)) none none = pSliceS s (bndA (some (.int k b)) 0) (bndA none s.length) := pSliceS_str ht s _ _
theorem pSliceS_ii {t : TypeId} (ht : P.underlying t = some .string) (s : List UInt8) (k k' : IntKind) (a b : Int) : pSlice P t (.str s) (some (.int k a)) (some (.int k' b)) none = pSliceS s (bndA (some (.int k a)) 0) (bndA (some (.int k' b)) s.length) := pSliceS_str ht s _ _
end
end Go.AM

/-
  An assertion layer over the model's wp, part W: names that promise a type; strings.Builder as a block of the call's own.
  Conditions: none. Nothing here is about a particular program.
-/
namespace Go.AM
open Go.RowKit (Below)

/-- A variable is laid under a name that promises its type. -/
theorem awp_aseqT {P : Program} {w₀ : World} {n : Nat} {s : Slots} {h : AHeap} {Q : Exit → Slots → AHeap → Prop} {id : Nat} {d : Tmp} {e : TypeId} {z : Value} {cs : List AVal} {ty : TypeId} {pos : String} {af : Array Edge} {y : Code} (L : List Nat)
    (hd : d < n) (he : e < 4096) (hz : zeOf P e = some z) (hc : z.cells.toList.map absS = cs)
    (hk : ∀ k, h k = none → tyOf k = some e → Awp P w₀ n y Q ((s.put d (.ptr (.own k) 0)).keep L) (h.set k ⟨cs, 0⟩)) :
    Awp P w₀ n (.seq (.region id [⟨some d, .alloc e, ty, pos, af, none⟩].toArray false) y) Q s h :=
  awp_seq fun φ a w hr hs => wp_region (by
    obtain ⟨k, hk0, hφ, hke, hkt⟩ := hr.freshE e
    obtain ⟨e1, e2⟩ := hr.alloc k hk0 hφ (z.cells.toList.map absS) z.cells e 0 0 (by rw [List.length_map, List.take_length]; exact VRs_absS φ z.cells.toList) no_frz hkt
    have hw : Region.wanted (⟨some d, .alloc e, ty, pos, af, none⟩ : Oper) (yielded #[⟨some d, .alloc e, ty, pos, af, none⟩] a.tmps) = true := by simp [Region.wanted]
    simp only [List.size_toArray, List.length_singleton, List.range_succ, List.range_zero, List.nil_append, wpOps, List.getElem?_toArray, List.getElem?_cons_zero]
    rw [if_pos hw]
    refine .inl (wp_value (v := .pointer (some ⟨w.heap.size, 0, none⟩)) (w' := w.alloc (.cells z.cells e)) ?_ ?_)
    · simp [execOp, Instr.alloc, run_zero' hz, newVar, newRow]
    · refine ⟨_, _, _, e1, e2, (hs.mono e1).put d hd (VR_new _ _ _), ?_⟩
      rw [hc]
      exact Awp.keep L (hk k hk0 (hke he)))

/-- A row turns that is then forgotten. -/
theorem HRel.dropRow {w₀ w w' : World} {φ : PMap} {h h' : AHeap} (hr : HRel w₀ φ h w) {k : Nat} {b : Blk} {p : Place} (hk : h k = some b) (hp : φ k = some p)
    (hsize : w'.heap.size = w.heap.size) (hos : w'.os = w.os) (htape : w'.tape = w.tape) (hout : w'.output = w.output)
    (hother : ∀ i, i ≠ p.blk → w'.heap[i]? = w.heap[i]?) (hty : ∀ cs e fr, w.heap[p.blk]? = some (.cells cs e fr) → ∃ cs' fr', w'.heap[p.blk]? = some (.cells cs' e fr'))
    (hs : ∀ j c, h' j = some c → h j = some c ∧ j ≠ k) : HRel w₀ φ h' w' := by
  obtain ⟨q, hq, hq1, hq2⟩ := hr.own k b hk
  have hpq : q = p := by rw [hp] at hq; exact (Option.some.inj hq).symm
  subst hpq
  refine ⟨⟨hos.trans hr.below.os, htape.trans hr.below.tape, hout.trans hr.below.output, by rw [hsize]; exact hr.below.size, fun i hi => ?_⟩, fun j c hj => ?_, fun j j' b1 b2 p1 p2 h1 h2 f1 f2 e => ?_, fun j r hj => by rw [hsize]; exact hr.lt j r hj, hr.fin, fun j r hj t ht => ?_⟩
  · rw [hother i (by omega)]
    exact hr.below.block i hi
  · obtain ⟨h1, h2⟩ := hs j c hj
    obtain ⟨r, hr0, hr1, hr2⟩ := hr.own j c h1
    exact ⟨r, hr0, hr1, hr2.world (hother _ fun e' => h2 (hr.inj j k c b r q h1 hk hr0 hp e'))⟩
  · exact hr.inj j j' b1 b2 p1 p2 (hs j b1 h1).1 (hs j' b2 h2).1 f1 f2 e
  · obtain ⟨h0, cs, fr, hcs⟩ := hr.typ j r hj t ht
    refine ⟨h0, ?_⟩
    by_cases e : r.blk = q.blk
    · rw [e] at hcs ⊢
      exact hty cs t fr hcs
    · exact ⟨cs, fr, by rw [hother _ e]; exact hcs⟩

theorem freeze_facts (w : World) (a : Addr) (n : Nat) : (w.freeze a n).heap.size = w.heap.size ∧ (w.freeze a n).os = w.os ∧ (w.freeze a n).tape = w.tape ∧ (w.freeze a n).output = w.output ∧
    (∀ i, i ≠ a.block → (w.freeze a n).heap[i]? = w.heap[i]?) ∧ (∀ cs e fr, w.heap[a.block]? = some (.cells cs e fr) → ∃ cs' fr', (w.freeze a n).heap[a.block]? = some (.cells cs' e fr')) := by
  unfold World.freeze
  split
  · exact ⟨rfl, rfl, rfl, rfl, fun _ _ => rfl, fun cs e fr h => ⟨cs, fr, h⟩⟩
  · refine ⟨by simp, rfl, rfl, rfl, fun i hi => by simp [Array.getElem?_modify, Ne.symm hi], fun cs e fr h => ?_⟩
    obtain ⟨lo, hi⟩ := fr
    refine ⟨cs, if lo == hi then (a.off, a.off + n) else (min lo a.off, max hi (a.off + n)), ?_⟩
    simp only [Array.getElem?_modify, if_true, h, Option.map_some]

theorem HRel.setCell {w₀ w : World} {φ : PMap} {h : AHeap} (hr : HRel w₀ φ h w) {k : Nat} {b : Blk} {p : Place} (hk : h k = some b) (hp : φ k = some p) {o : Nat} {x : AVal} {v : Value}
    (hx : VR φ x v) (hs : x.scal = true) (hfit : o < b.cells.length) (hfrz : b.frz ≤ o) : HRel w₀ φ (h.set k ⟨b.cells.set o x, b.frz⟩) (w.setCell ⟨p.blk, p.off + o, none⟩ v) := by
  obtain ⟨q, hq, hq1, ok⟩ := hr.own k b hk
  have hpq : q = p := by rw [hp] at hq; exact (Option.some.inj hq).symm
  subst hpq
  obtain ⟨cs, e, lo, hi, h1, h2, h3, h4, h5, h6⟩ := ok.row
  have hgl : q.blk < w.heap.size := hr.lt k q hp
  rw [setCell_putRow w q.blk (q.off + o) cs e (lo, hi) h1 v]
  refine hr.write k b _ q hk hp (by simp [AM.World.putRow]) rfl rfl rfl (fun i hi => putRow_other w _ _ _ _ i hi) (fun cs' e' fr' h' => by rw [h1] at h'; cases h'; exact ⟨_, _, putRow_get w _ _ _ _ hgl⟩) ?_
  refine ⟨cs.setIfInBounds (q.off + o) v, e, lo, hi, putRow_get w _ _ _ _ hgl, by simp [h2], by simp [h3], by simp [h4], ?_, ?_⟩
  · have := take_drop_setAt cs.toList q.off b.cells.length o [v] (by simp; omega)
    simp only [setAt] at this
    simp only [Array.toList_setIfInBounds, List.length_set]
    rw [this]
    exact VRs_set h5 o hx
  · refine ⟨h6.1, fun i hi1 hi2 => ?_⟩
    have := h6.2 i hi1 hi2
    simpa using this

/-- What is laid out first in one variable is so in any number of them. -/
theorem liesAt_first {P : Program} {T U : TypeId} (h : liesAt P P.depth T 1 0 U 1 = true) (hU : ∀ m u, P.underlying U ≠ some (.array m u)) {c : Nat} (hc : 1 ≤ c) : liesAt P P.depth T c 0 U 1 = true := by
  have noarr : ∀ (d c' : Nat), liesAt P (d + 1) T c' 0 U 1 = rowAt P (sameLayout P P.depth · U) P.depth T c' 0 1 := fun d c' => by
    unfold liesAt
    cases e : P.underlying U with
    | none => simp
    | some t => cases t <;> first | exact absurd e (hU _ _) | simp
  cases hd : P.depth with
  | zero => rw [hd] at h; simp [liesAt] at h
  | succ d =>
    rw [hd] at h
    rw [noarr d] at h ⊢
    rw [hd] at h ⊢
    unfold rowAt at h ⊢
    simp only at h ⊢
    split at h
    · cases h
    · rename_i hs
      rw [if_neg hs]
      simp only [Nat.zero_div, Nat.zero_mod, Nat.zero_add, beq_self_eq_true, Bool.true_and, Nat.le_refl, decide_true, show (0 : Nat) < 1 from Nat.one_pos] at h ⊢
      rw [decide_eq_true hc, decide_eq_true (show 0 < c by omega), Bool.true_and, Bool.true_and]
      exact h

/-! ### A builder: two cells at the head of a block -/
structure Bld where
  used : Bool
  buf : Option (Nat × List UInt8)
def Bld.bytes (b : Bld) : List UInt8 := match b.buf with | none => [] | some (_, l) => l
def Bld.head (b : Bld) (k : Nat) : AVal := if b.used = true then .ptr (.own k) 0 else .nilPtr
def Bld.slice (b : Bld) : AVal := match b.buf with | none => .nilSlice | some (kb, l) => .slice (.own kb) 0 l.length (.grow 1)
def Bld.none : Bld := ⟨false, Option.none⟩
/-- Its buffer lies apart from all else, in a row of bytes (type e), and is not empty. -/
def Bld.ok (e : TypeId) (h : AHeap) (k : Nat) (b : Bld) : Prop := match b.buf with | Option.none => True | some (kb, l) => kb ≠ k ∧ h kb = Option.none ∧ tyOf kb = some e ∧ l ≠ []
def bldH (h : AHeap) (k : Nat) (rest : List AVal) (b : Bld) : AHeap := match b.buf with
  | Option.none => h.set k ⟨b.head k :: .nilSlice :: rest, 0⟩
  | some (kb, l) => (h.set k ⟨b.head k :: .slice (.own kb) 0 l.length (.grow 1) :: rest, 0⟩).set kb ⟨byteCells l, 0⟩
theorem Bld.none_ok {e : TypeId} {h : AHeap} {k : Nat} : Bld.none.ok e h k := trivial
theorem bldH_nil {h : AHeap} {k : Nat} {rest : List AVal} {b : Bld} (hb : b.buf = Option.none) : bldH h k rest b = h.set k ⟨b.head k :: .nilSlice :: rest, 0⟩ := by unfold bldH; rw [hb]
theorem bldH_some {h : AHeap} {k : Nat} {rest : List AVal} {b : Bld} {kb : Nat} {l : List UInt8} (hb : b.buf = some (kb, l)) :
    bldH h k rest b = (h.set k ⟨b.head k :: .slice (.own kb) 0 l.length (.grow 1) :: rest, 0⟩).set kb ⟨byteCells l, 0⟩ := by unfold bldH; rw [hb]
theorem Bld.slice_nil {b : Bld} (hb : b.buf = Option.none) : b.slice = .nilSlice := by unfold Bld.slice; rw [hb]
theorem Bld.slice_some {b : Bld} {kb : Nat} {l : List UInt8} (hb : b.buf = some (kb, l)) : b.slice = .slice (.own kb) 0 l.length (.grow 1) := by unfold Bld.slice; rw [hb]
theorem Bld.bytes_nil {b : Bld} (hb : b.buf = Option.none) : b.bytes = [] := by unfold Bld.bytes; rw [hb]
theorem Bld.bytes_some {b : Bld} {kb : Nat} {l : List UInt8} (hb : b.buf = some (kb, l)) : b.bytes = l := by unfold Bld.bytes; rw [hb]
theorem Bld.ok_nil {e : TypeId} {h : AHeap} {k : Nat} {b : Bld} (hb : b.buf = Option.none) : b.ok e h k := by unfold Bld.ok; rw [hb]; trivial
theorem Bld.ok_some {e : TypeId} {h : AHeap} {k : Nat} {b : Bld} {kb : Nat} {l : List UInt8} (hb : b.buf = some (kb, l)) : b.ok e h k ↔ (kb ≠ k ∧ h kb = Option.none ∧ tyOf kb = some e ∧ l ≠ []) := by unfold Bld.ok; rw [hb]
theorem Bld.ok_sub {e : TypeId} {h h' : AHeap} {k : Nat} {b : Bld} (hb : b.ok e h k) (hs : Sub h' h) : b.ok e h' k := by
  cases hbuf : b.buf with
  | none => exact Bld.ok_nil hbuf
  | some q =>
    obtain ⟨h1, h2, h3, h4⟩ := (Bld.ok_some hbuf).1 hb
    exact (Bld.ok_some hbuf).2 ⟨h1, hs.none h2, h3, h4⟩
theorem Sub.bldH {h : AHeap} {k : Nat} {rest : List AVal} {e : TypeId} {b : Bld} (hk : h k = Option.none) (hb : b.ok e h k) : Sub h (AM.bldH h k rest b) := by
  cases hbuf : b.buf with
  | none => rw [bldH_nil hbuf]; exact Sub.set hk
  | some q =>
    obtain ⟨h1, h2, h3, h4⟩ := (Bld.ok_some hbuf).1 hb
    rw [bldH_some hbuf]
    exact (Sub.set hk).trans (Sub.set (by rw [AHeap.set_ne _ _ h1]; exact h2))
/-- Another block, laid beside. -/
theorem bldH_set {h : AHeap} {k : Nat} {rest : List AVal} {b : Bld} {j : Nat} {c : Blk} (hj : bldH h k rest b j = none) : (bldH h k rest b).set j c = bldH (h.set j c) k rest b := by
  cases hbuf : b.buf with
  | none =>
    rw [bldH_nil hbuf] at hj ⊢
    rw [bldH_nil hbuf]
    have : j ≠ k := fun e => by subst e; rw [AHeap.set_same] at hj; cases hj
    rw [AHeap.set_comm _ _ _ this]
  | some q =>
    rw [bldH_some hbuf] at hj ⊢
    rw [bldH_some hbuf]
    have h1 : j ≠ q.1 := fun e => by subst e; rw [AHeap.set_same] at hj; cases hj
    rw [AHeap.set_ne _ _ h1] at hj
    have h2 : j ≠ k := fun e => by subst e; rw [AHeap.set_same] at hj; cases hj
    rw [AHeap.set_comm _ _ _ h1, AHeap.set_comm _ _ _ h2]
theorem bldH_head {h : AHeap} {k : Nat} {rest : List AVal} {e : TypeId} {b : Bld} (hb : b.ok e h k) : bldH h k rest b k = some ⟨b.head k :: b.slice :: rest, 0⟩ := by
  cases hbuf : b.buf with
  | none => rw [bldH_nil hbuf, Bld.slice_nil hbuf]; exact AHeap.set_same _ _ _
  | some q =>
    obtain ⟨h1, h2, h3, h4⟩ := (Bld.ok_some hbuf).1 hb
    rw [bldH_some hbuf, Bld.slice_some hbuf, AHeap.set_ne _ _ h1.symm, AHeap.set_same]
theorem bldH_buf {h : AHeap} {k : Nat} {rest : List AVal} {b : Bld} {kb : Nat} {l : List UInt8} (hb : b.buf = some (kb, l)) : bldH h k rest b kb = some ⟨byteCells l, 0⟩ := by
  rw [bldH_some hb]
  exact AHeap.set_same _ _ _
/-- Its own address is laid down. -/
theorem bldH_used {h : AHeap} {k : Nat} {rest : List AVal} {e : TypeId} {b : Bld} (hb : b.ok e h k) : (bldH h k rest b).set k ⟨.ptr (.own k) 0 :: b.slice :: rest, 0⟩ = bldH h k rest ⟨true, b.buf⟩ := by
  cases hbuf : b.buf with
  | none =>
    rw [bldH_nil hbuf, Bld.slice_nil hbuf, AHeap.set_set, bldH_nil rfl]
    rfl
  | some q =>
    obtain ⟨h1, h2, h3, h4⟩ := (Bld.ok_some hbuf).1 hb
    rw [bldH_some hbuf, Bld.slice_some hbuf, bldH_some rfl, AHeap.set_comm _ _ _ h1.symm, AHeap.set_set]
    rfl
theorem Bld.slice_live (b : Bld) : b.slice.live = true := by unfold Bld.slice; split <;> rfl
theorem Bld.slice_scal (b : Bld) : b.slice.scal = true := by unfold Bld.slice; split <;> rfl
theorem Bld.slice_cells (b : Bld) : b.slice.cells = [b.slice] := by unfold Bld.slice; split <;> rfl
theorem Bld.head_live (b : Bld) (k : Nat) : (b.head k).live = true := by unfold Bld.head; split <;> rfl
theorem Bld.len (b : Bld) : ∀ {P : Program} {t e : TypeId}, P.underlying t = some (.slice e) → pLen P t b.slice = ⟨True, .int .i64 b.bytes.length⟩ := fun ht => by
  cases hb : b.buf with
  | none => rw [Bld.slice_nil hb, Bld.bytes_nil hb]; simp [pLen, ht]
  | some q => rw [Bld.slice_some hb, Bld.bytes_some hb]; simp [pLen, ht]
theorem set_same_self {h : AHeap} {k : Nat} {b : Blk} (hk : h k = some b) : h.set k b = h := by
  funext j
  by_cases e : j = k
  · subst e; rw [AHeap.set_same, hk]
  · rw [AHeap.set_ne _ _ e]

section
variable {P : Program} {w₀ : World} {ops rest : List Oper} {s : Slots} {h : AHeap} {K : Slots → AHeap → Prop} {dst : Option Tmp} {ty : TypeId} {pos : String} {af : Array Edge}
/-- Bytes behind a builder's; the slice is laid down by the next store. -/
theorem aOps_appendBld {ts : Array TypeId} {t u e : TypeId} {d : TypeDesc} {x y : Operand} {v : AVal} {src : List UInt8} {h₀ : AHeap} {k : Nat} {cs : List AVal} {st : Bld}
    (h0 : ts[0]? = some t) (h1 : ts[1]? = some u) (ht : P.underlying t = some (.slice e)) (hu : P.underlying u = some d) (hd : ∀ k, d ≠ .int k)
    (hs : szOf P e = some 1) (hb : byOf P e = some 1) (hz : zeOf P e = some (.int .u8 0)) (he : e < 4096)
    (hx : ev s x = st.slice) (hk0 : h₀ k = none) (hst : st.ok e h₀ k) (hh : Sub (bldH h₀ k cs st) h) (hy : ev s y = v) (hv : SrcB w₀ h v src) (hl : st.bytes.length + src.length ≤ 140737488355328)
    (hk : ∀ st' : Bld, st'.used = st.used → st'.ok e h₀ k → st'.bytes = st.bytes ++ src → ∀ h', h' k = some ⟨st.head k :: st.slice :: cs, 0⟩ → Sub (bldH h₀ k cs st') (h'.set k ⟨st'.head k :: st'.slice :: cs, 0⟩) →
      aOps P w₀ ops rest (putD s dst st'.slice) h' K) :
    aOps P w₀ ops (⟨dst, .call ⟨.builtin .append, [x, y].toArray, ts⟩, ty, pos, af, none⟩ :: rest) s h K := by
  obtain ⟨g1, g2⟩ := hv
  obtain ⟨p1, p2⟩ := g2 src.length (Nat.le_refl _)
  rw [List.take_of_length_le (Nat.le_refl _)] at p2
  have hkc : h k = some ⟨st.head k :: st.slice :: cs, 0⟩ := hh _ _ (bldH_head hst)
  have h₀h : Sub h₀ h := (Sub.bldH hk0 hst).trans hh
  rw [aOps_e]
  simp only [eop, evs, List.map_cons, List.map_nil, hx, hy, eAppend, h0, h1, ht, hu, hs, hb, hz, g1]
  cases hbuf : st.buf with
  | none =>
    rw [Bld.slice_nil hbuf] at *
    rw [Bld.bytes_nil hbuf] at *
    simp only [List.length_nil, Nat.zero_add] at hl
    refine ⟨hd, ⟨by omega, rfl⟩, p1, fun e0 => ?_, fun e0 => ⟨⟨by omega, by omega⟩, fun k' hk' htk => ?_⟩⟩
    · have e1 : src = [] := List.eq_nil_of_length_eq_zero e0
      have := hk st rfl hst (by rw [e1, Bld.bytes_nil hbuf]; rfl) h hkc (by rw [Bld.slice_nil hbuf, set_same_self hkc]; exact hh)
      rw [Bld.slice_nil hbuf] at this
      exact this
    · have hne : k' ≠ k := fun e' => by subst e'; rw [hkc] at hk'; cases hk'
      have hsrc : src ≠ [] := fun e' => e0 (by rw [e']; rfl)
      have := hk ⟨st.used, some (k', src)⟩ rfl ((Bld.ok_some rfl).2 ⟨hne, h₀h.none hk', htk he, hsrc⟩) rfl (h.set k' ⟨byteCells src, 0⟩) (by rw [AHeap.set_ne _ _ hne.symm]; exact hkc) (fun j c hj => by
        rw [bldH_some rfl] at hj
        by_cases e1 : j = k'
        · subst e1
          rw [AHeap.set_same] at hj
          rw [AHeap.set_ne _ _ hne, AHeap.set_same]
          exact hj
        · rw [AHeap.set_ne _ _ e1] at hj
          by_cases e2 : j = k
          · subst e2
            rw [AHeap.set_same] at hj ⊢
            exact hj
          · rw [AHeap.set_ne _ _ e2] at hj ⊢
            rw [AHeap.set_ne _ _ e1]
            exact h₀h j c hj)
      rw [p2]
      exact this
  | some q =>
    obtain ⟨kb, l⟩ := q
    obtain ⟨s1, s2, s3, s4⟩ := (Bld.ok_some hbuf).1 hst
    have hkb : h kb = some ⟨byteCells l, 0⟩ := hh _ _ (bldH_buf hbuf)
    rw [Bld.slice_some hbuf] at *
    rw [Bld.bytes_some hbuf] at *
    simp only [hkb]
    refine ⟨hd, ⟨by omega, rfl⟩, p1, trivial, ⟨by rw [byteCells_length]; omega, by omega, by omega, by rw [p2]; exact allScal_byteCells _, ?_, .inl trivial⟩, fun k' hk' htk => ?_⟩
    · rw [List.drop_zero]; exact allLive_of_u8 (byteCells_isU8 _)
    · have hne : k' ≠ k := fun e' => by subst e'; rw [hkc] at hk'; cases hk'
      have hneb : k' ≠ kb := fun e' => by subst e'; rw [hkb] at hk'; cases hk'
      have hl' : (l ++ src).length = l.length + src.length := List.length_append
      have := hk ⟨st.used, some (k', l ++ src)⟩ rfl ((Bld.ok_some rfl).2 ⟨hne, h₀h.none hk', htk trivial s3, by simp [s4]⟩) rfl ((h.del kb).set k' ⟨byteCells (l ++ src), 0⟩) (by rw [AHeap.set_ne _ _ hne.symm]; simp only [AHeap.del, s1.symm, if_false]; exact hkc) (fun j c hj => by
        rw [bldH_some rfl] at hj
        by_cases e1 : j = k'
        · subst e1
          rw [AHeap.set_same] at hj
          rw [AHeap.set_ne _ _ hne, AHeap.set_same]
          exact hj
        · rw [AHeap.set_ne _ _ e1] at hj
          by_cases e2 : j = k
          · subst e2
            rw [AHeap.set_same] at hj ⊢
            exact hj
          · rw [AHeap.set_ne _ _ e2] at hj ⊢
            rw [AHeap.set_ne _ _ e1]
            have e3 : j ≠ kb := fun e' => by subst e'; rw [s2] at hj; cases hj
            simp only [AHeap.del, e3, if_false]
            exact h₀h j c hj)
      rw [p2, List.drop_zero, ← byteCells_append]
      rw [Bld.slice_some rfl, hl'] at this
      exact this
end
end Go.AM

/-
  An assertion layer over the model's wp, part X: rows of cells that a call lays, writes and appends to.
  Conditions: none. Nothing here is about a particular program.
-/
namespace Go.AM

section
variable {P : Program} {w₀ : World} {ops rest : List Oper} {s : Slots} {h : AHeap} {K : Slots → AHeap → Prop} {dst : Option Tmp} {ty : TypeId} {pos : String} {af : Array Edge}
end

/-! ### A slice of the call's own that grows by append -/
/-- Nil, or a row in a block of its own: es cells an element. -/
structure Buf where
  blk : Nat
  cells : List AVal
def bufV (es : Nat) : Option Buf → AVal
  | none => .nilSlice
  | some b => .slice (.own b.blk) 0 (b.cells.length / es) (.grow es)
def bufC : Option Buf → List AVal
  | none => []
  | some b => b.cells
def bufH (h : AHeap) : Option Buf → AHeap
  | none => h
  | some b => h.set b.blk ⟨b.cells, 0⟩
def bufOk (h : AHeap) (es : Nat) : Option Buf → Prop
  | none => True
  | some b => h b.blk = none ∧ b.cells.length % es = 0 ∧ allLive b.cells = true
theorem bufOk.sub {h h' : AHeap} {es : Nat} {b : Option Buf} (hb : bufOk h es b) (hs : Sub h' h) : bufOk h' es b := by
  cases b with
  | none => trivial
  | some b => exact ⟨hs.none hb.1, hb.2⟩
theorem Sub.buf {h : AHeap} {es : Nat} {b : Option Buf} (hb : bufOk h es b) : Sub h (bufH h b) := by
  cases b with
  | none => exact Sub.refl _
  | some b => exact Sub.set hb.1
theorem bufV_live (es : Nat) (b : Option Buf) : (bufV es b).live = true := by cases b <;> rfl
/-- What an append has left of the heap. -/
theorem sub_app {h₀ h : AHeap} {kb k' : Nat} {B C : Blk} (h0 : h₀ kb = none) (hs : Sub (h₀.set kb B) h) (hk' : h k' = none) : Sub (h₀.set k' C) ((h.del kb).set k' C) := fun j c hj => by
  by_cases e : j = k'
  · subst e; rw [AHeap.set_same] at hj ⊢; exact hj
  · rw [AHeap.set_ne _ _ e] at hj ⊢
    have e2 : j ≠ kb := fun e2 => by subst e2; rw [h0] at hj; cases hj
    simp only [AHeap.del, e2, if_false]
    exact hs j c (by rw [AHeap.set_ne _ _ e2]; exact hj)

section
variable {P : Program} {w₀ : World} {ops rest : List Oper} {s : Slots} {h : AHeap} {K : Slots → AHeap → Prop} {dst : Option Tmp} {ty : TypeId} {pos : String} {af : Array Edge}
/-- Cells behind a slice of the call's own: h₀ is what else is told of the heap. -/
theorem aOps_appendBuf {ts : Array TypeId} {t u e : TypeId} {d : TypeDesc} {x y : Operand} {v : AVal} {es by' m : Nat} {z : Value} {src : List AVal} {h₀ : AHeap} {b : Option Buf}
    (h0 : ts[0]? = some t) (h1 : ts[1]? = some u) (ht : P.underlying t = some (.slice e)) (hu : P.underlying u = some d) (hd : ∀ k, d ≠ .int k)
    (hs : szOf P e = some es) (hb : byOf P e = some by') (hz : zeOf P e = some z) (hzs : z.cells.size = es) (hes : es ≠ 0)
    (hx : ev s x = bufV es b) (hok : bufOk h₀ es b) (hh : Sub (bufH h₀ b) h) (hy : ev s y = v) (hm : srcLen v = some m) (hp : srcPre w₀ h es m v) (hc : srcCells w₀ h es m v = src) (hsl : src.length = m * es) (hsc : allScal src = true) (hlv : allLive src = true)
    (hl : ((bufC b).length / es + m) * by' ≤ 140737488355328) (hl' : (bufC b).length / es + m < 4611686018427387904)
    (hk : ∀ b' h', bufOk h₀ es b' → bufC b' = bufC b ++ src → Sub (bufH h₀ b') h' → aOps P w₀ ops rest (putD s dst (bufV es b')) h' K) :
    aOps P w₀ ops (⟨dst, .call ⟨.builtin .append, [x, y].toArray, ts⟩, ty, pos, af, none⟩ :: rest) s h K := by
  rw [aOps_e]
  simp only [eop, evs, List.map_cons, List.map_nil, hx, hy, eAppend, h0, h1, ht, hu, hs, hb, hz, hm]
  have hev : 0 < es := Nat.pos_of_ne_zero hes
  cases b with
  | none =>
    refine ⟨hd, ⟨hes, hzs⟩, hp, ?_⟩
    simp only [bufV]
    simp only [bufC, List.length_nil, Nat.zero_div, Nat.zero_add] at hl hl'
    refine ⟨fun e0 => ?_, fun e0 => ⟨⟨hl, hl'⟩, fun k hk0 _ => ?_⟩⟩
    · have : src = [] := List.eq_nil_of_length_eq_zero (by rw [hsl, e0, Nat.zero_mul])
      exact hk none h trivial (by rw [this]; rfl) hh
    · have hsub : Sub (bufH h₀ (some ⟨k, src⟩)) (h.set k ⟨src, 0⟩) := Sub.set_both hh k _
      have hk0' : h₀ k = none := hh.none hk0
      have e1 : src.length / es = m := by rw [hsl]; exact Nat.mul_div_cancel _ hev
      have := hk (some ⟨k, src⟩) (h.set k ⟨src, 0⟩) ⟨hk0', by simp only; rw [hsl]; exact Nat.mul_mod_left _ _, hlv⟩ rfl hsub
      simp only [bufV, e1] at this
      rw [hc]
      exact this
  | some b =>
    obtain ⟨o1, o2, o3⟩ := hok
    simp only [bufC] at hl hl'
    have hkb : h b.blk = some ⟨b.cells, 0⟩ := hh _ _ (AHeap.set_same _ _ _)
    refine ⟨hd, ⟨hes, hzs⟩, hp, ?_⟩
    simp only [bufV, hkb]
    have hdiv : b.cells.length / es * es = b.cells.length := Nat.div_mul_cancel (Nat.dvd_of_mod_eq_zero o2)
    refine ⟨trivial, ⟨by rw [Nat.zero_add, hdiv], hl, hl', by rw [hc]; exact hsc, by rw [List.drop_zero]; exact o3, .inl trivial⟩, fun k hk0 _ => ?_⟩
    rw [hc, List.drop_zero]
    have hsub : Sub (bufH h₀ (some ⟨k, b.cells ++ src⟩)) ((h.del b.blk).set k ⟨b.cells ++ src, 0⟩) := sub_app o1 hh hk0
    have hne : k ≠ b.blk := fun e' => by subst e'; rw [hkb] at hk0; cases hk0
    have hk0' : h₀ k = none := by
      have := hh.none hk0
      rwa [show (bufH h₀ (some b)) = h₀.set b.blk ⟨b.cells, 0⟩ from rfl, AHeap.set_ne _ _ hne] at this
    have e1 : (b.cells ++ src).length / es = b.cells.length / es + m := by
      rw [List.length_append, hsl, Nat.add_mul_div_right _ _ hev]
    have e2 : (b.cells ++ src).length % es = 0 := by
      rw [List.length_append, hsl, Nat.add_mul_mod_self_right]; exact o2
    have hlive : allLive (b.cells ++ src) = true := by
      have : ∀ (a c : List AVal), allLive (a ++ c) = (allLive a && allLive c) := fun a c => by
        induction a with
        | nil => rfl
        | cons x a ih => simp [allLive, ih, Bool.and_assoc]
      rw [this, o3, hlv]; rfl
    have := hk (some ⟨k, b.cells ++ src⟩) _ ⟨hk0', e2, hlive⟩ rfl hsub
    simp only [bufV, e1] at this
    exact this
end
end Go.AM

/-
  Plain functions for fixed columns: what Read, At and Write compute, with no program in sight.
  Conditions: none.
-/
namespace Go.Col
set_option maxRecDepth 100000

abbrev Str := List UInt8
/-- A fault: the error, the line, the column; all 0 if there is none. -/
structure FaultC where
  e : Int
  line : Int
  col : Int
  deriving DecidableEq
def okF : FaultC := ⟨0, 0, 0⟩
structure MarkC where
  frm : Int
  line : Int
  col : Int
  deriving DecidableEq
structure CardC where
  left : Bool
  text : Str
  marks : List MarkC
  deriving DecidableEq

def okB (b : UInt8) : Bool := decide (32 ≤ b.toNat) && decide (b.toNat ≤ 126)
/-- How many quotes. -/
def quotes (s : Str) : Nat := s.countP (· == 34)
def oddQ (s : Str) : Bool := decide (quotes s % 2 = 1)
def badAt (s : Str) : Option Nat := s.findIdx? (fun b => !okB b)
def trimL (s : Str) : Str := s.dropWhile (· == 32)
def trimR (s : Str) : Str := (s.reverse.dropWhile (· == 32)).reverse
def sp (n : Nat) : Str := List.replicate n 32

structure RowC where
  line : Int
  more : Bool
  text : Str
  col : Int
  deriving DecidableEq
def noRow : RowC := ⟨0, false, [], 0⟩
/-- A line as 72 columns. -/
def padE (s : Str) : Str := s ++ sp (72 - s.length)
def rowE (s : Str) (line : Int) : RowC := ⟨line, (padE s).getD 6 0 == 45, trimL (((padE s).drop 7).take 65), 73 - (trimL (((padE s).drop 7).take 65)).length⟩
/-- The row of a line, whether it counts, and its fault. -/
def lineE (s : Str) (line : Int) (debug : Bool) : RowC × Bool × FaultC :=
  if 80 < s.length then (noRow, false, ⟨5, line, 81⟩) else
  match badAt s with
  | some i => (noRow, false, ⟨4, line, i + 1⟩)
  | none =>
    let r := rowE s line
    let m := (padE s).getD 6 0
    if m = 42 ∨ m = 47 then (r, false, okF)
    else if m = 68 ∨ m = 100 then (r, debug && !decide (r.text = []), okF)
    else if m = 32 ∨ m = 45 then (r, !decide (r.text = []), okF)
    else (r, false, ⟨4, line, 7⟩)

/-- What has been read: the cards, where the last part began, whether the last text has an odd number of quotes. -/
structure Rd where
  cards : List CardC
  line : Int
  col : Int
  odd : Bool
def Rd.start : Rd := ⟨[], 0, 0, false⟩
/-- A part behind a card. -/
def addC (c : CardC) (line col : Int) (text : Str) : CardC :=
  let t := if oddQ (c.text ++ text) then text else trimR text
  ⟨c.left, c.text ++ t, if t = [] then c.marks else c.marks ++ [⟨c.text.length, line, col⟩]⟩
def addE (x : Rd) (line col : Int) (text : Str) : Rd :=
  match x.cards.getLast? with
  | none => x
  | some c => ⟨x.cards.dropLast ++ [addC c line col text], line, col, oddQ (c.text ++ text)⟩
def takeE (x : Rd) (r : RowC) : Rd × FaultC :=
  if !r.more && x.odd then (x, ⟨4, x.line, x.col⟩)
  else if !r.more then (addE { x with cards := x.cards ++ [⟨decide (r.col < 12), [], []⟩] } r.line r.col r.text, okF)
  else if x.cards = [] then (x, ⟨6, r.line, 7⟩)
  else if r.col < 12 ∨ (x.odd = true ∧ r.text.getD 0 0 ≠ 34) then (x, ⟨4, r.line, r.col⟩)
  else if x.odd then (addE x r.line (r.col + 1) (r.text.drop 1), okF)
  else (addE x r.line r.col r.text, okF)
/-- The lines of a text, from a number on. -/
def readL (debug : Bool) : List Str → Int → Rd → Rd × FaultC
  | [], _, x => (x, okF)
  | s :: l, n, x =>
    match lineE s n debug with
    | (r, counts, f) =>
      if f = okF ∧ counts = false then readL debug l (n + 1) x
      else if f = okF then
        match takeE x r with
        | (x', g) => if g = okF then readL debug l (n + 1) x' else (x', g)
      else (x, f)
/-- A text, divided at its line ends. -/
def splitNL : Str → List Str
  | [] => [[]]
  | b :: s => if b = 10 then [] :: splitNL s else match splitNL s with
    | [] => [[b]]
    | l :: ls => (b :: l) :: ls
def trimNL (s : Str) : Str := if s.getLast? = some 10 then s.dropLast else s
def readE (text : Str) (debug : Bool) : List CardC × FaultC :=
  if 1048576 < text.length then ([], ⟨3, 0, 0⟩)
  else match readL debug (splitNL (trimNL text)) 1 .start with
    | (x, f) => if f ≠ okF then ([], f) else if x.odd then ([], ⟨4, x.line, x.col⟩) else (x.cards, okF)

/-- The position of a byte, or the error. -/
def validC.go (c : CardC) : Int → List MarkC → Bool
  | _, [] => true
  | b, m :: ms => decide (b < m.frm ∧ m.frm < c.text.length ∧ 1 ≤ m.line ∧ 8 ≤ m.col ∧ m.col ≤ 72) && validC.go c m.frm ms
def validC (c : CardC) : Bool :=
  match c.marks with
  | [] => false
  | m :: _ => decide (m.frm = 0) && validC.go c (-1) c.marks
def atGo (i : Int) : List MarkC → Int × Int → Int × Int
  | [], p => p
  | m :: ms, p => atGo i ms (if m.frm ≤ i then (m.line, m.col + i - m.frm) else p)
def atE (c : CardC) (i : Int) : Int × Int × Int :=
  if validC c = true ∧ 0 ≤ i ∧ i ≤ c.text.length then ((atGo i c.marks (0, 0)).1, (atGo i c.marks (0, 0)).2, 0) else (0, 0, 1)

/-- The decimal digits of a number. -/
def digs (n : Nat) : Str := Lib.decDigits n
/-- An output line. -/
def outE (n : Nat) (mark : Str) (col : Nat) (text : Str) : Str :=
  List.replicate (6 - (digs (n % 1000000)).length) 48 ++ digs (n % 1000000) ++ mark ++ sp (col - 8) ++ text ++ [10]
/-- The last index from 1 to n at which a text has a space outside of quotes, or 0. -/
def spaceGo : Str → Nat → Nat → Bool → Nat → Nat
  | [], _, _, _, f => f
  | b :: s, i, n, q, f =>
    if n < i then f else
    let q' := if b = 34 then !q else q
    spaceGo s (i + 1) n q' (if b = 32 ∧ q' = false ∧ 0 < i then i else f)
def spaceE (s : Str) (n : Nat) (q : Bool) : Nat := spaceGo s 0 n q 0
/-- A text, laid out: the lines' number so far, the output so far. -/
def textE : Nat → Nat → Str → Bool → Nat → Str → Str → Nat × Str
  | 0, _, _, _, k, out, _ => (k, out)
  | fuel + 1, col, mark, q, k, out, s =>
    let n := 73 - col - (if q then 1 else 0)
    let lead : Str := if q then [34] else []
    if s.length ≤ n then (k + 1, out ++ outE (k + 1) mark col (lead ++ s))
    else if 0 < spaceE s n q then textE fuel 12 [32] false (k + 1) (out ++ outE (k + 1) mark col (lead ++ s.take (spaceE s n q))) (trimL (s.drop (spaceE s n q)))
    else textE fuel 12 [45] (q != oddQ (s.take n)) (k + 1) (out ++ outE (k + 1) mark col (lead ++ s.take n)) (s.drop n)
/-- Whether Write accepts a text. -/
def rightE (s : Str) : Bool := !decide (s = []) && s.all okB && !decide (s.getD 0 0 = 32) && !decide (s.getLast? = some 32) && !oddQ s
end Go.Col

/-
  An assertion layer over the model's wp, part BA: slices of elements of several cells.
  Conditions: none. Nothing here is about a particular program.
-/
namespace Go.AM

/-! ### The rest of a body -/
def bodyOf (fn : Func) : Code := match fn.body with
  | some c => c
  | none => .skip
def dropSeq : Nat → Code → Code
  | 0, c => c
  | k + 1, .seq _ c => dropSeq k c
  | _ + 1, c => c

def unScope : Code → Code
  | .scope c => c
  | c => c

/-! ### A body that holds labels, none of which is jumped to -/
def noGotoA (Q : Exit → Slots → AHeap → Prop) : Exit → Slots → AHeap → Prop
  | .goto _, _, _ => False
  | e, s, h => Q e s h
theorem noGotoA_ret {Q : Exit → Slots → AHeap → Prop} {s : Slots} {h : AHeap} : noGotoA Q .ret s h = Q .ret s h := rfl
theorem noGotoA_normal {Q : Exit → Slots → AHeap → Prop} {s : Slots} {h : AHeap} : noGotoA Q .normal s h = Q .normal s h := rfl
theorem awp_scope {P : Program} {w₀ : World} {n : Nat} {s : Slots} {h : AHeap} {Q : Exit → Slots → AHeap → Prop} {c : Code} (hc : Awp P w₀ n c (noGotoA Q) s h) : Awp P w₀ n (.scope c) Q s h :=
  fun φ a w hr hs => wp_scope_straight (wp_mono (hc φ a w hr hs) fun e a' w' hq => by
    obtain ⟨ψ, s', h', h1, h2, h3, h4⟩ := hq
    cases e with
    | goto l => exact h4.elim
    | normal => exact ⟨ψ, s', h', h1, h2, h3, h4⟩
    | exit i => exact ⟨ψ, s', h', h1, h2, h3, h4⟩
    | ret => exact ⟨ψ, s', h', h1, h2, h3, h4⟩
    | panic c => exact ⟨ψ, s', h', h1, h2, h3, h4⟩
    | outgrown => exact ⟨ψ, s', h', h1, h2, h3, h4⟩)

/-! ### A value that holds a row of elements, es cells each -/
inductive IsL (w₀ : World) (h : AHeap) (es : Nat) : AVal → List (List AVal) → Prop
  | nil : IsL w₀ h es .nilSlice []
  | mk (l : Loc) (o n : Nat) (c : Cap) (xs : List (List AVal)) (hn : n = xs.length) (hw : ∀ x ∈ xs, x.length = es) (hc : cellsAt w₀ h l o (n * es) = xs.flatten) (hl : allLive xs.flatten = true) (hcap : match c with | .exact c => n ≤ c | .grow g => g = es) : IsL w₀ h es (.slice l o n c) xs

theorem flatten_len {α : Type} {es : Nat} : ∀ {xs : List (List α)}, (∀ x ∈ xs, x.length = es) → xs.flatten.length = xs.length * es
  | [], _ => by simp
  | x :: xs, h => by
    rw [List.flatten_cons, List.length_append, flatten_len (fun y hy => h y (List.mem_cons_of_mem _ hy)), h x (List.mem_cons_self), List.length_cons, Nat.succ_mul, Nat.add_comm]
theorem flatten_get {α : Type} {es : Nat} : ∀ {xs : List (List α)}, (∀ x ∈ xs, x.length = es) → ∀ {i j : Nat}, i < xs.length → j < es → xs.flatten[i * es + j]? = (xs.getD i [])[j]?
  | [], _, _, _, hi, _ => by simp at hi
  | x :: xs, h, 0, j, _, hj => by
    rw [List.flatten_cons, Nat.zero_mul, Nat.zero_add, List.getElem?_append_left (by rw [h x List.mem_cons_self]; exact hj)]
    rfl
  | x :: xs, h, i + 1, j, hi, hj => by
    have hx := h x List.mem_cons_self
    rw [List.flatten_cons, List.getElem?_append_right (by rw [hx, Nat.succ_mul]; omega), hx, show (i + 1) * es + j - es = i * es + j by rw [Nat.succ_mul]; omega, flatten_get (fun y hy => h y (List.mem_cons_of_mem _ hy)) (by simpa using hi) hj]
    rfl
theorem flatten_drop {α : Type} {es : Nat} : ∀ {xs : List (List α)}, (∀ x ∈ xs, x.length = es) → ∀ i, xs.flatten.drop (i * es) = (xs.drop i).flatten
  | xs, _, 0 => by simp
  | [], _, i + 1 => by simp
  | x :: xs, h, i + 1 => by
    have hx := h x List.mem_cons_self
    rw [List.flatten_cons, List.drop_succ_cons, ← flatten_drop (fun y hy => h y (List.mem_cons_of_mem _ hy)) i, Nat.succ_mul, List.drop_append, List.drop_of_length_le (by omega), List.nil_append, show i * es + es - x.length = i * es by omega]
theorem flatten_take {α : Type} {es : Nat} : ∀ {xs : List (List α)}, (∀ x ∈ xs, x.length = es) → ∀ i, xs.flatten.take (i * es) = (xs.take i).flatten
  | xs, _, 0 => by simp
  | [], _, i + 1 => by simp
  | x :: xs, h, i + 1 => by
    have hx := h x List.mem_cons_self
    rw [List.flatten_cons, List.take_succ_cons, List.flatten_cons, ← flatten_take (fun y hy => h y (List.mem_cons_of_mem _ hy)) i, Nat.succ_mul, Nat.add_comm, List.take_append, List.take_of_length_le (by omega), show es + i * es - x.length = i * es by omega]
theorem allLive_append : ∀ (a c : List AVal), allLive (a ++ c) = (allLive a && allLive c)
  | [], _ => rfl
  | x :: a, c => by simp [allLive, allLive_append a c, Bool.and_assoc]
theorem allLive_flatten : ∀ {xs : List (List AVal)}, allLive xs.flatten = true ↔ ∀ x ∈ xs, allLive x = true
  | [] => by simp [allLive]
  | x :: xs => by
    rw [List.flatten_cons, allLive_append, Bool.and_eq_true, allLive_flatten]
    simp
/-- A part of a slice. -/
def subL (es : Nat) : AVal → Nat → Nat → AVal
  | .slice l o _ (.exact c), i, j => .slice l (o + i * es) (j - i) (.exact (c - i))
  | .slice l o _ (.grow g), i, j => .slice l (o + i * es) (j - i) (.grow g)
  | v, _, _ => v
section
variable {P : Program} {w₀ : World} {h : AHeap} {es : Nat} {v : AVal} {xs : List (List AVal)}

theorem IsL.live (hb : IsL w₀ h es v xs) : v.live = true := by cases hb <;> rfl
theorem IsL.scal (hb : IsL w₀ h es v xs) : v.scal = true := by cases hb <;> rfl
theorem IsL.cells (hb : IsL w₀ h es v xs) : v.cells = [v] := by cases hb <;> rfl
theorem IsL.wide (hb : IsL w₀ h es v xs) : ∀ x ∈ xs, x.length = es := by
  cases hb with
  | nil => simp
  | mk l o n c xs hn hw hc hl hcap => exact hw
theorem IsL.allLive (hb : IsL w₀ h es v xs) : allLive xs.flatten = true := by
  cases hb with
  | nil => rfl
  | mk l o n c xs hn hw hc hl hcap => exact hl
theorem IsL.len (hb : IsL w₀ h es v xs) {t e : TypeId} (ht : P.underlying t = some (.slice e)) : pLen P t v = ⟨True, .int .i64 xs.length⟩ := by
  cases hb with
  | nil => simp [pLen, ht]
  | mk l o n c xs hn hw hc hl hcap => simp [pLen, ht, hn]
theorem IsL.open (hb : IsL w₀ h es v xs) (hx : xs ≠ []) : ∃ l o c, v = .slice l o xs.length c := by
  cases hb with
  | nil => exact absurd rfl hx
  | mk l o n c xs hn hw hc hl hcap => subst hn; exact ⟨l, o, c, rfl⟩
theorem IsL.open' (hb : IsL w₀ h es v xs) : (v = .nilSlice ∧ xs = []) ∨ ∃ l o c, v = .slice l o xs.length c := by
  cases hb with
  | nil => exact .inl ⟨rfl, rfl⟩
  | mk l o n c xs hn hw hc hl hcap => subst hn; exact .inr ⟨l, o, c, rfl⟩
theorem IsL.part {l : Loc} {o n : Nat} {c : Cap} (hb : IsL w₀ h es (.slice l o n c) xs) {i j : Nat} (hij : i ≤ j) (hj : j ≤ xs.length) : cellsAt w₀ h l (o + i * es) ((j - i) * es) = ((xs.drop i).take (j - i)).flatten := by
  cases hb with
  | mk l o n c xs hn hw hc hl hcap =>
    subst hn
    have h1 : i * es ≤ j * es := Nat.mul_le_mul_right _ hij
    have h2 : j * es ≤ xs.length * es := Nat.mul_le_mul_right _ hj
    rw [Nat.sub_mul, cellsAt_part w₀ h l o (xs.length * es) (i * es) (j * es) h1 h2, hc, flatten_drop hw, ← Nat.sub_mul, flatten_take (fun y hy => hw y (List.mem_of_mem_drop hy))]
theorem IsL.elem {l : Loc} {o n : Nat} {c : Cap} (hb : IsL w₀ h es (.slice l o n c) xs) {i : Nat} (hi : i < xs.length) : cellsAt w₀ h l (o + i * es) es = xs.getD i [] := by
  have := hb.part (i := i) (j := i + 1) (by omega) hi
  rw [show i + 1 - i = 1 by omega, Nat.one_mul] at this
  rw [this, List.take_one, List.head?_drop, List.getElem?_eq_getElem hi]
  simp [List.getD, hi]
theorem IsL.at {l : Loc} {o n : Nat} {c : Cap} (hb : IsL w₀ h es (.slice l o n c) xs) {i j : Nat} (hi : i < xs.length) (hj : j < es) : rd w₀ h l (o + i * es + j) = (xs.getD i []).getD j .dead := by
  have := cellsAt_get w₀ h l es (o + i * es) j hj
  rw [hb.elem hi] at this
  rw [List.getD, this]
  rfl
theorem IsL.sub (hb : IsL w₀ h es v xs) {i j : Nat} (hij : i ≤ j) (hj : j ≤ xs.length) : IsL w₀ h es (subL es v i j) ((xs.drop i).take (j - i)) := by
  have hb' := hb
  cases hb with
  | nil =>
    simp only [subL, List.drop_nil, List.take_nil]
    exact .nil
  | mk l o n c xs hn hw hc hl hcap =>
    subst hn
    have e1 := hb'.part hij hj
    have e2 : AM.allLive ((xs.drop i).take (j - i)).flatten = true := allLive_flatten.2 fun x hx => allLive_flatten.1 hl x (List.mem_of_mem_drop (List.mem_of_mem_take hx))
    cases c with
    | exact c => exact .mk l _ _ _ _ (by simp; omega) (fun x hx => hw x (List.mem_of_mem_drop (List.mem_of_mem_take hx))) e1 e2 (by simp only at hcap ⊢; omega)
    | grow g => exact .mk l _ _ _ _ (by simp; omega) (fun x hx => hw x (List.mem_of_mem_drop (List.mem_of_mem_take hx))) e1 e2 hcap
theorem IsL.slice (hb : IsL w₀ h es v xs) {t e : TypeId} (ht : P.underlying t = some (.slice e)) (hs : szOf P e = some es) (lo hi : Option AVal) {l r : Int} (hl : bndA lo 0 = some l) (hr : bndA hi xs.length = some r)
    (h0 : 0 ≤ l) (h1 : l ≤ r) (h2 : r ≤ xs.length) : pSlice P t v lo hi none = ⟨True, subL es v l.toNat r.toNat⟩ := by
  cases hb with
  | nil =>
    simp only [List.length_nil] at h2 hr
    have e1 : l = 0 := by omega
    have e2 : r = 0 := by omega
    subst e1 e2
    simp only [pSlice, ht, hs, hl, hr, subL, and_self]
  | mk lc o n c xs hn hw hc hl' hcap =>
    subst hn
    have e : (r - l).toNat = r.toNat - l.toNat := by omega
    cases c with
    | exact c =>
      simp only at hcap
      have e3 : ((c : Int) - l).toNat = c - l.toNat := by omega
      have e4 : r ≤ c := by omega
      simp only [pSlice, ht, hs, hl, hr, subL, e, e3, h0, h1, e4, and_self]
    | grow g =>
      simp only at hcap
      subst hcap
      simp only [pSlice, ht, hs, hl, hr, subL, e, h0, h1, h2, and_self]
/-- A slice that has no room behind its elements. -/
def capL : AVal → AVal
  | .slice l o n _ => .slice l o n (.exact n)
  | v => v
theorem IsL.clip (hb : IsL w₀ h es v xs) : IsL w₀ h es (capL v) xs := by
  cases hb with
  | nil => exact .nil
  | mk l o n c xs hn hw hc hl hcap => exact .mk l o n _ xs hn hw hc hl (Nat.le_refl _)
/-- x[:n:n] of a slice of n elements. -/
theorem IsL.slice3 (hb : IsL w₀ h es v xs) {t e : TypeId} (ht : P.underlying t = some (.slice e)) (hs : szOf P e = some es) (k k' : IntKind) (lo : Option AVal) (hl : bndA lo 0 = some 0) : pSlice P t v lo (some (.int k xs.length)) (some (.int k' xs.length)) = ⟨True, capL v⟩ := by
  cases hb with
  | nil => simp only [pSlice, ht, hs, hl, bndA_int, capL, List.length_nil, Option.isSome_some, Int.natCast_zero, and_self]
  | mk lc o n c xs hn hw hc hl' hcap =>
    subst hn
    have z0 : (0 : Int).toNat = 0 := rfl
    have e1 : ((xs.length : Int) - 0).toNat = xs.length := by omega
    cases c with
    | exact c =>
      simp only at hcap
      have e4 : (xs.length : Int) ≤ c := by omega
      simp only [pSlice, ht, hs, hl, bndA_int, capL, z0, e1, Nat.zero_mul, Nat.add_zero, Option.isSome_some, e4, Int.natCast_nonneg, Int.le_refl, and_self]
    | grow g => simp only [pSlice, ht, hs, hl, bndA_int, capL, z0, e1, Nat.zero_mul, Nat.add_zero, Option.isSome_some, Int.natCast_nonneg, Int.le_refl, and_self]
theorem IsL.cap (hb : IsL w₀ h es v xs) {t e : TypeId} (ht : P.underlying t = some (.slice e)) : pCap P t (capL v) = ⟨True, .int .i64 xs.length⟩ := by
  cases hb with
  | nil => simp [pCap, ht, capL]
  | mk l o n c xs hn hw hc hl hcap => simp [pCap, ht, hn, capL]
theorem cellsAt_mono {l : Loc} {h h' : AHeap} (hs : Sub h h') : ∀ (m o : Nat), allLive (cellsAt w₀ h l o m) = true → cellsAt w₀ h' l o m = cellsAt w₀ h l o m := by
  intro m
  induction m with
  | zero => intro o _; rfl
  | succ m ih =>
    intro o hl
    simp only [cellsAt, AM.allLive, Bool.and_eq_true] at hl ⊢
    rw [ih _ hl.2]
    congr 1
    cases l with
    | base b => rfl
    | own k =>
      have hl1 := hl.1
      unfold AM.rd at hl1 ⊢
      cases hk : h k with
      | none => simp [hk, AVal.live] at hl1
      | some b => simp only [hk, hs k b hk]
theorem IsL.mono (hb : IsL w₀ h es v xs) {h' : AHeap} (hs : Sub h h') : IsL w₀ h' es v xs := by
  cases hb with
  | nil => exact .nil
  | mk l o n c xs hn hw hc hl hcap => exact .mk l o n c xs hn hw ((cellsAt_mono hs _ _ (by rw [hc]; exact hl)).trans hc) hl hcap
theorem IsL.own {k : Nat} {b : Blk} (hk : h k = some b) (hw : ∀ x ∈ xs, x.length = es) (hc : b.cells = xs.flatten) (hl : AM.allLive xs.flatten = true) (c : Cap) (hcap : match c with | .exact c => xs.length ≤ c | .grow g => g = es) : IsL w₀ h es (.slice (.own k) 0 xs.length c) xs := by
  refine .mk _ _ _ _ _ rfl hw ?_ hl hcap
  have e := flatten_len hw
  rw [cellsAt_own hk 0 _ (by rw [hc, e]; omega), List.drop_zero, hc, List.take_of_length_le (by omega)]
theorem IsL.src (hb : IsL w₀ h es v xs) : srcLen v = some xs.length ∧ srcPre w₀ h es xs.length v ∧ srcCells w₀ h es xs.length v = xs.flatten := by
  cases hb with
  | nil => exact ⟨rfl, trivial, rfl⟩
  | mk l o n c xs hn hw hc hl hcap =>
    subst hn
    refine ⟨rfl, ?_, hc⟩
    show AM.allLive (cellsAt w₀ h l o (xs.length * es)) = true
    rw [hc]
    exact hl
/-- What a growing slice holds. -/
theorem IsL.buf {h₀ : AHeap} {b : Option Buf} (hb : bufOk h₀ es b) (hes : 0 < es) (hc : bufC b = xs.flatten) (hw : ∀ x ∈ xs, x.length = es) (hs : Sub (bufH h₀ b) h) : IsL w₀ h es (bufV es b) xs := by
  cases b with
  | none =>
    have e := flatten_len hw
    rw [← hc] at e
    have e0 : xs.length * es = 0 := by rw [← e]; rfl
    have : xs = [] := by
      rcases Nat.mul_eq_zero.1 e0 with e1 | e1
      · exact List.eq_nil_of_length_eq_zero e1
      · omega
    subst this
    exact .nil
  | some b =>
    have hc' : b.cells = xs.flatten := hc
    have e : b.cells.length / es = xs.length := by rw [hc', flatten_len hw, Nat.mul_div_cancel _ hes]
    show IsL w₀ h es (.slice (.own b.blk) 0 (b.cells.length / es) (.grow es)) xs
    rw [e]
    exact IsL.own (hs _ _ (AHeap.set_same _ _ _)) hw hc' (by rw [← hc']; exact hb.2.2) (.grow es) rfl
end
/-! ### Blocks beside a growing slice -/
theorem bufNe {H : AHeap} {es : Nat} {b : Buf} (hb : bufOk H es (some b)) {j : Nat} {c : Blk} (hj : H j = some c) : j ≠ b.blk := fun e => by
  subst e
  have := hb.1
  rw [hj] at this
  cases this
theorem bufAt {H : AHeap} {es : Nat} {b : Option Buf} (hb : bufOk H es b) {j : Nat} {c : Blk} (hj : H j = some c) : bufH H b j = some c := by
  cases b with
  | none => exact hj
  | some b => exact (AHeap.set_ne _ _ (bufNe hb hj)).trans hj
theorem rdBuf (w₀ : World) {H : AHeap} {es : Nat} {b : Option Buf} (hb : bufOk H es b) {j : Nat} {c : Blk} (hj : H j = some c) (o : Nat) : rd w₀ (bufH H b) (.own j) o = c.cells.getD o .dead := rd_own w₀ (bufAt hb hj) o
/-- A block beside is written: the slice's block stays. -/
theorem bufSet {H : AHeap} {es : Nat} {b : Option Buf} (hb : bufOk H es b) {j : Nat} {c : Blk} (hj : H j = some c) (c' : Blk) : (bufH H b).set j c' = bufH (H.set j c') b := by
  cases b with
  | none => rfl
  | some b => exact (AHeap.set_comm _ _ _ (Ne.symm (bufNe hb hj))).symm
theorem bufOkSet {H : AHeap} {es : Nat} {b : Option Buf} (hb : bufOk H es b) {j : Nat} {c : Blk} (hj : H j = some c) (c' : Blk) : bufOk (H.set j c') es b := by
  cases b with
  | none => trivial
  | some b =>
    refine ⟨?_, hb.2⟩
    rw [AHeap.set_ne _ _ (Ne.symm (bufNe hb hj))]
    exact hb.1
theorem getD_app {D E : List AVal} {m : Nat} (h : D.length = m) (j : Nat) : (D ++ E).getD (m + j) .dead = E.getD j .dead := by
  simp only [List.getD]
  rw [List.getElem?_append_right (by omega), show m + j - D.length = j by omega]
theorem getD_app0 {D E : List AVal} {m : Nat} (h : D.length = m) : (D ++ E).getD m .dead = E.getD 0 .dead := getD_app h 0
theorem setAt_app {D : List AVal} {m : Nat} (h : D.length = m) : ∀ (vs E : List AVal) (j : Nat), setAt (D ++ E) (m + j) vs = D ++ setAt E j vs
  | [], _, _ => rfl
  | v :: vs, E, j => by
    simp only [setAt]
    rw [List.set_append_right _ _ (by omega), show m + j - D.length = j by omega, Nat.add_assoc, setAt_app h vs]
/-! ### Encoded elements -/
section
variable {α : Type} {w₀ : World} {h : AHeap} {es : Nat} {v : AVal} {enc : α → List AVal} {ys : List α}
theorem getD_map (d : α) {i : Nat} (hi : i < ys.length) : (ys.map enc).getD i [] = enc (ys.getD i d) := by
  simp [List.getD, hi]
end
section
variable {P : Program} {w₀ : World} {ops rest : List Oper} {s : Slots} {h : AHeap} {K : Slots → AHeap → Prop} {dst : Option Tmp} {ty : TypeId} {pos : String} {af : Array Edge}
theorem agL_deadT {r : PR} : agL P w₀ ops rest s h K dst (.bool true) false r = aOps P w₀ ops rest (putD s dst (.tuple [])) h K := by
  unfold agL agP
  simp [gKnown, guardB, condV]
theorem agL_deadF {r : PR} : agL P w₀ ops rest s h K dst (.bool false) true r = aOps P w₀ ops rest (putD s dst (.tuple [])) h K := by
  unfold agL agP
  simp [gKnown, guardB, condV]
theorem agL_deadU {r : PR} (want : Bool) : agL P w₀ ops rest s h K dst (.tuple []) want r = aOps P w₀ ops rest (putD s dst (.tuple [])) h K := by
  unfold agL agP
  simp [gKnown, guardB, condV]
/-- Elements behind a growing slice. -/
theorem aOps_appendL {ts : Array TypeId} {t u e : TypeId} {d : TypeDesc} {x y : Operand} {v : AVal} {es by' : Nat} {z : Value} {zs xs : List (List AVal)} {h₀ : AHeap} {b : Option Buf}
    (h0 : ts[0]? = some t) (h1 : ts[1]? = some u) (ht : P.underlying t = some (.slice e)) (hu : P.underlying u = some d) (hd : ∀ k, d ≠ .int k)
    (hs : szOf P e = some es) (hb : byOf P e = some by') (hz : zeOf P e = some z) (hzs : z.cells.size = es) (hes : es ≠ 0)
    (hx : ev s x = bufV es b) (hok : bufOk h₀ es b) (hbz : bufC b = zs.flatten) (hzw : ∀ x ∈ zs, x.length = es) (hh : Sub (bufH h₀ b) h) (hy : ev s y = v) (hv : IsL w₀ h es v xs) (hsc : allScal xs.flatten = true)
    (hl : (zs.length + xs.length) * by' ≤ 140737488355328) (hl' : zs.length + xs.length < 4611686018427387904)
    (hk : ∀ b' h', bufOk h₀ es b' → bufC b' = (zs ++ xs).flatten → Sub (bufH h₀ b') h' → aOps P w₀ ops rest (putD s dst (bufV es b')) h' K) :
    aOps P w₀ ops (⟨dst, .call ⟨.builtin .append, [x, y].toArray, ts⟩, ty, pos, af, none⟩ :: rest) s h K := by
  obtain ⟨s1, s2, s3⟩ := hv.src
  have e : (bufC b).length / es = zs.length := by rw [hbz, flatten_len hzw, Nat.mul_div_cancel _ (Nat.pos_of_ne_zero hes)]
  refine aOps_appendBuf (es := es) (src := xs.flatten) (m := xs.length) h0 h1 ht hu hd hs hb hz hzs hes hx hok hh hy s1 s2 s3 (flatten_len hv.wide) hsc hv.allLive (by rw [e]; exact hl) (by rw [e]; exact hl') fun b' h' o1 o2 o3 => ?_
  exact hk b' h' o1 (by rw [o2, hbz, List.flatten_append]) o3
end
end Go.AM

/-
  An assertion layer over the model's wp, part Y: statements of open order whose calls are chained and leave the told heap, with reading operations between them (rule H).
  Conditions: none. Nothing here is about a particular program.
-/
namespace Go.AM
open Go.RowKit (Below)
section
variable {P : Program} {w₀ : World} {n : Nat}

theorem AHeap.ne_some {h : AHeap} {k j : Nat} {b : Blk} (hk : h k = none) (hj : h j = some b) : k ≠ j := fun e => by subst e; rw [hk] at hj; cases hj
/-- What the looked-at slots hold. -/
def LookOk (ψ : PMap) (n : Nat) (l : List Oper) (o : Oper) (S : Slots) (a : Act) : Prop := a.tmps.size = n ∧ a.defers = [] ∧ ∀ t ∈ looksL l o, VR ψ (S.get t) (a.tmps.getD t undef)
/-- A reading operation gives the same wherever the told heap lies, and whenever it is run. -/
def FactR (P : Program) (w₀ : World) (n : Nat) (l : List Oper) (g : AHeap) (S : Slots) (o : Oper) (V : AVal) : Prop :=
  ∀ (ψ : PMap) (w : World) (a : Act) (g' : AHeap) (next : Act → World → Prop) (Q : Exit → Act → World → Prop), Sub g g' → HRel w₀ ψ g' w → LookOk ψ n l o S a → (∀ v, VR ψ V v → next (a.put o.dst v) w) →
    if Region.wanted o (yielded l.toArray a.tmps) = true then o.wp P a w next Q else next (a.put o.dst undef) w
theorem FactR.sub {l : List Oper} {g g' : AHeap} {S : Slots} {o : Oper} {V : AVal} (h : FactR P w₀ n l g S o V) (hs : Sub g g') : FactR P w₀ n l g' S o V :=
  fun ψ w a g₂ next Q h1 h2 h3 h4 => h ψ w a g₂ next Q (Sub.trans hs h1) h2 h3 h4
end
end Go.AM

/-
  An assertion layer over the model's wp, part Z: as rule H, with new blocks that may be laid at any time ahead of their use (rule I).
  Conditions: none. Nothing here is about a particular program.
-/
namespace Go.AM
open Go.RowKit (Below)
section
variable {P : Program} {w₀ : World} {n : Nat}

end
end Go.AM

/-
  Facts on the types of this seat's translation, by program (gen_ty.py): cells, bytes, zero values.
  Conditions: none.
-/
namespace Go.Proofs.YtikpnhdjjabdmaaDoor
open Go.AM

theorem sz3 : szOf Tryd.prog 3 = some 1 := by kernel_rfl
theorem ze3 : zeOf Tryd.prog 3 = some (.int .i64 0) := by kernel_rfl
theorem ag3 : aggOf Tryd.prog 3 = some false := by kernel_rfl
theorem sz4 : szOf Tryd.prog 4 = some 1 := by kernel_rfl
theorem ag4 : aggOf Tryd.prog 4 = some false := by kernel_rfl
theorem sz5 : szOf Tryd.prog 5 = some 1 := by kernel_rfl
theorem by5 : byOf Tryd.prog 5 = some 1 := by kernel_rfl
theorem ze5 : zeOf Tryd.prog 5 = some (.int .u8 0) := by kernel_rfl
theorem sz9 : szOf Tryd.prog 9 = some 1 := by kernel_rfl
theorem by9 : byOf Tryd.prog 9 = some 16 := by kernel_rfl
theorem ze9 : zeOf Tryd.prog 9 = some (.string .empty) := by kernel_rfl
theorem ag9 : aggOf Tryd.prog 9 = some false := by kernel_rfl
theorem sz27 : szOf Tryd.prog 27 = some 2 := by kernel_rfl
theorem ze27 : zeOf Tryd.prog 27 = some (.agg #[.bool false, .string .empty]) := by kernel_rfl
theorem ag27 : aggOf Tryd.prog 27 = some true := by kernel_rfl
theorem sz30 : szOf Tryd.prog 30 = some 1 := by kernel_rfl
theorem ag30 : aggOf Tryd.prog 30 = some false := by kernel_rfl
theorem sz32 : szOf Tryd.prog 32 = some 2 := by kernel_rfl
theorem ze32 : zeOf Tryd.prog 32 = some (.agg #[.int .i64 0, .int .i64 0]) := by kernel_rfl
theorem ag32 : aggOf Tryd.prog 32 = some true := by kernel_rfl
theorem egt32 : Tryd.prog.eqGuardType Tryd.prog.depth 32 = false := by kernel_rfl
theorem sz34 : szOf Tryd.prog 34 = some 3 := by kernel_rfl
theorem ze34 : zeOf Tryd.prog 34 = some (.agg #[.int .i64 0, .int .i64 0, .int .i64 0]) := by kernel_rfl
theorem ag34 : aggOf Tryd.prog 34 = some true := by kernel_rfl
theorem egt34 : Tryd.prog.eqGuardType Tryd.prog.depth 34 = false := by kernel_rfl
theorem sz37 : szOf Tryd.prog 37 = some 1 := by kernel_rfl
theorem ag37 : aggOf Tryd.prog 37 = some false := by kernel_rfl
theorem sz39 : szOf Tryd.prog 39 = some 3 := by kernel_rfl
theorem by39 : byOf Tryd.prog 39 = some 48 := by kernel_rfl
theorem ze39 : zeOf Tryd.prog 39 = some (.agg #[.bool false, .string .empty, .slice none 0 0]) := by kernel_rfl
theorem ag39 : aggOf Tryd.prog 39 = some true := by kernel_rfl
theorem sz57 : szOf Tryd.prog 57 = some 3 := by kernel_rfl
theorem by57 : byOf Tryd.prog 57 = some 24 := by kernel_rfl
theorem ze57 : zeOf Tryd.prog 57 = some (.agg #[.int .i64 0, .int .i64 0, .int .i64 0]) := by kernel_rfl
theorem ag57 : aggOf Tryd.prog 57 = some true := by kernel_rfl
theorem sz61 : szOf Tryd.prog 61 = some 1 := by kernel_rfl
theorem ag61 : aggOf Tryd.prog 61 = some false := by kernel_rfl
theorem ze65 : zeOf Tryd.prog 65 = some (.agg #[.pointer none, .slice none 0 0, .int .i64 0]) := by kernel_rfl
theorem ze71 : zeOf Tryd.prog 71 = some (.agg #[.slice none 0 0, .int .i64 0, .int .i64 0, .bool false]) := by kernel_rfl
theorem sz73 : szOf Tryd.prog 73 = some 4 := by kernel_rfl
theorem ze73 : zeOf Tryd.prog 73 = some (.agg #[.int .i64 0, .bool false, .string .empty, .int .i64 0]) := by kernel_rfl
theorem ag73 : aggOf Tryd.prog 73 = some true := by kernel_rfl
theorem fa27_0 (l : AM.Loc) (o : Nat) : pFieldAddr Tryd.prog 27 (.ptr l o) 0 = ⟨1 ≠ 0, .ptr l (o + 0)⟩ := by kernel_rfl
theorem fa27_1 (l : AM.Loc) (o : Nat) : pFieldAddr Tryd.prog 27 (.ptr l o) 1 = ⟨1 ≠ 0, .ptr l (o + 1)⟩ := by kernel_rfl
theorem fa32_0 (l : AM.Loc) (o : Nat) : pFieldAddr Tryd.prog 32 (.ptr l o) 0 = ⟨1 ≠ 0, .ptr l (o + 0)⟩ := by kernel_rfl
theorem fa32_1 (l : AM.Loc) (o : Nat) : pFieldAddr Tryd.prog 32 (.ptr l o) 1 = ⟨1 ≠ 0, .ptr l (o + 1)⟩ := by kernel_rfl
theorem eqv32 (a0 b0 : Int) (a1 b1 : Int) : (eqA Tryd.prog 40 32 (.agg [.int .i64 a0, .int .i64 a1]) (.agg [.int .i64 b0, .int .i64 b1])).val = .bool (decide (a0 = b0) && (decide (a1 = b1) && true)) := by kernel_rfl
theorem eqp32 (a0 b0 : Int) (a1 b1 : Int) : (eqA Tryd.prog 40 32 (.agg [.int .i64 a0, .int .i64 a1]) (.agg [.int .i64 b0, .int .i64 b1])).pre = ((0 < 2) ∧ (0 < 2) ∧ True ∧ ((1 < 2) ∧ (1 < 2) ∧ True ∧ True)) := by kernel_rfl
theorem ne32 (a0 b0 : Int) (a1 b1 : Int) : pAggEq Tryd.prog .neq 32 (.agg [.int .i64 a0, .int .i64 a1]) (.agg [.int .i64 b0, .int .i64 b1]) = ⟨True, .bool (!(decide (a0 = b0) && (decide (a1 = b1) && true)))⟩ := by
  simp only [pAggEq, eqv32, eqp32, egt32, PR.mk.injEq, and_true]; decide
theorem eqv34 (a0 b0 : Int) (a1 b1 : Int) (a2 b2 : Int) : (eqA Tryd.prog 40 34 (.agg [.int .i64 a0, .int .i64 a1, .int .i64 a2]) (.agg [.int .i64 b0, .int .i64 b1, .int .i64 b2])).val = .bool (decide (a0 = b0) && ((decide (a1 = b1) && (decide (a2 = b2) && true)) && true)) := by kernel_rfl
theorem eqp34 (a0 b0 : Int) (a1 b1 : Int) (a2 b2 : Int) : (eqA Tryd.prog 40 34 (.agg [.int .i64 a0, .int .i64 a1, .int .i64 a2]) (.agg [.int .i64 b0, .int .i64 b1, .int .i64 b2])).pre = ((0 < 3) ∧ (0 < 3) ∧ True ∧ ((1 + 2 ≤ 3) ∧ (1 + 2 ≤ 3) ∧ ((0 < 2) ∧ (0 < 2) ∧ True ∧ ((1 < 2) ∧ (1 < 2) ∧ True ∧ True)) ∧ True)) := by kernel_rfl
theorem eq34 (a0 b0 : Int) (a1 b1 : Int) (a2 b2 : Int) : pAggEq Tryd.prog .eql 34 (.agg [.int .i64 a0, .int .i64 a1, .int .i64 a2]) (.agg [.int .i64 b0, .int .i64 b1, .int .i64 b2]) = ⟨True, .bool (decide (a0 = b0) && ((decide (a1 = b1) && (decide (a2 = b2) && true)) && true))⟩ := by
  simp only [pAggEq, eqv34, eqp34, egt34, PR.mk.injEq, and_true]; decide
theorem ne34 (a0 b0 : Int) (a1 b1 : Int) (a2 b2 : Int) : pAggEq Tryd.prog .neq 34 (.agg [.int .i64 a0, .int .i64 a1, .int .i64 a2]) (.agg [.int .i64 b0, .int .i64 b1, .int .i64 b2]) = ⟨True, .bool (!(decide (a0 = b0) && ((decide (a1 = b1) && (decide (a2 = b2) && true)) && true)))⟩ := by
  simp only [pAggEq, eqv34, eqp34, egt34, PR.mk.injEq, and_true]; decide
theorem fa39_0 (l : AM.Loc) (o : Nat) : pFieldAddr Tryd.prog 39 (.ptr l o) 0 = ⟨1 ≠ 0, .ptr l (o + 0)⟩ := by kernel_rfl
theorem fa39_1 (l : AM.Loc) (o : Nat) : pFieldAddr Tryd.prog 39 (.ptr l o) 1 = ⟨1 ≠ 0, .ptr l (o + 1)⟩ := by kernel_rfl
theorem fa39_2 (l : AM.Loc) (o : Nat) : pFieldAddr Tryd.prog 39 (.ptr l o) 2 = ⟨1 ≠ 0, .ptr l (o + 2)⟩ := by kernel_rfl
theorem fa57_0 (l : AM.Loc) (o : Nat) : pFieldAddr Tryd.prog 57 (.ptr l o) 0 = ⟨1 ≠ 0, .ptr l (o + 0)⟩ := by kernel_rfl
theorem fa57_1 (l : AM.Loc) (o : Nat) : pFieldAddr Tryd.prog 57 (.ptr l o) 1 = ⟨2 ≠ 0, .ptr l (o + 1)⟩ := by kernel_rfl
theorem fa63_1 (l : AM.Loc) (o : Nat) : pFieldAddr Tryd.prog 63 (.ptr l o) 1 = ⟨1 ≠ 0, .ptr l (o + 1)⟩ := by kernel_rfl
theorem fa65_0 (l : AM.Loc) (o : Nat) : pFieldAddr Tryd.prog 65 (.ptr l o) 0 = ⟨2 ≠ 0, .ptr l (o + 0)⟩ := by kernel_rfl
theorem fa65_1 (l : AM.Loc) (o : Nat) : pFieldAddr Tryd.prog 65 (.ptr l o) 1 = ⟨1 ≠ 0, .ptr l (o + 2)⟩ := by kernel_rfl
theorem fa71_0 (l : AM.Loc) (o : Nat) : pFieldAddr Tryd.prog 71 (.ptr l o) 0 = ⟨1 ≠ 0, .ptr l (o + 0)⟩ := by kernel_rfl
theorem fa71_1 (l : AM.Loc) (o : Nat) : pFieldAddr Tryd.prog 71 (.ptr l o) 1 = ⟨2 ≠ 0, .ptr l (o + 1)⟩ := by kernel_rfl
theorem fa71_2 (l : AM.Loc) (o : Nat) : pFieldAddr Tryd.prog 71 (.ptr l o) 2 = ⟨1 ≠ 0, .ptr l (o + 3)⟩ := by kernel_rfl
theorem fa73_0 (l : AM.Loc) (o : Nat) : pFieldAddr Tryd.prog 73 (.ptr l o) 0 = ⟨1 ≠ 0, .ptr l (o + 0)⟩ := by kernel_rfl
theorem fa73_1 (l : AM.Loc) (o : Nat) : pFieldAddr Tryd.prog 73 (.ptr l o) 1 = ⟨1 ≠ 0, .ptr l (o + 1)⟩ := by kernel_rfl
theorem fa73_2 (l : AM.Loc) (o : Nat) : pFieldAddr Tryd.prog 73 (.ptr l o) 2 = ⟨1 ≠ 0, .ptr l (o + 2)⟩ := by kernel_rfl
theorem fa73_3 (l : AM.Loc) (o : Nat) : pFieldAddr Tryd.prog 73 (.ptr l o) 3 = ⟨1 ≠ 0, .ptr l (o + 3)⟩ := by kernel_rfl
theorem bld27_0_1 (x0 : Bool) (x1 : List UInt8) : pBuild Tryd.prog 27 [(0, .bool x0), (1, .str x1)] = ⟨True, .agg [.bool x0, .str x1]⟩ := by kernel_rfl
theorem bld34_ : pBuild Tryd.prog 34 [] = ⟨True, .agg [.int .i64 0, .int .i64 0, .int .i64 0]⟩ := by kernel_rfl
theorem bld27_1 (x1 : List UInt8) : pBuild Tryd.prog 27 [(1, .str x1)] = ⟨True, .agg [.bool false, .str x1]⟩ := by kernel_rfl
theorem bld32_ : pBuild Tryd.prog 32 [] = ⟨True, .agg [.int .i64 0, .int .i64 0]⟩ := by kernel_rfl
theorem bld32_0_1 (x0 : Int) (x1 : Int) : pBuild Tryd.prog 32 [(0, .int .i64 x0), (1, .int .i64 x1)] = ⟨True, .agg [.int .i64 x0, .int .i64 x1]⟩ := by kernel_rfl
theorem bld34_0 (x0 : Int) : pBuild Tryd.prog 34 [(0, .int .i64 x0)] = ⟨True, .agg [.int .i64 x0, .int .i64 0, .int .i64 0]⟩ := by kernel_rfl
theorem bld34_0_1 (x0 : Int) (x1 : Int) (x2 : Int) : pBuild Tryd.prog 34 [(0, .int .i64 x0), (1, .agg [.int .i64 x1, .int .i64 x2])] = ⟨True, .agg [.int .i64 x0, .int .i64 x1, .int .i64 x2]⟩ := by kernel_rfl
theorem bld73_ : pBuild Tryd.prog 73 [] = ⟨True, .agg [.int .i64 0, .bool false, .str [], .int .i64 0]⟩ := by kernel_rfl
theorem bld73_0_1_2_3 (x0 : Int) (x1 : Bool) (x2 : List UInt8) (x3 : Int) : pBuild Tryd.prog 73 [(0, .int .i64 x0), (1, .bool x1), (2, .str x2), (3, .int .i64 x3)] = ⟨True, .agg [.int .i64 x0, .bool x1, .str x2, .int .i64 x3]⟩ := by kernel_rfl
theorem bld39_0 (x0 : Bool) : pBuild Tryd.prog 39 [(0, .bool x0)] = ⟨True, .agg [.bool x0, .str [], .nilSlice]⟩ := by kernel_rfl
theorem bld57_0_1 (x0 : Int) (x1 : Int) (x2 : Int) : pBuild Tryd.prog 57 [(0, .int .i64 x0), (1, .agg [.int .i64 x1, .int .i64 x2])] = ⟨True, .agg [.int .i64 x0, .int .i64 x1, .int .i64 x2]⟩ := by kernel_rfl
theorem mixed : Tryd.prog.follows .mixedOrders = true := by kernel_rfl
end Go.Proofs.YtikpnhdjjabdmaaDoor

/-
  DERIVED: THE SHELF's CONTRACTS AT THIS DUMP, IN PLAIN WORDS (tools/lay-plain.mjs out of 'TrydShelf.lean', which tools/lay-shelf.mjs wrote): THE SAME DECLARATIONS UNDER THE SAME NAMES: 'import', 'namespace', 'open', 'def', 'theorem' AND NOTHING ELSE: no command of the shelf's: FOR A HAND-IN. Each laying: the table of numbers ('.._ren') and one theorem, a field a fact of the dump's own or the kernel's comparison; each contract: ONE APPLICATION.
-/
namespace Go.Proofs
open Go.Shelf
def Tryd.lays156_ren : Go.Shelf.Ren := ⟨fun | 156 => 21 | 165 => 40 | 166 => 41 | 169 => 28 | 240 => 61 | 241 => 62 | 276 => 74 | 277 => 75 | n => n, fun | 31 => 40 | 9 => 9 | 3 => 3 | 4 => 4 | 0 => 0 | 20 => 20 | 72 => 63 | 76 => 90 | 70 => 60 | 37 => 61 | 75 => 89 | 127 => 101 | 164 => 122 | 5 => 5 | 80 => 68 | n => n, fun | n => n⟩
theorem Tryd.lays156 : Go.Proofs.Lays.n156 Tryd.prog Tryd.lays156_ren := {
  mixed := by kernel_rfl
  f156 := Tryd.func21.trans (congrArg some (by kernel_rfl))
  f165 := Tryd.func40.trans (congrArg some (by kernel_rfl))
  f166 := Tryd.func41.trans (congrArg some (by kernel_rfl))
  f169 := Tryd.func28.trans (congrArg some (by kernel_rfl))
  f240 := Tryd.func61.trans (congrArg some (by kernel_rfl))
  f241 := Tryd.func62.trans (congrArg some (by kernel_rfl))
  f276 := Tryd.func74.trans (congrArg some (by kernel_rfl))
  f277 := Tryd.func75.trans (congrArg some (by kernel_rfl))
  t0 := Tryd.underlying0
  a0 := Tryd.isAgg0
  z0 := Tryd.sizeOf0
  v0 := Tryd.zeroValue0
  t3 := Tryd.underlying3
  a3 := Tryd.isAgg3
  z3 := Tryd.sizeOf3
  v3 := Tryd.zeroValue3
  t4 := Tryd.underlying4
  a4 := Tryd.isAgg4
  z4 := Tryd.sizeOf4
  v4 := Tryd.zeroValue4
  t9 := Tryd.underlying9
  a9 := Tryd.isAgg9
  z9 := Tryd.sizeOf9
  v9 := Tryd.zeroValue9
  t20 := Tryd.underlying20
  a20 := Tryd.isAgg20
  z20 := Tryd.sizeOf20
  v20 := Tryd.zeroValue20
  t31 := Tryd.underlying40
  a31 := Tryd.isAgg40
  z31 := Tryd.sizeOf40
  v31 := Tryd.zeroValue40
  t37 := Tryd.underlying61
  a37 := Tryd.isAgg61
  z37 := Tryd.sizeOf61
  v37 := Tryd.zeroValue61
  t70 := Tryd.underlying60
  a70 := Tryd.isAgg60
  z70 := Tryd.sizeOf60
  v70 := Tryd.zeroValue60
  t72 := Tryd.underlying63
  a72 := Tryd.isAgg63
  z72 := Tryd.sizeOf63
  v72 := Tryd.zeroValue63
  t75 := Tryd.underlying89
  a75 := Tryd.isAgg89
  z75 := Tryd.sizeOf89
  v75 := Tryd.zeroValue89
  t76 := Tryd.underlying90
  a76 := Tryd.isAgg90
  z76 := Tryd.sizeOf90
  v76 := Tryd.zeroValue90
  t127 := Tryd.underlying101
  a127 := Tryd.isAgg101
  z127 := Tryd.sizeOf101
  v127 := Tryd.zeroValue101
  t164 := Tryd.underlying122
  a164 := Tryd.isAgg122
  z164 := Tryd.sizeOf122
  v164 := Tryd.zeroValue122 }
theorem Tryd.Builder_Extra_156 : Builder.Extra Tryd.prog Tryd.lays156_ren := {
  sizeBuilder := by kernel_rfl
  liesBuilder := by kernel_rfl
  t5 := Tryd.underlying5
  a5 := Tryd.isAgg5
  z5 := Tryd.sizeOf5
  v5 := Tryd.zeroValue5
  infoByte := by kernel_rfl
  cellsByte := by kernel_rfl
  sizeByte := by kernel_rfl
  neB5 := by decide }
open Go.RowKit in
/-- No element: the empty string; the world is as it was. (Whatever the slice's address and capacity: a nil slice too.) (LAID: no walk: one application.) -/
theorem Tryd.strings_Join_none (a : Option Addr) (c : Nat) (sep : ByteArray) (w : World) :
    Calls Tryd.prog 21 #[.slice a 0 c, .string sep] w fun e w' => e = .returned (.string ⟨#[]⟩) ∧ w' = w := Any.strings_Join_none Tryd.lays156 Tryd.Builder_Extra_156 a c sep w
open Go.RowKit in
/-- strings.Join: "Join concatenates the elements of its first argument to create a single string. The separator string sep is placed between elements in the resulting string.": HOWEVER MANY ELEMENTS. Below the heap's end the world is as it was. (LAID: no walk: one application.) -/
theorem Tryd.strings_Join (bk o c : Nat) (xs : List ByteArray) (sep : ByteArray) (w : World) (hcells : ∀ (j : Nat) x, xs[j]? = some x → w.cell? ⟨bk, o + j, none⟩ = some (.string x)) (hbk : bk < w.heap.size) (hN : xs.length ≤ 140737488355328) (hcap : xs.length ≤ c) (hlen : (Lib.join (xs.map (·.data.toList)) sep.data.toList).length ≤ 140737488355328) :
    Calls Tryd.prog 21 #[.slice (some ⟨bk, o, none⟩) xs.length c, .string sep] w fun e w' => e = .returned (.string ⟨(Lib.join (xs.map (·.data.toList)) sep.data.toList).toArray⟩) ∧ Below w.heap.size w w' := Any.strings_Join Tryd.lays156 Tryd.Builder_Extra_156 bk o c xs sep w hcells hbk hN hcap hlen
def Tryd.lays161_ren : Go.Shelf.Ren := ⟨fun | 161 => 18 | 231 => 36 | 227 => 37 | 233 => 38 | 235 => 39 | 228 => 58 | 197 => 59 | 151 => 60 | 260 => 72 | 152 => 73 | 137 => 84 | 119 => 85 | 224 => 79 | 225 => 78 | 217 => 77 | 266 => 87 | n => n, fun | 9 => 9 | 4 => 4 | 3 => 3 | 5 => 5 | 117 => 83 | 116 => 82 | 0 => 0 | 124 => 86 | 105 => 110 | 21 => 21 | 119 => 126 | 46 => 92 | 139 => 129 | 138 => 128 | n => n, fun | 3 => 1 | 4 => 2 | n => n⟩
theorem Tryd.lays161 : Go.Proofs.Lays.n161 Tryd.prog Tryd.lays161_ren := {
  mixed := by kernel_rfl
  f119 := Tryd.func85.trans (congrArg some (by kernel_rfl))
  f137 := Tryd.func84.trans (congrArg some (by kernel_rfl))
  f151 := Tryd.func60.trans (congrArg some (by kernel_rfl))
  f152 := Tryd.func73.trans (congrArg some (by kernel_rfl))
  f161 := Tryd.func18.trans (congrArg some (by kernel_rfl))
  f197 := Tryd.func59.trans (congrArg some (by kernel_rfl))
  f217 := Tryd.func77.trans (congrArg some (by kernel_rfl))
  f224 := Tryd.func79.trans (congrArg some (by kernel_rfl))
  f225 := Tryd.func78.trans (congrArg some (by kernel_rfl))
  f227 := Tryd.func37.trans (congrArg some (by kernel_rfl))
  f228 := Tryd.func58.trans (congrArg some (by kernel_rfl))
  f231 := Tryd.func36.trans (congrArg some (by kernel_rfl))
  f233 := Tryd.func38.trans (congrArg some (by kernel_rfl))
  f235 := Tryd.func39.trans (congrArg some (by kernel_rfl))
  f260 := Tryd.func72.trans (congrArg some (by kernel_rfl))
  f266 := Tryd.func87.trans (congrArg some (by kernel_rfl))
  t0 := Tryd.underlying0
  a0 := Tryd.isAgg0
  z0 := Tryd.sizeOf0
  v0 := Tryd.zeroValue0
  t3 := Tryd.underlying3
  a3 := Tryd.isAgg3
  z3 := Tryd.sizeOf3
  v3 := Tryd.zeroValue3
  t4 := Tryd.underlying4
  a4 := Tryd.isAgg4
  z4 := Tryd.sizeOf4
  v4 := Tryd.zeroValue4
  t5 := Tryd.underlying5
  a5 := Tryd.isAgg5
  z5 := Tryd.sizeOf5
  v5 := Tryd.zeroValue5
  t9 := Tryd.underlying9
  a9 := Tryd.isAgg9
  z9 := Tryd.sizeOf9
  v9 := Tryd.zeroValue9
  t21 := Tryd.underlying21
  a21 := Tryd.isAgg21
  z21 := Tryd.sizeOf21
  v21 := Tryd.zeroValue21
  t46 := Tryd.underlying92
  a46 := Tryd.isAgg92
  z46 := Tryd.sizeOf92
  v46 := Tryd.zeroValue92
  t105 := Tryd.underlying110
  a105 := Tryd.isAgg110
  z105 := Tryd.sizeOf110
  v105 := Tryd.zeroValue110
  t116 := Tryd.underlying82
  a116 := Tryd.isAgg82
  z116 := Tryd.sizeOf82
  t117 := Tryd.underlying83
  a117 := Tryd.isAgg83
  z117 := Tryd.sizeOf83
  v117 := Tryd.zeroValue83
  t119 := Tryd.underlying126
  a119 := Tryd.isAgg126
  z119 := Tryd.sizeOf126
  t124 := Tryd.underlying86
  a124 := Tryd.isAgg86
  z124 := Tryd.sizeOf86
  v124 := Tryd.zeroValue86
  t138 := Tryd.underlying128
  a138 := Tryd.isAgg128
  z138 := Tryd.sizeOf128
  v138 := Tryd.zeroValue128
  t139 := Tryd.underlying129
  a139 := Tryd.isAgg129
  z139 := Tryd.sizeOf129
  v139 := Tryd.zeroValue129
  g3 := by kernel_rfl
  g4 := by kernel_rfl }
open Go.RowKit in
/-- strings.TrimLeft: "TrimLeft returns a slice of the string s with all leading Unicode code points contained in cutset removed.": AT A cutset OF ONE ASCII BYTE. The world is as it was. (LAID: no walk: one application.) -/
theorem Tryd.strings_TrimLeft_one (s : ByteArray) (c : UInt8) (hc : c.toNat < 128) (w : World) :
    Calls Tryd.prog 18 #[.string s, .string ⟨#[c]⟩] w fun e w' => e = .returned (.string ⟨(Lib.trimLeftB s.data.toList c).toArray⟩) ∧ w' = w := Any.strings_TrimLeft_one Tryd.lays161 s c hc w
def Tryd.lays162_ren : Go.Shelf.Ren := ⟨fun | 162 => 71 | 232 => 81 | 227 => 37 | 234 => 82 | 236 => 83 | 228 => 58 | 271 => 89 | 151 => 60 | 120 => 94 | 197 => 59 | 152 => 73 | 260 => 72 | 137 => 84 | 119 => 85 | 224 => 79 | 225 => 78 | 217 => 77 | 266 => 87 | n => n, fun | 9 => 9 | 4 => 4 | 3 => 3 | 5 => 5 | 117 => 83 | 116 => 82 | 0 => 0 | 124 => 86 | 21 => 21 | 105 => 110 | 46 => 92 | 119 => 126 | 139 => 129 | 138 => 128 | n => n, fun | 3 => 1 | 4 => 2 | n => n⟩
theorem Tryd.lays162 : Go.Proofs.Lays.n162 Tryd.prog Tryd.lays162_ren := {
  mixed := by kernel_rfl
  f119 := Tryd.func85.trans (congrArg some (by kernel_rfl))
  f120 := Tryd.func94.trans (congrArg some (by kernel_rfl))
  f137 := Tryd.func84.trans (congrArg some (by kernel_rfl))
  f151 := Tryd.func60.trans (congrArg some (by kernel_rfl))
  f152 := Tryd.func73.trans (congrArg some (by kernel_rfl))
  f162 := Tryd.func71.trans (congrArg some (by kernel_rfl))
  f197 := Tryd.func59.trans (congrArg some (by kernel_rfl))
  f217 := Tryd.func77.trans (congrArg some (by kernel_rfl))
  f224 := Tryd.func79.trans (congrArg some (by kernel_rfl))
  f225 := Tryd.func78.trans (congrArg some (by kernel_rfl))
  f227 := Tryd.func37.trans (congrArg some (by kernel_rfl))
  f228 := Tryd.func58.trans (congrArg some (by kernel_rfl))
  f232 := Tryd.func81.trans (congrArg some (by kernel_rfl))
  f234 := Tryd.func82.trans (congrArg some (by kernel_rfl))
  f236 := Tryd.func83.trans (congrArg some (by kernel_rfl))
  f260 := Tryd.func72.trans (congrArg some (by kernel_rfl))
  f266 := Tryd.func87.trans (congrArg some (by kernel_rfl))
  f271 := Tryd.func89.trans (congrArg some (by kernel_rfl))
  t0 := Tryd.underlying0
  a0 := Tryd.isAgg0
  z0 := Tryd.sizeOf0
  v0 := Tryd.zeroValue0
  t3 := Tryd.underlying3
  a3 := Tryd.isAgg3
  z3 := Tryd.sizeOf3
  v3 := Tryd.zeroValue3
  t4 := Tryd.underlying4
  a4 := Tryd.isAgg4
  z4 := Tryd.sizeOf4
  v4 := Tryd.zeroValue4
  t5 := Tryd.underlying5
  a5 := Tryd.isAgg5
  z5 := Tryd.sizeOf5
  v5 := Tryd.zeroValue5
  t9 := Tryd.underlying9
  a9 := Tryd.isAgg9
  z9 := Tryd.sizeOf9
  v9 := Tryd.zeroValue9
  t21 := Tryd.underlying21
  a21 := Tryd.isAgg21
  z21 := Tryd.sizeOf21
  v21 := Tryd.zeroValue21
  t46 := Tryd.underlying92
  a46 := Tryd.isAgg92
  z46 := Tryd.sizeOf92
  v46 := Tryd.zeroValue92
  t105 := Tryd.underlying110
  a105 := Tryd.isAgg110
  z105 := Tryd.sizeOf110
  v105 := Tryd.zeroValue110
  t116 := Tryd.underlying82
  a116 := Tryd.isAgg82
  z116 := Tryd.sizeOf82
  t117 := Tryd.underlying83
  a117 := Tryd.isAgg83
  z117 := Tryd.sizeOf83
  v117 := Tryd.zeroValue83
  t119 := Tryd.underlying126
  a119 := Tryd.isAgg126
  z119 := Tryd.sizeOf126
  t124 := Tryd.underlying86
  a124 := Tryd.isAgg86
  z124 := Tryd.sizeOf86
  v124 := Tryd.zeroValue86
  t138 := Tryd.underlying128
  a138 := Tryd.isAgg128
  z138 := Tryd.sizeOf128
  v138 := Tryd.zeroValue128
  t139 := Tryd.underlying129
  a139 := Tryd.isAgg129
  z139 := Tryd.sizeOf129
  v139 := Tryd.zeroValue129
  g3 := by kernel_rfl
  g4 := by kernel_rfl }
open Go.RowKit in
/-- strings.TrimRight: "TrimRight returns a slice of the string s, with all trailing Unicode code points contained in cutset removed.": AT A cutset OF ONE ASCII BYTE. The world is as it was. (LAID: no walk: one application.) -/
theorem Tryd.strings_TrimRight_one (s : ByteArray) (c : UInt8) (hc : c.toNat < 128) (w : World) (hs : s.size ≤ 9223372036854775807) :
    Calls Tryd.prog 71 #[.string s, .string ⟨#[c]⟩] w fun e w' => e = .returned (.string ⟨(Lib.trimRightB s.data.toList c).toArray⟩) ∧ w' = w := Any.strings_TrimRight_one Tryd.lays162 s c hc w hs
def Tryd.laysM171_ren : Go.Shelf.Ren := ⟨fun | 171 => 66 | 243 => 76 | 246 => 86 | 283 => 90 | 284 => 91 | 285 => 92 | 286 => 93 | 129 => 96 | 317 => 95 | 318 => 97 | 319 => 98 | 320 => 99 | 337 => 100 | 338 => 101 | n => n, fun | 3 => 3 | 9 => 9 | 2 => 2 | 4 => 4 | 171 => 132 | 0 => 0 | 53 => 116 | 37 => 61 | 5 => 5 | 173 => 135 | 212 => 138 | 51 => 113 | 20 => 20 | 213 => 139 | 46 => 92 | 232 => 143 | 233 => 144 | n => n, fun | 17 => 3 | 18 => 4 | 19 => 5 | n => n⟩
theorem Tryd.laysM171 : Go.Proofs.LaysM.n171 Tryd.prog Tryd.laysM171_ren := {
  mixed := by kernel_rfl
  f129 := Tryd.func96.trans (congrArg some (by kernel_rfl))
  f171 := Tryd.func66.trans (congrArg some (by kernel_rfl))
  f243 := Tryd.func76.trans (congrArg some (by kernel_rfl))
  f246 := Tryd.func86.trans (congrArg some (by kernel_rfl))
  f283 := Tryd.func90.trans (congrArg some (by kernel_rfl))
  f284 := Tryd.func91.trans (congrArg some (by kernel_rfl))
  f285 := Tryd.func92.trans (congrArg some (by kernel_rfl))
  f286 := Tryd.func93.trans (congrArg some (by kernel_rfl))
  f317 := Tryd.func95.trans (congrArg some (by kernel_rfl))
  f318 := Tryd.func97.trans (congrArg some (by kernel_rfl))
  f319 := Tryd.func98.trans (congrArg some (by kernel_rfl))
  f320 := Tryd.func99.trans (congrArg some (by kernel_rfl))
  f337 := Tryd.func100.trans (congrArg some (by kernel_rfl))
  f338 := Tryd.func101.trans (congrArg some (by kernel_rfl))
  t0 := Tryd.underlying0
  a0 := Tryd.isAgg0
  z0 := Tryd.sizeOf0
  v0 := Tryd.zeroValue0
  t2 := Tryd.underlying2
  a2 := Tryd.isAgg2
  z2 := Tryd.sizeOf2
  v2 := Tryd.zeroValue2
  t3 := Tryd.underlying3
  a3 := Tryd.isAgg3
  z3 := Tryd.sizeOf3
  v3 := Tryd.zeroValue3
  t4 := Tryd.underlying4
  a4 := Tryd.isAgg4
  z4 := Tryd.sizeOf4
  v4 := Tryd.zeroValue4
  t5 := Tryd.underlying5
  a5 := Tryd.isAgg5
  z5 := Tryd.sizeOf5
  v5 := Tryd.zeroValue5
  t9 := Tryd.underlying9
  a9 := Tryd.isAgg9
  z9 := Tryd.sizeOf9
  v9 := Tryd.zeroValue9
  t20 := Tryd.underlying20
  a20 := Tryd.isAgg20
  z20 := Tryd.sizeOf20
  v20 := Tryd.zeroValue20
  t37 := Tryd.underlying61
  a37 := Tryd.isAgg61
  z37 := Tryd.sizeOf61
  v37 := Tryd.zeroValue61
  t46 := Tryd.underlying92
  a46 := Tryd.isAgg92
  z46 := Tryd.sizeOf92
  v46 := Tryd.zeroValue92
  t51 := Tryd.underlying113
  a51 := Tryd.isAgg113
  z51 := Tryd.sizeOf113
  v51 := Tryd.zeroValue113
  t53 := Tryd.underlying116
  a53 := Tryd.isAgg116
  z53 := Tryd.sizeOf116
  v53 := Tryd.zeroValue116
  t171 := Tryd.underlying132
  a171 := Tryd.isAgg132
  z171 := Tryd.sizeOf132
  v171 := Tryd.zeroValue132
  t173 := Tryd.underlying135
  a173 := Tryd.isAgg135
  z173 := Tryd.sizeOf135
  v173 := Tryd.zeroValue135
  t212 := Tryd.underlying138
  a212 := Tryd.isAgg138
  z212 := Tryd.sizeOf138
  v212 := Tryd.zeroValue138
  t213 := Tryd.underlying139
  a213 := Tryd.isAgg139
  z213 := Tryd.sizeOf139
  t232 := Tryd.underlying143
  a232 := Tryd.isAgg143
  z232 := Tryd.sizeOf143
  v232 := Tryd.zeroValue143
  t233 := Tryd.underlying144
  a233 := Tryd.isAgg144
  z233 := Tryd.sizeOf144
  v233 := Tryd.zeroValue144
  g17 := by kernel_rfl
  g18 := by kernel_rfl
  g19 := by kernel_rfl
  i0 := by kernel_rfl
  i2 := by kernel_rfl
  i3 := by kernel_rfl
  i4 := by kernel_rfl
  i5 := by kernel_rfl
  i9 := by kernel_rfl
  i20 := by kernel_rfl
  i37 := by kernel_rfl
  i46 := by kernel_rfl
  i51 := by kernel_rfl
  i53 := by kernel_rfl
  i171 := by kernel_rfl
  i173 := by kernel_rfl
  i212 := by kernel_rfl
  i232 := by kernel_rfl
  i233 := by kernel_rfl
  m17 := by kernel_rfl
  m18 := by kernel_rfl
  m19 := by kernel_rfl }
open Go.RowKit Go.Sort Go.Lib in
/-- strconv.Itoa: "Itoa is equivalent to FormatInt(int64(i), 10).": i's DECIMAL NUMERAL ('Lib.itoa': a '-' where i is negative, then the digits), FOR EVERY int. The world behind the call: the world before it, new blocks behind the heap (the library's 'var a [24]byte'), draws. (LAID: no walk: one application.) -/
theorem Tryd.strconv_Itoa (n : Int) (h0 : -9223372036854775808 ≤ n) (h1 : n ≤ 9223372036854775807) (w : World) (htab : Lib.TabIs Tryd.prog w "internal/strconv.uint64pow10" .u64 Lib.pow10Tab) :
    Calls Tryd.prog 66 #[.int .i64 n] w fun e w' => e = .returned (.string ⟨(Lib.itoa n).toArray⟩) ∧ ∃ k os, w' = grow (w.drewN k) os := Any.strconv_Itoa Tryd.laysM171 n h0 h1 w htab
def Tryd.lays138_ren : Go.Shelf.Ren := ⟨fun | 138 => 29 | 195 => 49 | 218 => 50 | 143 => 51 | 219 => 68 | 217 => 77 | 225 => 78 | 224 => 79 | 267 => 80 | 266 => 87 | 314 => 88 | n => n, fun | 9 => 9 | 3 => 3 | 4 => 4 | 5 => 5 | 0 => 0 | 46 => 92 | 146 => 114 | 51 => 113 | n => n, fun | 1 => 0 | n => n⟩
theorem Tryd.lays138 : Go.Proofs.Lays.n138 Tryd.prog Tryd.lays138_ren := {
  mixed := by kernel_rfl
  f138 := Tryd.func29.trans (congrArg some (by kernel_rfl))
  f143 := Tryd.func51.trans (congrArg some (by kernel_rfl))
  f195 := Tryd.func49.trans (congrArg some (by kernel_rfl))
  f217 := Tryd.func77.trans (congrArg some (by kernel_rfl))
  f218 := Tryd.func50.trans (congrArg some (by kernel_rfl))
  f219 := Tryd.func68.trans (congrArg some (by kernel_rfl))
  f224 := Tryd.func79.trans (congrArg some (by kernel_rfl))
  f225 := Tryd.func78.trans (congrArg some (by kernel_rfl))
  f266 := Tryd.func87.trans (congrArg some (by kernel_rfl))
  f267 := Tryd.func80.trans (congrArg some (by kernel_rfl))
  f314 := Tryd.func88.trans (congrArg some (by kernel_rfl))
  t0 := Tryd.underlying0
  a0 := Tryd.isAgg0
  z0 := Tryd.sizeOf0
  v0 := Tryd.zeroValue0
  t3 := Tryd.underlying3
  a3 := Tryd.isAgg3
  z3 := Tryd.sizeOf3
  v3 := Tryd.zeroValue3
  t4 := Tryd.underlying4
  a4 := Tryd.isAgg4
  z4 := Tryd.sizeOf4
  v4 := Tryd.zeroValue4
  t5 := Tryd.underlying5
  a5 := Tryd.isAgg5
  z5 := Tryd.sizeOf5
  v5 := Tryd.zeroValue5
  t9 := Tryd.underlying9
  a9 := Tryd.isAgg9
  z9 := Tryd.sizeOf9
  v9 := Tryd.zeroValue9
  t46 := Tryd.underlying92
  a46 := Tryd.isAgg92
  z46 := Tryd.sizeOf92
  v46 := Tryd.zeroValue92
  t51 := Tryd.underlying113
  a51 := Tryd.isAgg113
  z51 := Tryd.sizeOf113
  v51 := Tryd.zeroValue113
  t146 := Tryd.underlying114
  a146 := Tryd.isAgg114
  z146 := Tryd.sizeOf114
  v146 := Tryd.zeroValue114
  g1 := by kernel_rfl }
open Go.RowKit Go.Lib in
/-- strings.Count AT A substr OF ONE BYTE ('hp'): "Count counts the number of non-overlapping instances of substr in s.": IT RETURNS 'Lib.countByte s (that byte)'; the world is as it was. ✋ NO CONTRACT HERE YET at an empty substr (utf8.RuneCountInString) or at a longer one (a loop over strings.Index). (LAID: no walk: one application.) -/
theorem Tryd.strings_Count_one (s : ByteArray) (c : UInt8) (w : World) :
    Calls Tryd.prog 29 #[.string s, .string ⟨#[c]⟩] w fun e w' => e = .returned (.int .i64 (Lib.countByte s.data.toList c)) ∧ w' = w := Any.strings_Count_one Tryd.lays138 s c w
def Tryd.laysGw15_ren : Go.Shelf.Ren := ⟨fun | 15 => 54 | 20 => 70 | n => n, fun | 9 => 9 | 23 => 106 | 3 => 3 | 4 => 4 | 0 => 0 | 21 => 21 | n => n, fun | n => n⟩
theorem Tryd.laysGw15 : Go.Proofs.LaysGw.n15 Tryd.prog Tryd.laysGw15_ren := {
  mixed := by kernel_rfl
  f15 := Tryd.func54.trans (congrArg some (by kernel_rfl))
  f20 := Tryd.func70.trans (congrArg some (by kernel_rfl))
  t0 := Tryd.underlying0
  a0 := Tryd.isAgg0
  z0 := Tryd.sizeOf0
  v0 := Tryd.zeroValue0
  i0 := by kernel_rfl
  t3 := Tryd.underlying3
  a3 := Tryd.isAgg3
  z3 := Tryd.sizeOf3
  v3 := Tryd.zeroValue3
  i3 := by kernel_rfl
  t4 := Tryd.underlying4
  a4 := Tryd.isAgg4
  z4 := Tryd.sizeOf4
  v4 := Tryd.zeroValue4
  i4 := by kernel_rfl
  t9 := Tryd.underlying9
  a9 := Tryd.isAgg9
  z9 := Tryd.sizeOf9
  v9 := Tryd.zeroValue9
  i9 := by kernel_rfl
  t21 := Tryd.underlying21
  a21 := Tryd.isAgg21
  z21 := Tryd.sizeOf21
  v21 := Tryd.zeroValue21
  i21 := by kernel_rfl
  t23 := Tryd.underlying106
  a23 := Tryd.isAgg106
  z23 := Tryd.sizeOf106
  v23 := Tryd.zeroValue106
  i23 := by kernel_rfl }
open Go.RowKit Go.Lib in
theorem Tryd.strings_IndexFunc_runes (g : Nat) (lb : Array Value) (eg : ∀ args w, (callFunc g args).run Tryd.prog w = .ok (.enter g args) w) (p : Nat → Bool) (s : ByteArray) (w : World) (hp : PredAtRunes Tryd.prog g lb p w) :
    Calls Tryd.prog 54 #[.string s, .func (.func g) #[] lb] w fun e w' => e = .returned (.int .i64 (Lib.idxFunc p true s)) ∧ Below w.heap.size w w' := Any.strings_IndexFunc_runes Tryd.laysGw15 g lb eg p s w hp
def Tryd.lays102_ren : Go.Shelf.Ren := ⟨fun | 102 => 30 | 209 => 52 | 207 => 69 | n => n, fun | 9 => 9 | 4 => 4 | 3 => 3 | n => n, fun | n => n⟩
theorem Tryd.lays102 : Go.Proofs.Lays.n102 Tryd.prog Tryd.lays102_ren := {
  mixed := by kernel_rfl
  f102 := Tryd.func30.trans (congrArg some (by kernel_rfl))
  f207 := Tryd.func69.trans (congrArg some (by kernel_rfl))
  f209 := Tryd.func52.trans (congrArg some (by kernel_rfl))
  t3 := Tryd.underlying3
  a3 := Tryd.isAgg3
  z3 := Tryd.sizeOf3
  v3 := Tryd.zeroValue3
  t4 := Tryd.underlying4
  a4 := Tryd.isAgg4
  z4 := Tryd.sizeOf4
  v4 := Tryd.zeroValue4
  t9 := Tryd.underlying9
  a9 := Tryd.isAgg9
  z9 := Tryd.sizeOf9
  v9 := Tryd.zeroValue9 }
open Go.RowKit Go.Lib in
/-- strings.TrimSuffix: "TrimSuffix returns s without the provided trailing suffix string. If s doesn't end with suffix, s is returned unchanged.": IT RETURNS 'Lib.trimSuffix s suffix'; the world is as it was. (LAID: no walk: one application.) -/
theorem Tryd.strings_TrimSuffix (s p : ByteArray) (w : World) (hs : s.size ≤ 9223372036854775807) :
    Calls Tryd.prog 30 #[.string s, .string p] w fun e w' => e = .returned (.string ⟨(Lib.trimSuffix s.data.toList p.data.toList).toArray⟩) ∧ w' = w := Any.strings_TrimSuffix Tryd.lays102 s p w hs
def Tryd.lays146_ren : Go.Shelf.Ren := ⟨fun | 146 => 12 | 221 => 35 | 268 => 57 | 138 => 29 | 143 => 51 | 195 => 49 | 197 => 59 | 218 => 50 | 219 => 68 | 260 => 72 | 217 => 77 | 225 => 78 | 224 => 79 | 267 => 80 | 266 => 87 | 314 => 88 | n => n, fun | 9 => 9 | 31 => 40 | 3 => 3 | 4 => 4 | 0 => 0 | 105 => 110 | 21 => 21 | 5 => 5 | 46 => 92 | 119 => 126 | 139 => 129 | 138 => 128 | 146 => 114 | 51 => 113 | n => n, fun | 1 => 0 | 3 => 1 | 4 => 2 | n => n⟩
theorem Tryd.lays146 : Go.Proofs.Lays.n146 Tryd.prog Tryd.lays146_ren := {
  mixed := by kernel_rfl
  f138 := Tryd.func29.trans (congrArg some (by kernel_rfl))
  f143 := Tryd.func51.trans (congrArg some (by kernel_rfl))
  f146 := Tryd.func12.trans (congrArg some (by kernel_rfl))
  f195 := Tryd.func49.trans (congrArg some (by kernel_rfl))
  f197 := Tryd.func59.trans (congrArg some (by kernel_rfl))
  f217 := Tryd.func77.trans (congrArg some (by kernel_rfl))
  f218 := Tryd.func50.trans (congrArg some (by kernel_rfl))
  f219 := Tryd.func68.trans (congrArg some (by kernel_rfl))
  f221 := Tryd.func35.trans (congrArg some (by kernel_rfl))
  f224 := Tryd.func79.trans (congrArg some (by kernel_rfl))
  f225 := Tryd.func78.trans (congrArg some (by kernel_rfl))
  f260 := Tryd.func72.trans (congrArg some (by kernel_rfl))
  f266 := Tryd.func87.trans (congrArg some (by kernel_rfl))
  f267 := Tryd.func80.trans (congrArg some (by kernel_rfl))
  f268 := Tryd.func57.trans (congrArg some (by kernel_rfl))
  f314 := Tryd.func88.trans (congrArg some (by kernel_rfl))
  t0 := Tryd.underlying0
  a0 := Tryd.isAgg0
  z0 := Tryd.sizeOf0
  v0 := Tryd.zeroValue0
  t3 := Tryd.underlying3
  a3 := Tryd.isAgg3
  z3 := Tryd.sizeOf3
  v3 := Tryd.zeroValue3
  t4 := Tryd.underlying4
  a4 := Tryd.isAgg4
  z4 := Tryd.sizeOf4
  v4 := Tryd.zeroValue4
  t5 := Tryd.underlying5
  a5 := Tryd.isAgg5
  z5 := Tryd.sizeOf5
  v5 := Tryd.zeroValue5
  t9 := Tryd.underlying9
  a9 := Tryd.isAgg9
  z9 := Tryd.sizeOf9
  v9 := Tryd.zeroValue9
  t21 := Tryd.underlying21
  a21 := Tryd.isAgg21
  z21 := Tryd.sizeOf21
  v21 := Tryd.zeroValue21
  t31 := Tryd.underlying40
  a31 := Tryd.isAgg40
  z31 := Tryd.sizeOf40
  v31 := Tryd.zeroValue40
  t46 := Tryd.underlying92
  a46 := Tryd.isAgg92
  z46 := Tryd.sizeOf92
  v46 := Tryd.zeroValue92
  t51 := Tryd.underlying113
  a51 := Tryd.isAgg113
  z51 := Tryd.sizeOf113
  v51 := Tryd.zeroValue113
  t105 := Tryd.underlying110
  a105 := Tryd.isAgg110
  z105 := Tryd.sizeOf110
  v105 := Tryd.zeroValue110
  t119 := Tryd.underlying126
  a119 := Tryd.isAgg126
  z119 := Tryd.sizeOf126
  t138 := Tryd.underlying128
  a138 := Tryd.isAgg128
  z138 := Tryd.sizeOf128
  v138 := Tryd.zeroValue128
  t139 := Tryd.underlying129
  a139 := Tryd.isAgg129
  z139 := Tryd.sizeOf129
  v139 := Tryd.zeroValue129
  t146 := Tryd.underlying114
  a146 := Tryd.isAgg114
  z146 := Tryd.sizeOf114
  v146 := Tryd.zeroValue114
  g1 := by kernel_rfl
  g3 := by kernel_rfl
  g4 := by kernel_rfl }
open Go.RowKit Go.Lib in
/-- strings.Split. (LAID: no walk: one application.) -/
theorem Tryd.strings_Split (s sep : ByteArray) (m : Int) (w : World) (hs : s.size < 4294967281) (hm : w.cell? ⟨0, 0, none⟩ = some (.int .i64 m)) (h1 : 1 ≤ sep.size) :
    Calls Tryd.prog 12 #[.string s, .string sep] w fun e w' =>
      e = .returned (.slice (some ⟨w.heap.size, 0, none⟩) (Lib.countB s sep + 1) (Lib.countB s sep + 1)) ∧ w' = w.alloc (.cells ((Lib.splitB sep 0 (Lib.countB s sep) s).map Value.string).toArray 9) := Any.strings_Split Tryd.lays146 (by kernel_rfl) s sep m w hs hm h1
def Tryd.lays105_ren : Go.Shelf.Ren := ⟨fun | 105 => 23 | 212 => 43 | 99 => 44 | 165 => 40 | 166 => 41 | 170 => 27 | 169 => 28 | 263 => 63 | 264 => 64 | 206 => 65 | 240 => 61 | 241 => 62 | 276 => 74 | 277 => 75 | n => n, fun | 9 => 9 | 3 => 3 | 4 => 4 | 20 => 20 | 0 => 0 | 46 => 92 | 109 => 93 | 5 => 5 | 72 => 63 | 76 => 90 | 51 => 113 | 146 => 114 | 53 => 116 | 148 => 117 | 70 => 60 | 37 => 61 | 75 => 89 | 127 => 101 | 164 => 122 | 80 => 68 | n => n, fun | n => n⟩
theorem Tryd.lays105 : Go.Proofs.Lays.n105 Tryd.prog Tryd.lays105_ren := {
  mixed := by kernel_rfl
  f99 := Tryd.func44.trans (congrArg some (by kernel_rfl))
  f105 := Tryd.func23.trans (congrArg some (by kernel_rfl))
  f165 := Tryd.func40.trans (congrArg some (by kernel_rfl))
  f166 := Tryd.func41.trans (congrArg some (by kernel_rfl))
  f169 := Tryd.func28.trans (congrArg some (by kernel_rfl))
  f170 := Tryd.func27.trans (congrArg some (by kernel_rfl))
  f206 := Tryd.func65.trans (congrArg some (by kernel_rfl))
  f212 := Tryd.func43.trans (congrArg some (by kernel_rfl))
  f240 := Tryd.func61.trans (congrArg some (by kernel_rfl))
  f241 := Tryd.func62.trans (congrArg some (by kernel_rfl))
  f263 := Tryd.func63.trans (congrArg some (by kernel_rfl))
  f264 := Tryd.func64.trans (congrArg some (by kernel_rfl))
  f276 := Tryd.func74.trans (congrArg some (by kernel_rfl))
  f277 := Tryd.func75.trans (congrArg some (by kernel_rfl))
  t0 := Tryd.underlying0
  a0 := Tryd.isAgg0
  z0 := Tryd.sizeOf0
  v0 := Tryd.zeroValue0
  t3 := Tryd.underlying3
  a3 := Tryd.isAgg3
  z3 := Tryd.sizeOf3
  v3 := Tryd.zeroValue3
  t4 := Tryd.underlying4
  a4 := Tryd.isAgg4
  z4 := Tryd.sizeOf4
  v4 := Tryd.zeroValue4
  t5 := Tryd.underlying5
  a5 := Tryd.isAgg5
  z5 := Tryd.sizeOf5
  v5 := Tryd.zeroValue5
  t9 := Tryd.underlying9
  a9 := Tryd.isAgg9
  z9 := Tryd.sizeOf9
  v9 := Tryd.zeroValue9
  t20 := Tryd.underlying20
  a20 := Tryd.isAgg20
  z20 := Tryd.sizeOf20
  v20 := Tryd.zeroValue20
  t37 := Tryd.underlying61
  a37 := Tryd.isAgg61
  z37 := Tryd.sizeOf61
  v37 := Tryd.zeroValue61
  t46 := Tryd.underlying92
  a46 := Tryd.isAgg92
  z46 := Tryd.sizeOf92
  v46 := Tryd.zeroValue92
  t51 := Tryd.underlying113
  a51 := Tryd.isAgg113
  z51 := Tryd.sizeOf113
  v51 := Tryd.zeroValue113
  t53 := Tryd.underlying116
  a53 := Tryd.isAgg116
  z53 := Tryd.sizeOf116
  v53 := Tryd.zeroValue116
  t70 := Tryd.underlying60
  a70 := Tryd.isAgg60
  z70 := Tryd.sizeOf60
  v70 := Tryd.zeroValue60
  t72 := Tryd.underlying63
  a72 := Tryd.isAgg63
  z72 := Tryd.sizeOf63
  v72 := Tryd.zeroValue63
  t75 := Tryd.underlying89
  a75 := Tryd.isAgg89
  z75 := Tryd.sizeOf89
  v75 := Tryd.zeroValue89
  t76 := Tryd.underlying90
  a76 := Tryd.isAgg90
  z76 := Tryd.sizeOf90
  v76 := Tryd.zeroValue90
  t109 := Tryd.underlying93
  a109 := Tryd.isAgg93
  z109 := Tryd.sizeOf93
  v109 := Tryd.zeroValue93
  t127 := Tryd.underlying101
  a127 := Tryd.isAgg101
  z127 := Tryd.sizeOf101
  v127 := Tryd.zeroValue101
  t146 := Tryd.underlying114
  a146 := Tryd.isAgg114
  z146 := Tryd.sizeOf114
  v146 := Tryd.zeroValue114
  t148 := Tryd.underlying117
  a148 := Tryd.isAgg117
  z148 := Tryd.sizeOf117
  v148 := Tryd.zeroValue117
  t164 := Tryd.underlying122
  a164 := Tryd.isAgg122
  z164 := Tryd.sizeOf122
  v164 := Tryd.zeroValue122 }
theorem Tryd.Builder_Extra_105 : Builder.Extra Tryd.prog Tryd.lays105_ren := {
  sizeBuilder := by kernel_rfl
  liesBuilder := by kernel_rfl
  t5 := Tryd.underlying5
  a5 := Tryd.isAgg5
  z5 := Tryd.sizeOf5
  v5 := Tryd.zeroValue5
  infoByte := by kernel_rfl
  cellsByte := by kernel_rfl
  sizeByte := by kernel_rfl
  neB5 := by decide }
open Go.RowKit Go.Lib in
/-- **strings.Repeat: count ≥ 0, the result within one allocation: count copies of s.** (LAID: no walk: one application.) -/
theorem Tryd.strings_Repeat (s : ByteArray) (c : Nat) (w : World) (hc : c ≤ 9223372036854775807) (hlen : s.size * c ≤ 140737488355328) :
    Calls Tryd.prog 23 #[.string s, .int .i64 c] w fun e w' => e = .returned (.string ⟨(Lib.repeatL s.data.toList c).toArray⟩) ∧ Below w.heap.size w w' := Any.strings_Repeat Tryd.lays105 Tryd.Builder_Extra_105 s c w hc hlen
end Go.Proofs

/-
  Contracts of library functions, as the package columns and its statements call them.
  Conditions: none.
-/
namespace Go.Proofs.YtikpnhdjjabdmaaDoor
open Go.AM
open Go.Proofs
open Go.Col
open Go.RowKit (Below)
set_option maxRecDepth 100000

/-- Go's table of the powers of ten lies as its initialiser lays it. -/
abbrev Tab10 (w : World) : Prop := Lib.TabIs Tryd.prog w "internal/strconv.uint64pow10" .u64 Lib.pow10Tab
theorem Tab10.later {w w' : World} (h : Tab10 w) (hb : Go.RowKit.Below w.heap.size w w') : Tab10 w' := Go.Joins.tab_stays (g := 3) (by kernel_rfl) h hb (Nat.le_refl _)
theorem c_itoa (w₀ : World) (ht : Tab10 w₀) (h : AHeap) (n : Int) (h0 : -9223372036854775808 ≤ n) (h1 : n ≤ 9223372036854775807) :
    ACall Tryd.prog w₀ 66 [.int .i64 n] h (fun v h' => v = .str (Lib.itoa n) ∧ h' = h) := by
  refine acall_of_callsB (vals := [.int .i64 n]) (val := .string ⟨(Lib.itoa n).toArray⟩) Tryd.func66 rfl rfl (fun φ vs hv => VRs_i hv) (fun φ => rfl) fun w hb => ?_
  refine (Tryd.strconv_Itoa n h0 h1 w (ht.later hb)).mono fun e w' ⟨e1, k, os, e2⟩ => ⟨e1, ?_⟩
  subst e2
  exact Go.Lib.below_grow _ w (Nat.le_refl _) k os
theorem c_trimL (w₀ : World) (h : AHeap) (s : Str) : ACall Tryd.prog w₀ 18 [.str s, .str [32]] h (fun v h' => v = .str (trimL s) ∧ h' = h) := by
  refine acall_of_calls (vals := [.string ⟨⟨s⟩⟩, .string ⟨⟨[32]⟩⟩]) (val := .string ⟨⟨trimL s⟩⟩) Tryd.func18 rfl rfl (fun φ vs hv => VRs_ss hv) (fun φ => rfl) fun w => ?_
  refine (Tryd.strings_TrimLeft_one ⟨⟨s⟩⟩ 32 (by decide) w).mono fun e w' ⟨e1, e2⟩ => ⟨e1, ?_⟩
  subst e2; exact Go.RowKit.Below.refl _ _
theorem c_trimR (w₀ : World) (h : AHeap) (s : Str) (hl : s.length ≤ 9223372036854775807) : ACall Tryd.prog w₀ 71 [.str s, .str [32]] h (fun v h' => v = .str (trimR s) ∧ h' = h) := by
  refine acall_of_calls (vals := [.string ⟨⟨s⟩⟩, .string ⟨⟨[32]⟩⟩]) (val := .string ⟨⟨trimR s⟩⟩) Tryd.func71 rfl rfl (fun φ vs hv => VRs_ss hv) (fun φ => rfl) fun w => ?_
  refine (Tryd.strings_TrimRight_one ⟨⟨s⟩⟩ 32 (by decide) w hl).mono fun e w' ⟨e1, e2⟩ => ⟨e1, ?_⟩
  subst e2; exact Go.RowKit.Below.refl _ _
theorem repeatL_one (b : UInt8) : ∀ n, Go.Lib.repeatL [b] n = List.replicate n b
  | 0 => rfl
  | n + 1 => by
    rw [Go.Lib.repeatL, repeatL_one b n]
    simp [List.replicate_succ]
theorem c_repeat (w₀ : World) (h : AHeap) (b : UInt8) (n : Nat) (hn : n ≤ 140737488355328) : ACall Tryd.prog w₀ 23 [.str [b], .int .i64 n] h (fun v h' => v = .str (List.replicate n b) ∧ h' = h) := by
  refine acall_of_calls (vals := [.string ⟨⟨[b]⟩⟩, .int .i64 n]) (val := .string ⟨⟨List.replicate n b⟩⟩) Tryd.func23 rfl rfl (fun φ vs hv => VRs_si hv) (fun φ => rfl) fun w => ?_
  have := Tryd.strings_Repeat ⟨⟨[b]⟩⟩ n w (by omega) (by show 1 * n ≤ _; omega)
  rw [repeatL_one] at this
  exact this
theorem c_count (w₀ : World) (h : AHeap) (s : Str) (b : UInt8) : ACall Tryd.prog w₀ 29 [.str s, .str [b]] h (fun v h' => v = .int .i64 (s.countP (· == b)) ∧ h' = h) := by
  refine acall_of_calls (vals := [.string ⟨⟨s⟩⟩, .string ⟨⟨[b]⟩⟩]) (val := .int .i64 (s.countP (· == b))) Tryd.func29 rfl rfl (fun φ vs hv => VRs_ss hv) (fun φ => rfl) fun w => ?_
  refine (Tryd.strings_Count_one ⟨⟨s⟩⟩ b w).mono fun e w' ⟨e1, e2⟩ => ⟨e1, ?_⟩
  subst e2; exact Go.RowKit.Below.refl _ _
theorem suffix_one : ∀ (s : Str) (b : UInt8), List.isSuffixOf [b] s = decide (s.getLast? = some b) := by
  intro s b
  rcases List.eq_nil_or_concat s with rfl | ⟨l, x, rfl⟩
  · rfl
  · rw [List.concat_eq_append]
    rw [List.getLast?_append]
    rw [Bool.eq_iff_iff, List.isSuffixOf_iff_suffix]
    simp only [List.getLast?_singleton, Option.some_or, Option.some.injEq, decide_eq_true_eq]
    constructor
    · rintro ⟨t, ht⟩
      exact (List.append_inj' ht rfl).2 |> List.singleton_inj.1 |>.symm
    · rintro rfl
      exact ⟨l, rfl⟩
theorem trimSuffix_nl (s : Str) : Lib.trimSuffix s [10] = trimNL s := by
  unfold Lib.trimSuffix Lib.hasSuffix trimNL
  rw [suffix_one]
  by_cases h : s.getLast? = some 10
  · rw [decide_eq_true h, if_pos rfl, if_pos h, List.dropLast_eq_take]
    rfl
  · rw [decide_eq_false h, if_neg (by decide), if_neg h]
theorem c_trimNL (w₀ : World) (h : AHeap) (s : Str) (hl : s.length ≤ 9223372036854775807) : ACall Tryd.prog w₀ 30 [.str s, .str [10]] h (fun v h' => v = .str (trimNL s) ∧ h' = h) := by
  refine acall_of_calls (vals := [.string ⟨⟨s⟩⟩, .string ⟨⟨[10]⟩⟩]) (val := .string ⟨⟨trimNL s⟩⟩) Tryd.func30 rfl rfl (fun φ vs hv => VRs_ss hv) (fun φ => rfl) fun w => ?_
  refine (Tryd.strings_TrimSuffix ⟨⟨s⟩⟩ ⟨⟨[10]⟩⟩ w hl).mono fun e w' ⟨e1, e2⟩ => ⟨?_, ?_⟩
  · rw [e1]
    show Ending.returned (.string ⟨(Lib.trimSuffix s [10]).toArray⟩) = _
    rw [trimSuffix_nl]
  · subst e2; exact Go.RowKit.Below.refl _ _

/-! ### Split -/
theorem index_one : ∀ (s : Str) (b : UInt8), (Lib.index s [b] = -1 ∧ b ∉ s) ∨ ∃ i : Nat, Lib.index s [b] = i ∧ i < s.length ∧ s = s.take i ++ b :: s.drop (i + 1) ∧ b ∉ s.take i
  | [], b => .inl ⟨rfl, by simp⟩
  | x :: s, b => by
    by_cases h : b = x
    · subst h
      refine .inr ⟨0, ?_, by simp, by simp, by simp⟩
      simp [Lib.index, List.isPrefixOf]
    · have hp : List.isPrefixOf [b] (x :: s) = false := by simp [List.isPrefixOf, h]
      rcases index_one s b with ⟨h1, h2⟩ | ⟨i, h1, h2, h3, h4⟩
      · refine .inl ⟨?_, ?_⟩
        · unfold Lib.index
          rw [hp, if_neg (by decide), h1, if_pos (by decide)]
        · simp [h, h2]
      · refine .inr ⟨i + 1, ?_, by simp; omega, ?_, ?_⟩
        · unfold Lib.index
          rw [hp, if_neg (by decide), h1, if_neg (by simp <;> omega)]
          omega
        · simp only [List.take_succ_cons, List.drop_succ_cons, List.cons_append, List.cons.injEq, true_and]
          exact h3
        · simp only [List.take_succ_cons, List.mem_cons, not_or]
          exact ⟨h, h4⟩
theorem splitNL_none : ∀ {s : Str}, (10 : UInt8) ∉ s → splitNL s = [s]
  | [], _ => rfl
  | x :: s, h => by
    simp only [List.mem_cons, not_or] at h
    unfold splitNL
    rw [if_neg (fun e => h.1 e.symm), splitNL_none h.2]
theorem splitNL_app : ∀ {a : Str} (b : Str), (10 : UInt8) ∉ a → splitNL (a ++ 10 :: b) = a :: splitNL b
  | [], b, _ => by
    simp only [List.nil_append]
    rw [splitNL, if_pos rfl]
  | x :: a, b, h => by
    simp only [List.mem_cons, not_or] at h
    rw [List.cons_append, splitNL, if_neg (fun e => h.1 e.symm), splitNL_app b h.2]
theorem extract_mk (s : Str) (a b : Nat) : ((⟨⟨s⟩⟩ : ByteArray).extract a b) = ⟨⟨(s.drop a).take (b - a)⟩⟩ := by
  apply ByteArray.ext
  apply Array.ext'
  rw [Lib.extract_data]
theorem split_nl : ∀ (n : Nat) (s : Str), s.length ≤ n → Lib.splitB ⟨⟨[10]⟩⟩ 0 (Lib.countB ⟨⟨s⟩⟩ ⟨⟨[10]⟩⟩) ⟨⟨s⟩⟩ = (splitNL s).map fun l => (⟨⟨l⟩⟩ : ByteArray) := by
  intro n
  induction n with
  | zero =>
    intro s hs
    have : s = [] := List.eq_nil_of_length_eq_zero (by omega)
    subst this
    rw [Lib.splitB_miss _ _ _ _ (by decide)]
    rfl
  | succ n ih =>
    intro s hs
    rcases index_one s 10 with ⟨h1, h2⟩ | ⟨i, h1, h2, h3, h4⟩
    · rw [Lib.splitB_miss _ _ _ _ h1, splitNL_none h2]
      rfl
    · have h1' : Lib.indexB ⟨⟨s⟩⟩ ⟨⟨[10]⟩⟩ = (i : Int) := h1
      have hsz : (⟨⟨s⟩⟩ : ByteArray).size = s.length := rfl
      have h10 : (⟨⟨[10]⟩⟩ : ByteArray).size = 1 := rfl
      rw [Lib.countB_hit _ _ i (by decide) h1', Nat.add_comm 1, Lib.splitB_hit _ _ _ _ i h1', h10, hsz, extract_mk, extract_mk, List.drop_zero, Nat.sub_zero, Nat.add_zero, List.take_of_length_le (l := s.drop (i + 1)) (by simp), ih _ (by simp; omega)]
      conv => rhs; rw [h3, splitNL_app _ h4]
      rfl
/-- A call that lays one row and answers the slice of it. -/
theorem acall_of_row {P : Program} {w₀ : World} {f : FuncId} {fn : Func} {h : AHeap} {args : List AVal} {vals : List Value} {cs : List Value} {n : Nat} {e : TypeId} {xs : List AVal} (hf : P.funcs[f]? = some fn) (hname : (fn.name == "runtime.NumGoroutine") = false) (hb : fn.body.isSome = true)
    (hv : ∀ φ vs, VRs φ args vs → vs = vals) (hx : ∀ φ, VRs φ xs cs)
    (hc : ∀ w, Go.RowKit.Below w₀.heap.size w₀ w → Calls P f vals.toArray w fun en w' => en = .returned (.slice (some ⟨w.heap.size, 0, none⟩) n n) ∧ w' = w.alloc (.cells cs.toArray e)) :
    ACall P w₀ f args h (fun v h' => ∃ k, h k = none ∧ v = .slice (.own k) 0 n (.exact n) ∧ h' = h.set k ⟨xs, 0⟩) := by
  intro φ vs w hr hvs
  obtain rfl := hv φ vs hvs
  refine .inl ⟨fn, hf, hname, hb, (hc w hr.below).mono fun en w' ⟨e1, e2⟩ => ?_⟩
  obtain ⟨k, hk, hφ, ht⟩ := hr.freshN
  have hlen : xs.length = cs.length := (VRs_length (hx φ)).symm
  obtain ⟨h1, h2⟩ := hr.alloc k hk hφ xs cs.toArray e 0 0 (by rw [hlen]; simpa using hx φ) no_frz (fun t h' => by rw [ht] at h'; cases h')
  refine ⟨_, e1, _, _, _, h1, ?_, ?_, k, hk, rfl, rfl⟩
  · rw [e2]; exact h2
  · simp only [VR]
    refine ⟨_, rfl, fun _ => ?_⟩
    simp [locAddr, PMap.upd_same]
/-- The longest text that strings.Index takes whole is some number. -/
abbrev MaxL (w : World) : Prop := ∃ m, w.cell? ⟨0, 0, none⟩ = some (.int .i64 m)
theorem strs_map (φ : PMap) : ∀ l : List Str, VRs φ (l.map AVal.str) (l.map fun x => Value.string ⟨⟨x⟩⟩)
  | [] => rfl
  | x :: l => by
    simp only [List.map_cons, VRs]
    exact ⟨_, _, rfl, rfl, strs_map φ l⟩
theorem c_split (w₀ : World) (hm : MaxL w₀) (h : AHeap) (s : Str) (hl : s.length < 4294967281) : ACall Tryd.prog w₀ 12 [.str s, .str [10]] h (fun v h' => ∃ k, h k = none ∧ v = .slice (.own k) 0 (splitNL s).length (.exact (splitNL s).length) ∧ h' = h.set k ⟨(splitNL s).map AVal.str, 0⟩) := by
  obtain ⟨m, hm⟩ := hm
  refine acall_of_row (vals := [.string ⟨⟨s⟩⟩, .string ⟨⟨[10]⟩⟩]) (cs := (splitNL s).map fun x => Value.string ⟨⟨x⟩⟩) (e := 9) Tryd.func12 rfl rfl (fun φ vs hv => VRs_ss hv) (fun φ => strs_map φ _) fun w hb => ?_
  have hlt : 0 < w₀.heap.size := cell_lt hm
  have hw : w.cell? ⟨0, 0, none⟩ = some (.int .i64 m) := (hb.cell (p := ⟨0, 0, none⟩) hlt).trans hm
  refine (Tryd.strings_Split ⟨⟨s⟩⟩ ⟨⟨[10]⟩⟩ m w hl hw (by decide)).mono fun e w' ⟨e1, e2⟩ => ?_
  have hs := split_nl s.length s (Nat.le_refl _)
  have hn : Lib.countB ⟨⟨s⟩⟩ ⟨⟨[10]⟩⟩ + 1 = (splitNL s).length := by
    rw [← List.length_map (f := fun l => (⟨⟨l⟩⟩ : ByteArray)), ← hs, Lib.splitB_all _ (by decide) 0 _ _ rfl]
  rw [e1, e2, hn, hs, List.map_map]
  exact ⟨rfl, rfl⟩

/-! ### Join -/
theorem VRs_strs {φ : PMap} : ∀ {l : List Str} {vs : List Value}, VRs φ (l.map AVal.str) vs → vs = l.map fun x => Value.string ⟨⟨x⟩⟩
  | [], _, h => h
  | x :: l, vs, h => by
    simp only [List.map_cons, VRs, VR] at h
    obtain ⟨v, vs', rfl, rfl, h2⟩ := h
    rw [VRs_strs h2]
    rfl
theorem locAddr_spot {φ : PMap} {l : AM.Loc} {o : Nat} {a : Addr} (h : locAddr φ l o = some a) : a = ⟨a.block, a.off, none⟩ := by
  cases l with
  | base b => simp only [locAddr, Option.some.injEq] at h; subst h; rfl
  | own k =>
    simp only [locAddr, Option.map_eq_some_iff] at h
    obtain ⟨p, _, rfl⟩ := h
    rfl
/-- A row of texts. -/
abbrev IsStrs (w₀ : World) (h : AHeap) (v : AVal) (l : List Str) : Prop := IsL w₀ h 1 v (l.map fun s => [AVal.str s])
theorem flat_strs : ∀ l : List Str, (l.map fun s => [AVal.str s]).flatten = l.map AVal.str
  | [] => rfl
  | x :: l => by simp [flat_strs l]
theorem c_join (w₀ : World) (h : AHeap) (v : AVal) (l : List Str) (sep : Str) (hv : IsStrs w₀ h v l) (hn : l.length ≤ 140737488355328) (hl : (Lib.join l sep).length ≤ 140737488355328) :
    ACall Tryd.prog w₀ 21 [v, .str sep] h (fun r h' => r = .str (Lib.join l sep) ∧ h' = h) := by
  intro φ vals w hr hvs
  simp only [VRs, VR] at hvs
  obtain ⟨u, vs', rfl, hu, u2, vs2, rfl, rfl, rfl⟩ := hvs
  have fin : ∀ {R : Ending → World → Prop}, Calls Tryd.prog 21 #[u, .string ⟨⟨sep⟩⟩] w R → (∀ e w', R e w' → e = .returned (.string ⟨⟨Lib.join l sep⟩⟩) ∧ Below w.heap.size w w') →
      Lands Tryd.prog 21 [u, .string ⟨⟨sep⟩⟩].toArray w fun v w' => ∃ ψ x h', φ.le ψ ∧ HRel w₀ ψ h' w' ∧ VR ψ x v ∧ x = .str (Lib.join l sep) ∧ h' = h := fun hc hq =>
    .inl ⟨_, Tryd.func21, rfl, rfl, hc.mono fun e w' hR => ⟨_, (hq e w' hR).1, φ, .str (Lib.join l sep), h, φ.le_refl, hr.later (hq e w' hR).2, rfl, rfl, rfl⟩⟩
  obtain ⟨xs, hxs⟩ : ∃ xs, xs = l.map fun s => [AVal.str s] := ⟨_, rfl⟩
  unfold IsStrs at hv
  rw [← hxs] at hv
  cases hv with
  | nil =>
    have e0 : l = [] := List.map_eq_nil_iff.1 hxs.symm
    subst e0
    simp only [VR] at hu
    subst hu
    exact fin (Tryd.strings_Join_none none 0 ⟨⟨sep⟩⟩ w) fun e w' ⟨e1, e2⟩ => ⟨e1, by subst e2; exact Below.refl _ _⟩
  | mk lc o n c xs hn' hw hc hlv hcap =>
    subst hxs
    rw [List.length_map] at hn'
    subst hn'
    obtain ⟨a, cp, rfl, ha⟩ := VR_slice_addr hu
    by_cases h0 : l.length = 0
    · have e0 : l = [] := List.eq_nil_of_length_eq_zero h0
      subst e0
      exact fin (Tryd.strings_Join_none (some a) cp ⟨⟨sep⟩⟩ w) fun e w' ⟨e1, e2⟩ => ⟨e1, by subst e2; exact Below.refl _ _⟩
    · have ha' := ha h0
      obtain ⟨us, u1, u2, u3⟩ := cells_read hr lc (l.length * 1) o a ha' (by rw [hc]; exact hlv)
      rw [hc, flat_strs] at u2
      have hus := VRs_strs u2
      have has := locAddr_spot ha'
      have hcell : ∀ (j : Nat) (x : ByteArray), (l.map fun x => (⟨⟨x⟩⟩ : ByteArray))[j]? = some x → w.cell? ⟨a.block, a.off + j, none⟩ = some (.string x) := fun j x hj => by
        have := u3 j (.string x) (by rw [hus]; simp only [List.getElem?_map, Option.map_eq_some_iff] at hj ⊢; obtain ⟨y, hy, rfl⟩ := hj; exact ⟨y, hy, rfl⟩)
        rw [has] at this
        by_cases hj0 : j = 0
        · subst hj0
          simpa [Addr.add] using this
        · simpa [Addr.add, hj0] using this
      have hblk : a.block < w.heap.size := by
        cases hl0 : l with
        | nil => rw [hl0] at h0; exact absurd rfl h0
        | cons x r => exact cell_lt (hcell 0 ⟨⟨x⟩⟩ (by rw [hl0]; rfl))
      have hcp : l.length ≤ cp := by
        cases c with
        | exact c =>
          simp only [VR] at hu
          obtain ⟨a', e1, _⟩ := hu
          cases e1
          exact hcap
        | grow es =>
          simp only [VR] at hu
          obtain ⟨k, p, c', a', _, _, e1, hle, _⟩ := hu
          cases e1
          exact hle
      have hmm : (l.map fun x => (⟨⟨x⟩⟩ : ByteArray)).map (fun x => x.data.toList) = l := by rw [List.map_map]; exact List.map_id _
      have hj := Tryd.strings_Join a.block a.off cp (l.map fun x => (⟨⟨x⟩⟩ : ByteArray)) ⟨⟨sep⟩⟩ w hcell hblk (by rw [List.length_map]; exact hn) (by rw [List.length_map]; exact hcp) (by rw [hmm]; exact hl)
      rw [List.length_map, hmm, ← has] at hj
      exact fin hj fun e w' ⟨e1, e2⟩ => ⟨e1, e2⟩

/-! ### IndexFunc -/
theorem pred_read (w : World) : PredAtRunes Tryd.prog 55 #[] (fun x => decide ((x : Int) < 32) || decide (126 < (x : Int))) w := fun W x hx hb => by
  show Calls Tryd.prog 55 #[.int .i32 x] W _
  go_enter Tryd.func55, Tryd.ntmps55
  go_wp2
  all_goals (go_ret; exact ⟨by simp_all, 0, rfl⟩)
def badI (s : Str) : Int := match badAt s with | some i => (i : Int) | none => -1
theorem badAt_drop {s : Str} {pos : Nat} (hp : pos < s.length) : (badAt (s.drop pos)) = if okB (s.getD pos 0) = true then (badAt (s.drop (pos + 1))).map (· + 1) else some 0 := by
  unfold badAt
  rw [List.drop_eq_getElem_cons hp, List.findIdx?_cons]
  simp only [List.getD, List.getElem?_eq_getElem hp, Option.getD_some]
  cases okB s[pos] <;> simp
theorem idx_bad (s : Str) : ∀ (f pos : Nat), s.length ≤ pos + f → Lib.idxFuncFrom (fun x => decide ((x : Int) < 32) || decide (126 < (x : Int))) true ⟨⟨s⟩⟩ f pos = match badAt (s.drop pos) with | some i => ((pos + i : Nat) : Int) | none => -1
  | 0, pos, h => by
    rw [List.drop_of_length_le (by omega)]
    rfl
  | f + 1, pos, h => by
    unfold Lib.idxFuncFrom
    have hsz : (⟨⟨s⟩⟩ : ByteArray).size = s.length := rfl
    rw [hsz]
    by_cases hp : pos < s.length
    · rw [if_pos hp, badAt_drop hp, Lib.decode_N]
      show (if (decide ((Lib.decodeN (s.length - pos) (s.getD pos 0).toNat (s.getD (pos + 1) 0).toNat (s.getD (pos + 2) 0).toNat (s.getD (pos + 3) 0).toNat).1 < (32 : Int)) || _) = true then _ else _) = _
      by_cases ha : (s.getD pos 0).toNat < 128
      · rw [Lib.decodeN_ascii _ _ _ _ _ ha]
        simp only
        by_cases hk : okB (s.getD pos 0) = true
        · rw [if_pos hk]
          unfold okB at hk
          simp only [Bool.and_eq_true, decide_eq_true_eq] at hk
          rw [if_neg (by simp only [Bool.or_eq_true, decide_eq_true_eq]; omega), idx_bad s f (pos + 1) (by omega)]
          cases badAt (s.drop (pos + 1)) with
          | none => rfl
          | some i => simp only [Option.map_some]; congr 1; omega
        · rw [if_neg hk]
          unfold okB at hk
          simp only [Bool.and_eq_true, decide_eq_true_eq] at hk
          rw [if_pos (by simp only [Bool.or_eq_true, decide_eq_true_eq]; omega)]
          simp
      · have hk : ¬ okB (s.getD pos 0) = true := by unfold okB; simp only [Bool.and_eq_true, decide_eq_true_eq]; omega
        rw [if_neg hk, if_pos]
        · simp
        · have := Lib.decodeN_cases (s.length - pos) (s.getD pos 0).toNat (s.getD (pos + 1) 0).toNat (s.getD (pos + 2) 0).toNat (s.getD (pos + 3) 0).toNat
          rcases this with h1 | h1 | h1 | h1 | h1
          · omega
          · rw [h1.2.2.2.2]; simp only [Bool.or_eq_true, decide_eq_true_eq]; omega
          · rw [h1.2.2.2.2.2]; simp only [Bool.or_eq_true, decide_eq_true_eq]; omega
          · simp only [Bool.or_eq_true, decide_eq_true_eq]; omega
          · rw [h1]; rfl
    · rw [if_neg hp, List.drop_of_length_le (by omega)]
      rfl
theorem c_bad (w₀ : World) (h : AHeap) (s : Str) : ACall Tryd.prog w₀ 54 [.str s, .func 55 []] h (fun v h' => v = .int .i64 (badI s) ∧ h' = h) := by
  refine acall_of_calls (vals := [.string ⟨⟨s⟩⟩, .func (.func 55) #[] #[]]) (val := .int .i64 (badI s)) Tryd.func54 rfl rfl (fun φ vs hv => ?_) (fun φ => rfl) fun w => ?_
  · simp only [VRs, VR] at hv
    obtain ⟨v, vs', rfl, rfl, v2, vs2, rfl, ⟨cs, rfl, rfl⟩, rfl⟩ := hv
    rfl
  · refine (Tryd.strings_IndexFunc_runes 55 #[] (enters_of Tryd.func55 (by kernel_rfl) rfl) _ ⟨⟨s⟩⟩ w (pred_read w)).mono fun e w' ⟨e1, e2⟩ => ⟨?_, e2⟩
    rw [e1]
    unfold Lib.idxFunc
    rw [idx_bad s _ 0 (by show s.length ≤ 0 + s.length; omega), List.drop_zero]
    unfold badI
    cases badAt s with
    | none => rfl
    | some i => simp only [Nat.zero_add]
end Go.Proofs.YtikpnhdjjabdmaaDoor

