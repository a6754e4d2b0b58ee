/-
  An assertion layer over the model's wp, part T: one rule for statements of open order: operations that read, call or lay blocks in any order, late ones that only look at slots, and a chained tail.
  Conditions: none. Nothing here is about a particular program.
-/
import Derived.Test.YthiiakghjoeikaaGreatDoorAmS
set_option linter.unusedSimpArgs false
set_option linter.unnecessarySimpa false
set_option linter.unusedVariables false
namespace Go.AM
open Go.RowKit (Below)

/-! ### What an operation does hangs on what it looks at -/
theorem ev_mem {s : Slots} {L : List Nat} {op : Op} (hL : ∀ t ∈ opTmps op, t ∈ L) : ∀ x ∈ op.operands.toList, ev (s.keep L) x = ev s x := by
  intro x hx
  refine ev_keep fun t ht => hL t ?_
  subst ht
  exact List.mem_filterMap.2 ⟨_, hx, rfl⟩
theorem evs_mem {s s' : Slots} : ∀ {xs : List Operand}, (∀ x ∈ xs, ev s' x = ev s x) → evs s' xs = evs s xs
  | [], _ => rfl
  | x :: xs, h => by
    have := evs_mem (s := s) (s' := s') (xs := xs) fun y hy => h y (List.mem_cons_of_mem _ hy)
    simp only [evs, List.map_cons] at this ⊢
    rw [h x List.mem_cons_self, this]
theorem evP_mem {s s' : Slots} : ∀ {xs : List (Nat × Operand)}, (∀ p ∈ xs, ev s' p.2 = ev s p.2) → evP s' xs = evP s xs
  | [], _ => rfl
  | x :: xs, h => by
    have := evP_mem (s := s) (s' := s') (xs := xs) fun y hy => h y (List.mem_cons_of_mem _ hy)
    simp only [evP, List.map_cons] at this ⊢
    rw [h x List.mem_cons_self, this]
theorem evO_mem {s s' : Slots} {x : Option Operand} (h : ∀ y, x = some y → ev s' y = ev s y) : evO s' x = evO s x := by
  cases x with
  | none => rfl
  | some y => simp only [evO, h y rfl]

theorem pop_congr {P : Program} {w₀ : World} {h : AHeap} {s s' : Slots} (op : Op) (E : ∀ x ∈ op.operands.toList, ev s' x = ev s x) : pop P w₀ h s' op = pop P w₀ h s op := by
  cases op with
  | move x => simp only [pop, E x (by simp [Op.operands])]
  | assign x => simp only [pop, E x (by simp [Op.operands])]
  | pick c a b => simp only [pop, E c (by simp [Op.operands]), E a (by simp [Op.operands]), E b (by simp [Op.operands])]
  | binOp o t x y u => simp only [pop, E x (by simp [Op.operands]), E y (by simp [Op.operands])]
  | unOp o t x => simp only [pop, E x (by simp [Op.operands])]
  | convert a b x => simp only [pop, E x (by simp [Op.operands])]
  | load t x => simp only [pop, E x (by simp [Op.operands])]
  | field t x f => simp only [pop, E x (by simp [Op.operands])]
  | fieldAddr t x f => simp only [pop, E x (by simp [Op.operands])]
  | index t x i => simp only [pop, E x (by simp [Op.operands]), E i (by simp [Op.operands])]
  | indexAddr t x i => simp only [pop, E x (by simp [Op.operands]), E i (by simp [Op.operands])]
  | slice t x lo hi mx =>
    simp only [pop, E x (by simp [Op.operands])]
    rw [evO_mem (s := s) (s' := s') (x := lo) fun y hy => E y (by subst hy; simp [Op.operands]), evO_mem (s := s) (s' := s') (x := hi) fun y hy => E y (by subst hy; simp [Op.operands]), evO_mem (s := s) (s' := s') (x := mx) fun y hy => E y (by subst hy; simp [Op.operands])]
  | extract x i => simp only [pop, E x (by simp [Op.operands])]
  | nilCheck x => simp only [pop, E x (by simp [Op.operands])]
  | build t ps =>
    simp only [pop]
    rw [evP_mem (s := s) (s' := s') fun p hp => E p.2 (by simp only [Op.operands, List.toList_toArray, List.mem_map]; exact ⟨p, hp, rfl⟩)]
  | makeFunc fn first cap =>
    simp only [pop]
    rw [evs_mem (s := s) (s' := s') (xs := cap.toList) fun x hx => E x (by simp only [Op.operands, Array.toList_append, List.mem_append]; exact .inr hx)]
  | makeInterface t x => simp only [pop, E x (by simp [Op.operands])]
  | call c =>
    obtain ⟨callee, args, ts⟩ := c
    simp only [pop]
    cases callee with
    | builtin b =>
      simp only
      rw [evs_mem (s := s) (s' := s') (xs := args.toList) fun x hx => E x (by simp only [Op.operands, Call.operands, Array.toList_append, List.mem_append]; exact .inr hx)]
    | _ => rfl
  | _ => rfl

theorem eop_congr {P : Program} {w₀ : World} {h : AHeap} {s s' : Slots} (op : Op) {K : AVal → AHeap → Prop} (E : ∀ x ∈ op.operands.toList, ev s' x = ev s x) : eop P w₀ h s' op K = eop P w₀ h s op K := by
  have hp := pop_congr (P := P) (w₀ := w₀) (h := h) (s := s) (s' := s') op E
  cases op with
  | box e x => simp only [eop, E x (by simp [Op.operands])]
  | buildSlice t n ps =>
    simp only [eop]
    rw [evP_mem (s := s) (s' := s') fun p hp => E p.2 (by simp only [Op.operands, List.toList_toArray, List.mem_map]; exact ⟨p, hp, rfl⟩)]
  | store t x v => simp only [eop, E x (by simp [Op.operands]), E v (by simp [Op.operands])]
  | makeSlice t n c => simp only [eop, E n (by simp [Op.operands]), E c (by simp [Op.operands])]
  | convert a b x => simp only [eop, E x (by simp [Op.operands]), hp]
  | call c =>
    obtain ⟨callee, args, ts⟩ := c
    have hx : evs s' args.toList = evs s args.toList := evs_mem fun x hx => E x (by simp only [Op.operands, Call.operands, Array.toList_append, List.mem_append]; exact .inr hx)
    cases callee with
    | value f =>
      simp only [eop, hx]
      rw [E f (by simp [Op.operands, Call.operands])]
    | builtin b => cases b <;> simp only [eop, hx] <;> rw [hp]
    | invoke r m => simp only [eop, hp]
  | alloc e => rfl
  | _ => simp only [eop, hp]

/-! ### Names that a value bears -/
mutual
/-- Each own block that the value names has a place. -/
def AVal.okIn (f : Nat → Bool) : AVal → Prop
  | .ptr (.own k) _ => f k = true
  | .slice (.own k) _ len c => match c with
    | .exact c => (c ≠ 0 ∨ len ≠ 0 → f k = true)
    | .grow _ => f k = true
  | .func _ cs => okInL f cs
  | .iface _ x => x.okIn f
  | .agg cs => okInL f cs
  | .tuple cs => okInL f cs
  | _ => True
def okInL (f : Nat → Bool) : List AVal → Prop
  | [] => True
  | x :: xs => x.okIn f ∧ okInL f xs
end

mutual
theorem okIn_of_VR {φ : PMap} : ∀ (x : AVal) (v : Value), VR φ x v → x.okIn (fun k => (φ k).isSome)
  | .dead, _, _ => by simp only [AVal.okIn]
  | .bool _, _, _ => by simp only [AVal.okIn]
  | .int _ _, _, _ => by simp only [AVal.okIn]
  | .str _, _, _ => by simp only [AVal.okIn]
  | .nilPtr, _, _ => by simp only [AVal.okIn]
  | .nilSlice, _, _ => by simp only [AVal.okIn]
  | .nilFunc, _, _ => by simp only [AVal.okIn]
  | .nilIface, _, _ => by simp only [AVal.okIn]
  | .nilMap, _, _ => by simp only [AVal.okIn]
  | .ptr (.base b) _, _, _ => by simp only [AVal.okIn]
  | .ptr (.own k) o, v, h => by
    simp only [VR, locAddr, Option.map_eq_some_iff] at h
    obtain ⟨a, ⟨p, hp, _⟩, _⟩ := h
    simp only [AVal.okIn, hp, Option.isSome_some]
  | .slice (.base b) _ _ _, _, _ => by simp only [AVal.okIn]
  | .slice (.own k) o len (.exact c), v, h => by
    simp only [VR, locAddr, Option.map_eq_some_iff] at h
    obtain ⟨a, _, h2⟩ := h
    simp only [AVal.okIn]
    intro hc
    obtain ⟨p, hp, _⟩ := h2 hc
    simp only [hp, Option.isSome_some]
  | .slice (.own k) o len (.grow es), v, h => by
    simp only [VR] at h
    obtain ⟨k', p, c, a, e, hp, _⟩ := h
    cases e
    simp only [AVal.okIn, hp, Option.isSome_some]
  | .func f cs, v, h => by
    simp only [VR] at h
    obtain ⟨vs, _, h2⟩ := h
    simp only [AVal.okIn]
    exact okInL_of_VRs cs vs h2
  | .iface t x, v, h => by
    simp only [VR] at h
    obtain ⟨y, _, h2⟩ := h
    simp only [AVal.okIn]
    exact okIn_of_VR x y h2
  | .agg cs, v, h => by
    simp only [VR] at h
    obtain ⟨vs, _, h2⟩ := h
    simp only [AVal.okIn]
    exact okInL_of_VRs cs vs h2
  | .tuple cs, v, h => by
    simp only [VR] at h
    obtain ⟨vs, _, h2⟩ := h
    simp only [AVal.okIn]
    exact okInL_of_VRs cs vs h2
theorem okInL_of_VRs {φ : PMap} : ∀ (xs : List AVal) (vs : List Value), VRs φ xs vs → okInL (fun k => (φ k).isSome) xs
  | [], _, _ => by simp only [okInL]
  | x :: xs, vs, h => by
    simp only [VRs] at h
    obtain ⟨v, vs', _, h1, h2⟩ := h
    simp only [okInL]
    exact ⟨okIn_of_VR x v h1, okInL_of_VRs xs vs' h2⟩
end

mutual
theorem VR_limit {φ ψ : PMap} {f : Nat → Bool} (hf : ∀ k, f k = true → φ k = ψ k) : ∀ (x : AVal) (v : Value), x.okIn f → VR φ x v → VR ψ x v
  | .dead, _, _, h => h
  | .bool _, _, _, h => h
  | .int _ _, _, _, h => h
  | .str _, _, _, h => h
  | .nilPtr, _, _, h => h
  | .nilSlice, _, _, h => h
  | .nilFunc, _, _, h => h
  | .nilIface, _, _, h => h
  | .nilMap, _, _, h => h
  | .ptr (.base b) _, _, _, h => h
  | .ptr (.own k) o, v, ok, h => by
    simp only [AVal.okIn] at ok
    simp only [VR, locAddr, ← hf k ok] at h ⊢
    exact h
  | .slice (.base b) _ _ (.exact c), _, _, h => h
  | .slice (.base b) _ _ (.grow c), v, _, h => by
    simp only [VR] at h
    obtain ⟨k, p, c, a, e, _⟩ := h
    cases e
  | .slice (.own k) o len (.exact c), v, ok, h => by
    simp only [AVal.okIn] at ok
    simp only [VR, locAddr] at h ⊢
    obtain ⟨a, h1, h2⟩ := h
    exact ⟨a, h1, fun hc => by rw [← hf k (ok hc)]; exact h2 hc⟩
  | .slice (.own k) o len (.grow es), v, ok, h => by
    simp only [AVal.okIn] at ok
    simp only [VR] at h ⊢
    obtain ⟨k', p, c, a, e, hp, rest⟩ := h
    cases e
    exact ⟨k, p, c, a, rfl, by rw [← hf k ok]; exact hp, rest⟩
  | .func f cs, v, ok, h => by
    simp only [AVal.okIn] at ok
    simp only [VR] at h ⊢
    obtain ⟨vs, h1, h2⟩ := h
    exact ⟨vs, h1, VRs_limit hf cs vs ok h2⟩
  | .iface t x, v, ok, h => by
    simp only [AVal.okIn] at ok
    simp only [VR] at h ⊢
    obtain ⟨y, h1, h2⟩ := h
    exact ⟨y, h1, VR_limit hf x y ok h2⟩
  | .agg cs, v, ok, h => by
    simp only [AVal.okIn] at ok
    simp only [VR] at h ⊢
    obtain ⟨vs, h1, h2⟩ := h
    exact ⟨vs, h1, VRs_limit hf cs vs ok h2⟩
  | .tuple cs, v, ok, h => by
    simp only [AVal.okIn] at ok
    simp only [VR] at h ⊢
    obtain ⟨vs, h1, h2⟩ := h
    exact ⟨vs, h1, VRs_limit hf cs vs ok h2⟩
theorem VRs_limit {φ ψ : PMap} {f : Nat → Bool} (hf : ∀ k, f k = true → φ k = ψ k) : ∀ (xs : List AVal) (vs : List Value), okInL f xs → VRs φ xs vs → VRs ψ xs vs
  | [], _, _, h => h
  | x :: xs, vs, ok, h => by
    simp only [okInL] at ok
    simp only [VRs] at h ⊢
    obtain ⟨v, vs', h0, h1, h2⟩ := h
    exact ⟨v, vs', h0, VR_limit hf x v ok.1 h1, VRs_limit hf xs vs' ok.2 h2⟩
end

mutual
theorem okIn_mono {f g : Nat → Bool} (hfg : ∀ k, f k = true → g k = true) : ∀ (x : AVal), x.okIn f → x.okIn g
  | .dead, h => h
  | .bool _, h => h
  | .int _ _, h => h
  | .str _, h => h
  | .nilPtr, h => h
  | .nilSlice, h => h
  | .nilFunc, h => h
  | .nilIface, h => h
  | .nilMap, h => h
  | .ptr (.base b) _, h => h
  | .ptr (.own k) o, h => by simp only [AVal.okIn] at h ⊢; exact hfg k h
  | .slice (.base b) _ _ _, h => h
  | .slice (.own k) o len (.exact c), h => by simp only [AVal.okIn] at h ⊢; exact fun hc => hfg k (h hc)
  | .slice (.own k) o len (.grow es), h => by simp only [AVal.okIn] at h ⊢; exact hfg k h
  | .func f cs, h => by simp only [AVal.okIn] at h ⊢; exact okInL_mono hfg cs h
  | .iface t x, h => by simp only [AVal.okIn] at h ⊢; exact okIn_mono hfg x h
  | .agg cs, h => by simp only [AVal.okIn] at h ⊢; exact okInL_mono hfg cs h
  | .tuple cs, h => by simp only [AVal.okIn] at h ⊢; exact okInL_mono hfg cs h
theorem okInL_mono {f g : Nat → Bool} (hfg : ∀ k, f k = true → g k = true) : ∀ (xs : List AVal), okInL f xs → okInL g xs
  | [], h => h
  | x :: xs, h => by simp only [okInL] at h ⊢; exact ⟨okIn_mono hfg x h.1, okInL_mono hfg xs h.2⟩
end

/-- Names that nothing bears may be taken back. -/
theorem HRel.limit {w₀ w w' : World} {φ ψ ψ' : PMap} {g : AHeap} (hr : HRel w₀ φ g w) (hr' : HRel w₀ ψ g w') (hl : ψ'.le ψ) (hk : ∀ k, (φ k).isSome = true → ψ k = ψ' k) : HRel w₀ ψ' g w' := by
  refine ⟨hr'.below, fun k b hb => ?_, fun k k' b b' p p' hb hb' hp hp' => hr'.inj k k' b b' p p' hb hb' (hl _ _ hp) (hl _ _ hp'), fun k p hp => hr'.lt k p (hl _ _ hp), ?_, fun k p hp => hr'.typ k p (hl _ _ hp)⟩
  · obtain ⟨p, hp, h1, h2⟩ := hr'.own k b hb
    obtain ⟨q, hq, _, c2⟩ := hr.own k b hb
    refine ⟨p, by rw [← hk k (by simp [hq])]; exact hp, h1, ?_⟩
    obtain ⟨cs, e, lo, hi, r1, r2, r3, r4, r5, r6⟩ := h2.row
    obtain ⟨cs', e', lo', hi', s1, s2, s3, s4, s5, s6⟩ := c2.row
    exact ⟨cs, e, lo, hi, r1, r2, r3, r4, VRs_limit (f := fun k => (φ k).isSome) (fun k hf => hk k hf) _ _ (okInL_of_VRs _ _ s5) r5, r6⟩
  · obtain ⟨N, hN⟩ := hr'.fin
    refine ⟨N, fun k hk' => ?_⟩
    cases e : ψ' k with
    | none => rfl
    | some p => have := hl k p e; rw [hN k hk'] at this; cases this

/-- 0: lays a block; 1: calls; 2: reads; 3: none of these. -/
def kindF (P : Program) : Op → Nat
  | .alloc _ => 0
  | .box _ _ => 0
  | .buildSlice _ _ _ => 0
  | .makeSlice _ _ _ => 0
  | .store _ _ _ => 3
  | .convert src dst _ => if eStrBytes P src dst = true then 0 else if eSame P src dst = true then 3 else 2
  | .call c => match c.callee with
    | .value _ => 1
    | .builtin .append => 3
    | .builtin .copy => 3
    | .builtin _ => 2
    | .invoke _ _ => 3
  | _ => 2

theorem kindF_pure {P : Program} {op : Op} (h : kindF P op = 2) : pureOp P op = true := by
  cases op <;> simp only [kindF, pureOp] at h ⊢ <;> first | rfl | (cases h; done) | skip
  case convert a b x =>
    split at h
    · cases h
    · split at h
      · cases h
      · rename_i h1 h2
        simp [h1, h2]
  case call c =>
    obtain ⟨callee, args, ts⟩ := c
    cases callee with
    | value f => simp at h
    | invoke r m => simp at h
    | builtin b => cases b <;> simp at h ⊢

/-- An operation that lays a block does so under a name of our choice, beside whatever else lies there. -/
theorem lay_ok {P : Program} {w₀ : World} {h : AHeap} {s : Slots} {op : Op} {K : AVal → AHeap → Prop} (hk0 : kindF P op = 0) (he : eop P w₀ h s op K) :
    ∃ (val : Nat → AVal) (b : Blk), (∀ k, h k = none → K (val k) (h.set k b)) ∧
      ∀ (k : Nat) (o : Oper), o.op = op → ∀ {w : World} {φ : PMap} {g : AHeap} {n : Nat} {a : Act} {next : Act → World → Prop} {Q : Exit → Act → World → Prop}, HRel w₀ φ g w → SRel φ n s a → g k = none → φ k = none → tyOf k = none →
        (∀ p v w', HRel w₀ (φ.upd k p) (g.set k b) w' → VR (φ.upd k p) (val k) v → next (a.put o.dst v) w') → o.wp P a w next Q := by
  cases op <;> simp only [kindF] at hk0 <;> first
    | (cases hk0; done)
    | skip
  case alloc e =>
    simp only [eop] at he
    split at he <;> first | exact he.elim | skip
    rename_i z hz
    refine ⟨fun k => .ptr (.own k) 0, ⟨z.cells.toList.map absS, 0⟩, he, ?_⟩
    rintro k ⟨dst, op, type, pos, after, guard⟩ rfl w φ g n a next Q hr hs hk hφ hkt hn
    obtain ⟨e1, e2⟩ := hr.alloc k hk hφ (z.cells.toList.map absS) z.cells e 0 0 (by rw [List.length_map, List.take_length]; exact VRs_absS φ z.cells.toList) no_frz (fun t ht => by rw [hkt] at ht; cases ht)
    refine wp_value (v := .pointer (some ⟨w.heap.size, 0, none⟩)) (w' := w.alloc (.cells z.cells e)) ?_ (hn _ _ _ e2 (VR_new _ _ _))
    simp [execOp, Instr.alloc, run_zero' hz, newVar, newRow]
  case box e x =>
    simp only [eop] at he
    obtain ⟨hl, he⟩ := he
    refine ⟨fun k => .ptr (.own k) 0, ⟨(ev s x).cells, 0⟩, he, ?_⟩
    rintro k ⟨dst, op, type, pos, after, guard⟩ rfl w φ g n a next Q hr hs hk hφ hkt hn
    have hx := VRs_cells (hs.ev x) hl
    have hlen := VRs_length hx
    obtain ⟨e1, e2⟩ := hr.alloc k hk hφ (ev s x).cells (a.eval x).cells e 0 0 (by rw [← hlen, List.take_length]; exact hx) no_frz (fun t ht => by rw [hkt] at ht; cases ht)
    refine wp_value (v := .pointer (some ⟨w.heap.size, 0, none⟩)) (w' := w.alloc (.cells (a.eval x).cells e)) ?_ (hn _ _ _ e2 (VR_new _ _ _))
    simp [execOp, Instr.box, newVar, newRow]
  case buildSlice t m parts =>
    simp only [eop] at he
    split at he <;> first | exact he.elim | skip
    rename_i cs hb
    refine ⟨fun k => .slice (.own k) 0 m (.exact m), ⟨cs, 0⟩, he, ?_⟩
    rintro k ⟨dst, op, type, pos, after, guard⟩ rfl w φ g n a next Q hr hs hk hφ hkt hn
    unfold buildSliceA at hb
    split at hb <;> first | (cases hb; done) | skip
    rename_i e ht
    split at hb <;> first | (cases hb; done) | skip
    rename_i es z hes hz
    split at hb <;> first | (cases hb; done) | skip
    rename_i hc
    obtain ⟨c1, c2, c3⟩ := hc
    have hzs : VRs φ (z.cells.toList.map absS) z.cells.toList := VRs_absS φ _
    obtain ⟨r, f1, f2⟩ := fill_ok (φ := φ) (fun i => some (i * es, es)) (vs := (parts.map fun (i, x) => (i, a.eval x)).toList) (us := (Array.range (m * es)).map (z.cells[· % z.cells.size]!)) (by simpa using hs.evP parts.toList) (VRs_rep hzs (by omega) (m * es)) hb
    have hlen := VRs_length f2
    simp only [Array.length_toList] at hlen
    have hcl : cs.length = m * es := by rw [fill_length _ hb]; simp [repCells]
    obtain ⟨e1, e2⟩ := hr.alloc k hk hφ cs r e 0 0 (by rw [← hlen, ← Array.length_toList, List.take_length]; exact f2) no_frz (fun t ht => by rw [hkt] at ht; cases ht)
    refine wp_value (v := .slice (some ⟨w.heap.size, 0, none⟩) m m) (w' := w.alloc (.cells r e)) ?_ (hn _ _ _ e2 ?_)
    · have hbig : ¬ (m * es > 2 ^ 24) := by omega
      have hb' : ¬ (16777216 < m * es) := by omega
      by_cases hz0 : m * es = 0
      · have hr0 : r = #[] := Array.eq_empty_of_size_eq_zero (by omega)
        have harr : ((Array.range (m * es)).map (z.cells[· % z.cells.size]!)) = #[] := by rw [hz0]; simp
        rw [harr] at f1
        simp at f1
        simp [execOp, Instr.buildSlice, run_underlying' ht, run_sizeOf' hes, hz0, Array.range_zero', f1, newRow]
      · simp [execOp, Instr.buildSlice, run_underlying' ht, run_sizeOf' hes, hz0, hb', run_zero' hz]
        simp at f1
        simp [f1, newRow]
    · simp only [VR]
      exact ⟨_, rfl, fun _ => by simp [locAddr, PMap.upd]⟩
  case makeSlice t m c =>
    simp only [eop] at he
    unfold eMake at he
    split at he <;> first | exact he.elim | skip
    rename_i e len cap ht hlen hcap
    split at he <;> first | exact he.elim | skip
    rename_i es by' z hes hby hz
    obtain ⟨⟨g1, g2, g3, g4, g5, g6⟩, he⟩ := he
    refine ⟨fun k => .slice (.own k) 0 len.toNat (.exact cap.toNat), ⟨repCells (z.cells.toList.map absS) (cap.toNat * es), 0⟩, he, ?_⟩
    rintro k ⟨dst, op, type, pos, after, guard⟩ rfl w φ g n a next Q hr hs hk hφ hkt hn
    have i1 : ∃ k, a.eval m = .int k len := by
      have := hs.ev m
      revert hlen this
      cases ev s m <;> simp [intA, VR]
      intro e1 e2
      subst e1
      exact ⟨_, e2⟩
    have i2 : ∃ k, a.eval c = .int k cap := by
      have := hs.ev c
      revert hcap this
      cases ev s c <;> simp [intA, VR]
      intro e1 e2
      subst e1
      exact ⟨_, e2⟩
    obtain ⟨k1, i1⟩ := i1
    obtain ⟨k2, i2⟩ := i2
    simp only [szOf, Option.map_eq_some_iff] at hes
    obtain ⟨ii, hi, hes⟩ := hes
    simp only [byOf, hi, Option.map_some, Option.some.injEq] at hby
    simp only [zeOf, hi, Option.bind_some] at hz
    subst hby
    have hmake := run_make (P := P) w t e ii z ht hi hz k1 k2 len cap g1 g2 g3 g4
    rw [hes] at hmake
    have hzs : VRs φ (z.cells.toList.map absS) z.cells.toList := VRs_absS φ _
    have hrep := VRs_rep hzs (by omega) (cap.toNat * es)
    obtain ⟨e1, e2⟩ := hr.alloc k hk hφ (repCells (z.cells.toList.map absS) (cap.toNat * es)) (madeCells z.cells (cap.toNat * es)) e 0 0 (by
      have hl := VRs_length hrep
      rw [← hl]
      unfold madeCells
      rw [List.take_length]
      exact hrep) no_frz (fun t ht => by rw [hkt] at ht; cases ht)
    refine wp_value (v := .slice (some ⟨w.heap.size, 0, none⟩) len.toNat cap.toNat) (w' := w.alloc (.cells (madeCells z.cells (cap.toNat * es)) e)) ?_ (hn _ _ _ e2 ?_)
    · simp only [execOp, i1, i2]
      exact run_value hmake
    · simp only [VR]
      exact ⟨_, rfl, fun _ => by simp [locAddr, PMap.upd]⟩
  case convert src dst' x =>
    split at hk0
    · rename_i hc
      simp only [eop] at he
      split at he
      · rename_i b hb
        rw [if_pos hc] at he
        obtain ⟨g1, he⟩ := he
        refine ⟨fun k => .slice (.own k) 0 b.length (.grow 1), ⟨byteCells b, 0⟩, he, ?_⟩
        rintro k ⟨dst, op, type, pos, after, guard⟩ rfl w φ g n a next Q hr hs hk hφ hkt hn
        unfold eStrBytes at hc
        split at hc <;> first | (cases hc; done) | skip
        rename_i e h1 h2
        split at hc <;> first | (cases hc; done) | skip
        rename_i h3
        have hx := hs.ev x
        rw [hb] at hx
        simp only [VR] at hx
        have hcap : b.length ≤ grownCap w b.length 0 e := by
          simp only [grownCap, Question.cut]
          omega
        have hrun := run_bytes_of_string (P := P) w src dst' e ⟨⟨b⟩⟩ h1 h2 h3
        rw [bsize] at hrun
        generalize hG : grownCap w b.length 0 e = G at *
        have hrow : (bytesRow ⟨⟨b⟩⟩ G).toList = (b.map fun c => Value.int .u8 c.toNat) ++ List.replicate (G - b.length) (.int .u8 0) := by
          simp [bytesRow, bsize]
        have hsize : (bytesRow ⟨⟨b⟩⟩ G).size = G := by
          rw [← Array.length_toList, hrow]
          simp
          omega
        rw [hsize] at hrun
        have hcells : (byteCells b).length = b.length := byteCells_length b
        obtain ⟨e1, e2⟩ := hr.drew.alloc k hk hφ (byteCells b) (bytesRow ⟨⟨b⟩⟩ G) e G (G + 1) (by
          rw [hcells, hrow, List.take_append_of_le_length (by simp)]
          rw [List.take_of_length_le (by simp)]
          exact VRs_bytes φ b) (fun i h1 h2 => by rw [hsize]; exact h1) (fun t ht => by rw [hkt] at ht; cases ht)
        refine wp_value (v := .slice (some ⟨w.heap.size, 0, none⟩) b.length G) (w' := w.drew.alloc (.cells (bytesRow ⟨⟨b⟩⟩ G) e (G, G + 1))) ?_ (hn _ _ _ e2 ?_)
        · simp only [execOp, hx]
          exact run_value hrun
        · simp only [VR]
          exact ⟨k, _, G, ⟨w.heap.size, 0, none⟩, rfl, PMap.upd_same _ _ _, rfl, hcap, fun _ => ⟨rfl, by simp [hsize]⟩⟩
      · rename_i k o m c hx
        simp only [eStrBytes] at hc
        split at he
        · rename_i hc'
          simp only [eSame, Bool.and_eq_true, beq_iff_eq] at hc'
          obtain ⟨rfl, hc'⟩ := hc'
          split at hc <;> first | (cases hc; done) | skip
          rename_i e h1 h2
          rw [h1] at h2; cases h2
        · exfalso
          simp only [pop, hx, pConv] at he
          split at hc <;> first | (cases hc; done) | skip
          rename_i e h1 h2
          simp [h1, h2] at he
          exact he.1
      · rename_i hn1 hn2
        exfalso
        unfold eStrBytes at hc
        split at hc <;> first | (cases hc; done) | skip
        rename_i e h1 h2
        have he1 := he.1
        simp only [pop] at he1
        cases hx : ev s x with
        | str b => exact hn1 b hx
        | _ => simp [hx, pConv, h1, h2, PR.no] at he1
    · split at hk0 <;> cases hk0
  case call c =>
    obtain ⟨callee, args, ts⟩ := c
    cases callee with
    | value f => cases hk0
    | invoke r m => cases hk0
    | builtin b => cases b <;> cases hk0

section
variable {P : Program} {w₀ : World} {n : Nat} {h₀ : AHeap}

/-! ### The heads of statements of open order -/
def stepF (P : Program) (w₀ : World) (h₀ h : AHeap) (S : Slots) (op : Op) (V : AVal) : Prop :=
  if kindF P op = 2 then (pop P w₀ h S op).pre ∧ V = (pop P w₀ h S op).val
  else kindF P op = 1 ∧ V.okIn (fun k => (h₀ k).isSome) ∧ ∀ g, (∀ k b, h₀ k = some b → g k = some b) → eop P w₀ g S op (fun x h' => x = V ∧ h' = g)

def fOps (P : Program) (w₀ : World) (ops : List Oper) (h₀ : AHeap) : List Oper → Slots → AHeap → (Slots → AHeap → Prop) → Prop
  | [], s, h, K => K s h
  | o :: rest, s, h, K =>
    if kindF P o.op = 0 then o.guard = none ∧ eop P w₀ h (s.keep (looksL ops o)) o.op (fun x h' => fOps P w₀ ops h₀ rest (putD s o.dst x) h' K)
    else match o.guard with
      | none => ∃ V, stepF P w₀ h₀ h (s.keep (looksL ops o)) o.op V ∧ fOps P w₀ ops h₀ rest (putD s o.dst V) h K
      | some (j, want) => match nthDst ops j with
        | none => fOps P w₀ ops h₀ rest (putD s o.dst (.tuple [])) h K
        | some d => gKnown (s.get d) = true ∧ ∃ V, (guardB (s.get d) want = true → stepF P w₀ h₀ h (s.keep (looksL ops o)) o.op V) ∧ fOps P w₀ ops h₀ rest (putD s o.dst (condV (guardB (s.get d) want) V)) h K

theorem fOps_mono {ops : List Oper} {K K' : Slots → AHeap → Prop} (hk : ∀ s h, K s h → K' s h) : ∀ {l : List Oper} {s : Slots} {h : AHeap}, fOps P w₀ ops h₀ l s h K → fOps P w₀ ops h₀ l s h K'
  | [], s, h, hv => hk _ _ hv
  | o :: rest, s, h, hv => by
    simp only [fOps] at hv ⊢
    split
    · rename_i h0
      rw [if_pos h0] at hv
      exact ⟨hv.1, eop_mono hv.2 fun x h' hx => fOps_mono hk hx⟩
    · rename_i h0
      rw [if_neg h0] at hv
      split
      · rename_i hg
        rw [hg] at hv
        obtain ⟨V, h1, h2⟩ := hv
        exact ⟨V, h1, fOps_mono hk h2⟩
      · rename_i j want hg
        rw [hg] at hv
        simp only at hv
        split
        · rename_i hj
          rw [hj] at hv
          exact fOps_mono hk hv
        · rename_i d hj
          rw [hj] at hv
          obtain ⟨h1, V, h2, h3⟩ := hv
          exact ⟨h1, V, h2, fOps_mono hk h3⟩

/-- The heap when some of the blocks are laid; the block that operation i lays bears the name N + i. -/
def gOf (h₀ : AHeap) (N : Nat) (bl : List (Option Blk)) (listed : Nat → Bool) : AHeap := fun k => if N ≤ k then (bif listed (k - N) then bl.getD (k - N) none else none) else h₀ k

def HH (w₀ : World) (h₀ : AHeap) (N : Nat) (bl : List (Option Blk)) (listed : Array Bool) (ψ : PMap) (w : World) : Prop :=
  HRel w₀ ψ (gOf h₀ N bl fun i => listed.getD i false) w ∧ ∀ i, i < bl.length → listed.getD i false = false → ψ (N + i) = none

/-- What operation i of the head does, whatever is listed. -/
def HeadStep (P : Program) (w₀ : World) (n : Nat) (h₀ : AHeap) (l : List Oper) (N : Nat) (bl : List (Option Blk)) (S : Slots) (i : Nat) (o : Oper) (V : AVal) : Prop :=
  ∀ (listed : Array Bool) (ψ : PMap) (w : World) (a : Act) (next : Act → World → Prop) (Q : Exit → Act → World → Prop), listed.getD i false = false → i < listed.size → HH w₀ h₀ N bl listed ψ w → SRel ψ n (S.keep (looksL l o)) a →
    (∀ ψ' v w', ψ.le ψ' → HH w₀ h₀ N bl (listed.setIfInBounds i true) ψ' w' → VR ψ' V v → next (a.put o.dst v) w') →
    if Region.wanted o (yielded l.toArray a.tmps) = true then o.wp P a w next Q else next (a.put o.dst undef) w

theorem cells_up {ψ : PMap} {H g : AHeap} (hg : ∀ k b, H k = some b → (ψ k).isSome = true → g k = some b) {l : Loc} (hl : ∀ k, l = .own k → (ψ k).isSome = true ∨ False) : ∀ (n o : Nat), allLive (cellsAt w₀ H l o n) = true → cellsAt w₀ g l o n = cellsAt w₀ H l o n
  | 0, _, _ => rfl
  | n + 1, o, ha => by
    simp only [cellsAt, allLive, Bool.and_eq_true] at ha ⊢
    rw [cells_up hg hl n (o + 1) ha.2]
    congr 1
    cases l with
    | base b => rfl
    | own k =>
      have hs := (hl k rfl).resolve_right id
      have h1 := ha.1
      simp only [rd] at h1 ⊢
      cases hH : H k with
      | none => simp [hH, AVal.live] at h1
      | some b => simp [hg k b hH hs]

theorem rd_up {ψ : PMap} {H g : AHeap} (hg : ∀ k b, H k = some b → (ψ k).isSome = true → g k = some b) {l : Loc} (hl : ∀ k, l = .own k → (ψ k).isSome = true) (o : Nat) (ha : (rd w₀ H l o).live = true) : rd w₀ g l o = rd w₀ H l o := by
  have := cells_up (w₀ := w₀) hg (l := l) (fun k e => .inl (hl k e)) 1 o (by simp [cellsAt, allLive, ha])
  simpa [cellsAt] using this

theorem ptr_some {ψ : PMap} {l : Loc} {o : Nat} {v : Value} (h : VR ψ (.ptr l o) v) : ∀ k, l = .own k → (ψ k).isSome = true := by
  rintro k rfl
  have := okIn_of_VR _ _ h
  simpa only [AVal.okIn] using this

/-- What is read here is read alike where more lies. -/
theorem pop_up {ψ : PMap} {H g : AHeap} {S : Slots} {a : Act} {op : Op} (hk : kindF P op = 2) (hg : ∀ k b, H k = some b → (ψ k).isSome = true → g k = some b) (hs : SRel ψ n S a) (hp : (pop P w₀ H S op).pre) : pop P w₀ g S op = pop P w₀ H S op := by
  cases op <;> first
    | rfl
    | skip
  case load t x =>
    simp only [pop] at hp ⊢
    have hx := hs.ev x
    cases hv : ev S x with
    | ptr l o =>
      rw [hv] at hx hp
      have hl := ptr_some hx
      simp only [pLoad] at hp ⊢
      split at hp
      · rename_i h1 h2
        rw [cells_up hg (fun k e => .inl (hl k e)) _ _ hp]
      · rename_i h1
        rw [rd_up hg hl _ hp]
      · exact hp.elim
    | _ => rfl
  case convert src dst x =>
    simp only [pop] at hp ⊢
    have hx := hs.ev x
    cases hv : ev S x with
    | slice l o len c =>
      rw [hv] at hx hp
      simp only [pConv] at hp ⊢
      split at hp <;> first | exact hp.elim | skip
      rename_i e h1 h2
      split at hp <;> first | exact hp.elim | skip
      rename_i h3
      by_cases hz : len = 0
      · subst hz; rfl
      · have hl : ∀ k, l = .own k → (ψ k).isSome = true ∨ False := by
          rintro k rfl
          have := okIn_of_VR _ _ hx
          simp only [AVal.okIn] at this
          cases c with
          | exact c => exact .inl (this (.inr hz))
          | grow es => exact .inl this
        rw [cells_up hg hl _ _ (allLive_of_u8 hp)]
    | _ => rfl

theorem gOf_set {h₀ : AHeap} {N : Nat} {bl : List (Option Blk)} {i : Nat} {b : Blk} (hb : bl.getD i none = some b) {listed : Array Bool} (hsz : i < listed.size) :
    (gOf h₀ N bl fun j => listed.getD j false).set (N + i) b = gOf h₀ N bl fun j => (listed.setIfInBounds i true).getD j false := by
  funext k
  simp only [gOf, AHeap.set]
  by_cases e : k = N + i
  · subst e
    rw [if_pos rfl, if_pos (by omega), show N + i - N = i by omega, set_self hsz, hb]
    rfl
  · rw [if_neg e]
    by_cases hN : N ≤ k
    · rw [if_pos hN, if_pos hN, set_other (by omega)]
    · rw [if_neg hN, if_neg hN]

theorem gOf_none {h₀ : AHeap} {N : Nat} {bl : List (Option Blk)} {i : Nat} (hb : bl.getD i none = none) {listed : Array Bool} :
    (gOf h₀ N bl fun j => (listed.setIfInBounds i true).getD j false) = gOf h₀ N bl fun j => listed.getD j false := by
  funext k
  simp only [gOf]
  by_cases hN : N ≤ k
  · rw [if_pos hN, if_pos hN]
    by_cases e : k - N = i
    · rw [e, hb]; simp
    · rw [set_other e]
  · rw [if_neg hN, if_neg hN]

theorem HH.quiet {N : Nat} {bl : List (Option Blk)} {i : Nat} (hb : bl.getD i none = none) {listed : Array Bool} {ψ : PMap} {w : World} (h : HH w₀ h₀ N bl listed ψ w) : HH w₀ h₀ N bl (listed.setIfInBounds i true) ψ w := by
  refine ⟨by rw [gOf_none hb]; exact h.1, fun j hj hl => h.2 j hj ?_⟩
  by_cases e : j = i
  · subst e
    cases hc : listed.getD j false with
    | false => rfl
    | true =>
      have hsz : j < listed.size := by
        refine Nat.lt_of_not_le fun hge => ?_
        simp [Array.getD, Nat.not_lt.2 hge] at hc
      rw [set_self hsz] at hl
      cases hl
  · rwa [set_other e] at hl

/-- The facts of one step of the head. -/
theorem HeadStep.of_step {l : List Oper} (hall : dstsOk n l = true) {N : Nat} (hN : ∀ j, N ≤ j → h₀ j = none) {bl : List (Option Blk)} {H : AHeap} {i : Nat} (hH : ∀ k b, H k = some b → k < N ∧ h₀ k = some b ∨ N ≤ k ∧ k - N < bl.length ∧ bl.getD (k - N) none = some b) (hb : bl.getD i none = none) {S : Slots} {o : Oper} {V : AVal}
    (hstep : stepF P w₀ h₀ H (S.keep (looksL l o)) o.op V) {ψ : PMap} {w : World} {a : Act} {listed : Array Bool} {next : Act → World → Prop} {Q : Exit → Act → World → Prop} (hh : HH w₀ h₀ N bl listed ψ w) (hs : SRel ψ n (S.keep (looksL l o)) a)
    (hn : ∀ ψ' v w', ψ.le ψ' → HH w₀ h₀ N bl (listed.setIfInBounds i true) ψ' w' → VR ψ' V v → next (a.put o.dst v) w') : o.wp P a w next Q := by
  unfold stepF at hstep
  split at hstep
  · rename_i hk
    obtain ⟨h1, h2⟩ := hstep
    have hup : ∀ k b, H k = some b → (ψ k).isSome = true → (gOf h₀ N bl fun j => listed.getD j false) k = some b := by
      intro k b hb' hs'
      simp only [gOf]
      rcases hH k b hb' with ⟨c1, c2⟩ | ⟨c1, c2, c3⟩
      · rw [if_neg (by omega)]; exact c2
      · rw [if_pos c1]
        cases hl : listed.getD (k - N) false with
        | true => simpa using c3
        | false =>
          have := hh.2 (k - N) c2 hl
          rw [show N + (k - N) = k by omega] at this
          rw [this] at hs'
          cases hs'
    have e := pop_up (P := P) (w₀ := w₀) (n := n) hk hup hs h1
    obtain ⟨r, e1, e2⟩ := pop_ok o (by rw [e]; exact h1) hh.1 hs
    rw [e, ← h2] at e2
    exact wp_value (e1 w (Same.refl w)) (hn ψ r w ψ.le_refl (hh.quiet hb) e2)
  · obtain ⟨_, hok, he⟩ := hstep
    have hsub : ∀ k b, h₀ k = some b → (gOf h₀ N bl fun j => listed.getD j false) k = some b := by
      intro k b hb'
      have hlt : k < N := by
        refine Nat.lt_of_not_le fun hge => ?_
        rw [hN k hge] at hb'; cases hb'
      simp only [gOf]
      rw [if_neg (by omega)]; exact hb'
    refine eop_ok o (he _ hsub) hh.1 hs fun ψ' x h' v w' h1 h2 h3 ⟨e1, e2⟩ => ?_
    subst e1 e2
    -- the names in store are taken back
    have hle : ψ.le fun k => if N ≤ k ∧ k - N < bl.length ∧ listed.getD (k - N) false = false then none else ψ' k := by
      intro k p hp
      simp only
      rw [if_neg]
      · exact h1 k p hp
      · rintro ⟨c1, c2, c3⟩
        have := hh.2 (k - N) c2 c3
        rw [show N + (k - N) = k by omega, hp] at this
        cases this
    have hlt : (PMap.le (fun k => if N ≤ k ∧ k - N < bl.length ∧ listed.getD (k - N) false = false then none else ψ' k) ψ') := by
      intro k p hp
      simp only at hp
      split at hp
      · cases hp
      · exact hp
    have hsame : ∀ k, (ψ k).isSome = true → ψ' k = (fun k => if N ≤ k ∧ k - N < bl.length ∧ listed.getD (k - N) false = false then none else ψ' k) k := by
      intro k hk
      obtain ⟨p, hp⟩ := Option.isSome_iff_exists.1 hk
      rw [hle k p hp, h1 k p hp]
    refine hn _ v w' hle (HH.quiet hb ⟨hh.1.limit h2 hlt hsame, fun j hj hl => ?_⟩) (VR_limit (f := fun k => (h₀ k).isSome) (fun k hk => ?_) _ _ hok h3)
    · simp only
      rw [if_pos ⟨by omega, by rw [show N + j - N = j by omega]; exact hj, by rw [show N + j - N = j by omega]; exact hl⟩]
    · have hlt : k < N := by
        refine Nat.lt_of_not_le fun hge => ?_
        simp [hN k hge] at hk
      rw [if_neg (by omega)]

theorem HeadStep.lay {l : List Oper} {N : Nat} {bl : List (Option Blk)} {i : Nat} (hil : i < bl.length) {S : Slots} {o : Oper} {val : Nat → AVal} {b : Blk} (hb : bl.getD i none = some b) (hg : o.guard = none)
    (hlay : ∀ {w : World} {φ : PMap} {g : AHeap} {a : Act} {next : Act → World → Prop} {Q : Exit → Act → World → Prop}, HRel w₀ φ g w → SRel φ n (S.keep (looksL l o)) a → g (N + i) = none → φ (N + i) = none →
        (∀ p v w', HRel w₀ (φ.upd (N + i) p) (g.set (N + i) b) w' → VR (φ.upd (N + i) p) (val (N + i)) v → next (a.put o.dst v) w') → o.wp P a w next Q) : HeadStep P w₀ n h₀ l N bl S i o (val (N + i)) := by
  intro listed ψ w a next Q hl hsz hh hs hn
  have hw : Region.wanted o (yielded l.toArray a.tmps) = true := by simp [Region.wanted, hg]
  rw [if_pos hw]
  have hφ := hh.2 i hil hl
  refine hlay hh.1 hs (by simp only [gOf]; rw [if_pos (by omega), show N + i - N = i by omega, hl]; rfl) hφ fun p v w' h1 h2 => ?_
  refine hn _ v w' (PMap.le_upd hφ p) ⟨by rw [← gOf_set hb hsz]; exact h1, fun j hj hl' => ?_⟩ h2
  have e : j ≠ i := fun e => by subst e; rw [set_self hsz] at hl'; cases hl'
  rw [set_other e] at hl'
  have := hh.2 j hj hl'
  simp only [PMap.upd]
  rw [if_neg (by omega)]
  exact this

theorem HeadStep.one {l : List Oper} (hall : dstsOk n l = true) {N : Nat} (hN : ∀ j, N ≤ j → h₀ j = none) {bl : List (Option Blk)} {H : AHeap} {i : Nat} (hH : ∀ k b, H k = some b → k < N ∧ h₀ k = some b ∨ N ≤ k ∧ k - N < bl.length ∧ bl.getD (k - N) none = some b) (hb : bl.getD i none = none) {S : Slots} {o : Oper} {V : AVal} (hg : o.guard = none)
    (hstep : stepF P w₀ h₀ H (S.keep (looksL l o)) o.op V) : HeadStep P w₀ n h₀ l N bl S i o V := by
  intro listed ψ w a next Q _ _ hh hs hn
  have hw : Region.wanted o (yielded l.toArray a.tmps) = true := by simp [Region.wanted, hg]
  rw [if_pos hw]
  exact HeadStep.of_step hall hN hH hb hstep hh hs hn

theorem HeadStep.guarded {l : List Oper} (hall : dstsOk n l = true) {N : Nat} (hN : ∀ j, N ≤ j → h₀ j = none) {bl : List (Option Blk)} {H : AHeap} {i : Nat} (hH : ∀ k b, H k = some b → k < N ∧ h₀ k = some b ∨ N ≤ k ∧ k - N < bl.length ∧ bl.getD (k - N) none = some b) (hb : bl.getD i none = none) {S : Slots} {o : Oper} {V : AVal} {j d : Nat} {want : Bool} (hg : o.guard = some (j, want)) (hj : nthDst l j = some d) (hk : gKnown (S.get d) = true)
    (hstep : guardB (S.get d) want = true → stepF P w₀ h₀ H (S.keep (looksL l o)) o.op V) : HeadStep P w₀ n h₀ l N bl S i o (condV (guardB (S.get d) want) V) := by
  intro listed ψ w a next Q _ _ hh hs hn
  have hd : (S.keep (looksL l o)).get d = S.get d := by
    rw [Slots.get_keep, if_pos]
    simp [looksL, hg, hj]
  have hw : Region.wanted o (yielded l.toArray a.tmps) = guardB (S.get d) want := by
    have := guard_ok hs l j d hj (nth_lt l j d hall hj) (by rw [hd]; exact hk) want
    rw [hd] at this
    simp only [Region.wanted, hg]
    exact this
  cases hb' : guardB (S.get d) want with
  | true =>
    rw [hw, hb', if_pos rfl]
    rw [hb'] at hn
    exact HeadStep.of_step hall hN hH hb (hstep hb') hh hs hn
  | false =>
    rw [hw, hb', if_neg (by decide)]
    rw [hb'] at hn
    exact hn ψ undef w ψ.le_refl (hh.quiet hb) (VR_undef ψ)

theorem HeadStep.never {l : List Oper} {N : Nat} {bl : List (Option Blk)} {i : Nat} (hb : bl.getD i none = none) {S : Slots} {o : Oper} {j : Nat} {want : Bool} (hg : o.guard = some (j, want)) (hj : nthDst l j = none) : HeadStep P w₀ n h₀ l N bl S i o (.tuple []) := by
  intro listed ψ w a next Q _ _ hh hs hn
  have hd : (l.toArray[j]?).bind (·.dst) = none := by rw [← hj, nthDst_eq]; simp
  have hw : Region.wanted o (yielded l.toArray a.tmps) = false := by
    simp only [Region.wanted, hg, yielded, hd]
    rfl
  rw [if_neg (by rw [hw]; decide)]
  exact hn ψ undef w ψ.le_refl (hh.quiet hb) (VR_undef ψ)

theorem gOf_at {N : Nat} (hN : ∀ j, N ≤ j → h₀ j = none) (A B : List (Option Blk)) : ∀ k b, (gOf h₀ N A fun _ => true) k = some b → k < N ∧ h₀ k = some b ∨ N ≤ k ∧ k - N < (A ++ B).length ∧ (A ++ B).getD (k - N) none = some b := by
  intro k b h
  simp only [gOf] at h
  by_cases c : N ≤ k
  · rw [if_pos c] at h
    simp only [cond_true] at h
    right
    have hlt : k - N < A.length := by
      refine Nat.lt_of_not_le fun hge => ?_
      simp [List.getD, List.getElem?_eq_none hge] at h
    refine ⟨c, by simp; omega, ?_⟩
    simpa [List.getD, List.getElem?_append, hlt] using h
  · rw [if_neg c] at h
    exact .inl ⟨by omega, h⟩

theorem gOf_of {N : Nat} (hN : ∀ j, N ≤ j → h₀ j = none) {C : List (Option Blk)} {k : Nat} {b : Blk} (h : k < N ∧ h₀ k = some b ∨ N ≤ k ∧ k - N < C.length ∧ C.getD (k - N) none = some b) : (gOf h₀ N C fun _ => true) k = some b := by
  simp only [gOf, cond_true]
  rcases h with ⟨c, e⟩ | ⟨c, _, e⟩
  · rw [if_neg (by omega)]; exact e
  · rw [if_pos c]; exact e

theorem gOf_push {N : Nat} (A : List (Option Blk)) (b : Blk) : (gOf h₀ N A fun _ => true).set (N + A.length) b = gOf h₀ N (A ++ [some b]) fun _ => true := by
  funext k
  simp only [gOf, AHeap.set, cond_true]
  by_cases e : k = N + A.length
  · subst e
    rw [if_pos rfl, if_pos (by omega), show N + A.length - N = A.length by omega]
    simp [List.getD]
  · rw [if_neg e]
    by_cases c : N ≤ k
    · rw [if_pos c, if_pos c]
      rcases Nat.lt_or_ge (k - N) A.length with c2 | c2
      · simp [List.getD, List.getElem?_append, c2]
      · have h1 : A[k - N]? = none := List.getElem?_eq_none c2
        have h2 : (A ++ [some b])[k - N]? = none := List.getElem?_eq_none (by simp; omega)
        simp [List.getD, h1, h2]
    · rw [if_neg c, if_neg c]

theorem gOf_skip {N : Nat} (A : List (Option Blk)) : (gOf h₀ N A fun _ => true) = gOf h₀ N (A ++ [none]) fun _ => true := by
  funext k
  simp only [gOf, cond_true]
  by_cases c : N ≤ k
  · rw [if_pos c, if_pos c]
    rcases Nat.lt_trichotomy (k - N) A.length with c2 | c2 | c2
    · simp [List.getD, List.getElem?_append, c2]
    · have h1 : A[k - N]? = none := List.getElem?_eq_none (by omega)
      simp [List.getD, h1, c2]
    · have h1 : A[k - N]? = none := List.getElem?_eq_none (by omega)
      have h2 : (A ++ [none])[k - N]? = none := List.getElem?_eq_none (by simp; omega)
      simp [List.getD, h1, h2]
  · rw [if_neg c, if_neg c]

theorem fOps_steps {l : List Oper} (hall : dstsOk n l = true) {N : Nat} (hN : ∀ j, N ≤ j → h₀ j = none) (hNt : ∀ i, i < l.length → tyOf (N + i) = none) (tl : List Oper) {s : Slots} {K : Slots → AHeap → Prop} : ∀ (rest pre : List Oper) (A : List AVal) (B : List (Option Blk)), l = pre ++ rest ++ tl → A.length = pre.length → B.length = pre.length →
    fOps P w₀ l h₀ rest (slotsAt s l A pre.length) (gOf h₀ N B fun _ => true) K →
    ∃ A' B', A'.length = rest.length ∧ B'.length = rest.length ∧
      (∀ i o, pre.length ≤ i → i < pre.length + rest.length → l[i]? = some o →
        (B ++ B').length = pre.length + rest.length ∧ HeadStep P w₀ n h₀ l N (B ++ B') (slotsAt s l (A ++ A') i) i o ((A ++ A').getD i .dead) ∧ (kindF P o.op = 2 → (B ++ B').getD i none = none ∧ (o.guard = none → ∃ H, (∀ j b, H j = some b → (gOf h₀ N (B ++ B') fun _ => true) j = some b) ∧ (pop P w₀ H ((slotsAt s l (A ++ A') i).keep (looksL l o)) o.op).pre ∧ (A ++ A').getD i .dead = (pop P w₀ H ((slotsAt s l (A ++ A') i).keep (looksL l o)) o.op).val))) ∧
      K (slotsAt s l (A ++ A') (pre.length + rest.length)) (gOf h₀ N (B ++ B') fun _ => true)
  | [], pre, A, B, hl, hA, hB, hv => ⟨[], [], rfl, rfl, fun i o h1 h2 _ => by simp at h2; omega, by simpa [fOps] using hv⟩
  | o :: rest, pre, A, B, hl, hA, hB, hv => by
    have hat : l[pre.length]? = some o := by rw [hl]; simp
    have hAt : ∀ V A', (A ++ V :: A').getD pre.length .dead = V := fun V A' => by simp [List.getD, ← hA]
    have hBt : ∀ b B', (B ++ b :: B').getD pre.length none = b := fun b B' => by simp [List.getD, ← hB]
    have hS : ∀ V, slotsAt s l (A ++ [V]) (pre ++ [o]).length = putD (slotsAt s l A pre.length) o.dst V := fun V => by
      rw [List.length_append, List.length_singleton, slotsAt, hat]
      simp only
      rw [slotsAt_take s l A [V] _ (by omega)]
      congr 1
      simp [List.getD, ← hA]
    have go : ∀ (V : AVal) (b : Option Blk), (∀ (A' : List AVal) (B' : List (Option Blk)), (B ++ b :: B').length = pre.length + (o :: rest).length → HeadStep P w₀ n h₀ l N (B ++ b :: B') (slotsAt s l A pre.length) pre.length o V) →
        (kindF P o.op = 2 → b = none ∧ (o.guard = none → ∃ H, (∀ B' j b', H j = some b' → (gOf h₀ N (B ++ b :: B') fun _ => true) j = some b') ∧ (pop P w₀ H ((slotsAt s l A pre.length).keep (looksL l o)) o.op).pre ∧ V = (pop P w₀ H ((slotsAt s l A pre.length).keep (looksL l o)) o.op).val)) →
        fOps P w₀ l h₀ rest (putD (slotsAt s l A pre.length) o.dst V) (gOf h₀ N (B ++ [b]) fun _ => true) K →
        ∃ A' B', A'.length = (o :: rest).length ∧ B'.length = (o :: rest).length ∧
          (∀ i o', pre.length ≤ i → i < pre.length + (o :: rest).length → l[i]? = some o' →
            (B ++ B').length = pre.length + (o :: rest).length ∧ HeadStep P w₀ n h₀ l N (B ++ B') (slotsAt s l (A ++ A') i) i o' ((A ++ A').getD i .dead) ∧ (kindF P o'.op = 2 → (B ++ B').getD i none = none ∧ (o'.guard = none → ∃ H, (∀ j b, H j = some b → (gOf h₀ N (B ++ B') fun _ => true) j = some b) ∧ (pop P w₀ H ((slotsAt s l (A ++ A') i).keep (looksL l o')) o'.op).pre ∧ (A ++ A').getD i .dead = (pop P w₀ H ((slotsAt s l (A ++ A') i).keep (looksL l o')) o'.op).val))) ∧
          K (slotsAt s l (A ++ A') (pre.length + (o :: rest).length)) (gOf h₀ N (B ++ B') fun _ => true) := by
      intro V b hst hpo hv'
      obtain ⟨A', B', h1, h2, h3, h4⟩ := fOps_steps hall hN hNt tl rest (pre ++ [o]) (A ++ [V]) (B ++ [b]) (by simp [hl]) (by simp [hA]) (by simp [hB]) (by rw [hS]; exact hv')
      have hlen : (B ++ b :: B').length = pre.length + (o :: rest).length := by simp [hB, h2]
      refine ⟨V :: A', b :: B', by simp [h1], by simp [h2], fun i o' hi hi' ho' => ?_, ?_⟩
      · rcases Nat.eq_or_lt_of_le hi with e' | e'
        · subst e'
          rw [hat] at ho'
          obtain rfl := Option.some.inj ho'
          rw [slotsAt_take s l A (V :: A') _ (by omega), hAt]
          rw [hBt]
          exact ⟨hlen, hst A' B' hlen, fun e => ⟨(hpo e).1, fun e' => (hpo e).2 e' |>.elim fun H ⟨q0, q1⟩ => ⟨H, q0 B', q1⟩⟩⟩
        · have := h3 i o' (by simp; omega) (by simp at hi' ⊢; omega) ho'
          refine ⟨hlen, ?_⟩
          simpa using this.2
      · have e : pre.length + (o :: rest).length = (pre ++ [o]).length + rest.length := by simp; omega
        rw [e]
        simpa using h4
    simp only [fOps] at hv
    split at hv
    · rename_i hk
      obtain ⟨hg, he⟩ := hv
      obtain ⟨val, b, hc, hlay⟩ := lay_ok hk he
      have hfree : (gOf h₀ N B fun _ => true) (N + B.length) = none := by
        simp only [gOf]
        rw [if_pos (by omega), show N + B.length - N = B.length by omega]
        simp [List.getD]
      have hc' := hc (N + B.length) hfree
      rw [gOf_push] at hc'
      refine go (val (N + B.length)) (some b) (fun A' B' hlen => ?_) (fun e => by rw [hk] at e; cases e) hc'
      rw [hB]
      exact HeadStep.lay (by rw [hlen]; simp) (hBt _ _) hg fun h1 h2 h3 h4 h5 => hlay (N + pre.length) o rfl h1 h2 h3 h4 (hNt _ (by rw [hl]; simp)) h5
    · rename_i hk
      have hH := fun b B' => gOf_at (h₀ := h₀) hN B (b :: B')
      split at hv
      · rename_i hg
        obtain ⟨V, h1, h2⟩ := hv
        rw [gOf_skip] at h2
        refine go V none (fun A' B' _ => HeadStep.one hall hN (hH none B') (hBt _ _) hg h1) (fun e => ⟨rfl, fun _ => ?_⟩) h2
        unfold stepF at h1
        rw [if_pos e] at h1
        exact ⟨_, fun B' j b' hb' => gOf_of hN (hH none B' j b' hb'), h1⟩
      · rename_i j want hg
        split at hv
        · rename_i hj
          rw [gOf_skip] at hv
          exact go _ none (fun A' B' _ => HeadStep.never (hBt _ _) hg hj) (fun _ => ⟨rfl, fun e => by rw [hg] at e; cases e⟩) hv
        · rename_i d hj
          obtain ⟨hk', V, h1, h2⟩ := hv
          rw [gOf_skip] at h2
          exact go _ none (fun A' B' _ => HeadStep.guarded hall hN (hH none B') (hBt _ _) hg hj hk' h1) (fun _ => ⟨rfl, fun e => by rw [hg] at e; cases e⟩) h2

def heapless : Op → Bool
  | .load _ _ => false
  | .convert _ _ _ => false
  | _ => true

def isLoad : Op → Bool
  | .load _ _ => true
  | _ => false

/-- The late loads look into blocks that the tail leaves (ks). -/
def lateOK (l : List Oper) (ks : List Nat) (s : Slots) : List Nat → Prop
  | [] => True
  | i :: r => (match l[i]? with
      | some o => (match o.op with
        | .load _ x => (match ev s x with
          | .ptr (.own k) _ => k ∈ ks
          | .ptr (.base _) _ => True
          | _ => False)
        | _ => True)
      | none => True) ∧ lateOK l ks s r
theorem lateOK_mem {l : List Oper} {ks : List Nat} {s : Slots} : ∀ {late : List Nat}, lateOK l ks s late → ∀ i ∈ late, ∀ o t x, l[i]? = some o → o.op = .load t x → (∃ k p, ev s x = .ptr (.own k) p ∧ k ∈ ks) ∨ ∃ b p, ev s x = .ptr (.base b) p
  | j :: r, h, i, hi, o, t, x, ho, hop => by
    simp only [lateOK] at h
    rcases List.mem_cons.1 hi with e | e
    · subst e
      have h1 := h.1
      simp only [ho, hop] at h1
      split at h1
      · rename_i k p hv; exact .inl ⟨k, p, hv, h1⟩
      · rename_i b p hv; exact .inr ⟨b, p, hv⟩
      · exact h1.elim
    · exact lateOK_mem h.2 i e o t x ho hop

/-- A tail that leaves the blocks ks. -/
def kOps (P : Program) (w₀ : World) (ks : List Nat) : List Oper → Slots → AHeap → (Slots → AHeap → Prop) → Prop
  | [], s, h, K => K s h
  | o :: rest, s, h, K => o.guard = none ∧ eop P w₀ h s o.op fun x h' => (∀ k ∈ ks, h' k = h k) ∧ kOps P w₀ ks rest (putD s o.dst x) h' K
theorem kOps_of_aOps {ops : List Oper} {K : Slots → AHeap → Prop} : ∀ {l : List Oper} {s : Slots} {h : AHeap}, (∀ o ∈ l, o.guard = none) → aOps P w₀ ops l s h K → kOps P w₀ [] l s h K
  | [], _, _, _, ha => ha
  | o :: r, s, h, hg, ha => by
    have h0 := hg o List.mem_cons_self
    simp only [aOps, h0] at ha
    exact ⟨h0, eop_mono ha fun x h' hx => ⟨fun k hk => (by cases hk), kOps_of_aOps (fun o ho => hg o (List.mem_cons_of_mem _ ho)) hx⟩⟩
theorem kOps_mono {ks : List Nat} {K K' : Slots → AHeap → Prop} (hk : ∀ s h, K s h → K' s h) : ∀ {l : List Oper} {s : Slots} {h : AHeap}, kOps P w₀ ks l s h K → kOps P w₀ ks l s h K'
  | [], _, _, ha => hk _ _ ha
  | o :: r, s, h, ha => ⟨ha.1, eop_mono ha.2 fun x h' hx => ⟨hx.1, kOps_mono hk hx.2⟩⟩

/-- A load reads alike where its block is the same. -/
theorem load_same {H g : AHeap} {S : Slots} {t : TypeId} {x : Operand} (hx : (∃ k p, ev S x = .ptr (.own k) p ∧ ∀ b, H k = some b → g k = some b) ∨ ∃ b p, ev S x = .ptr (.base b) p) (hp : (pop P w₀ H S (.load t x)).pre) : pop P w₀ g S (.load t x) = pop P w₀ H S (.load t x) := by
  simp only [pop] at hp ⊢
  rcases hx with ⟨k, p, hv, hg⟩ | ⟨b, p, hv⟩
  · rw [hv] at hp ⊢
    have up : ∀ (n o : Nat), allLive (cellsAt w₀ H (.own k) o n) = true → cellsAt w₀ g (.own k) o n = cellsAt w₀ H (.own k) o n := by
      intro n
      induction n with
      | zero => intro o _; rfl
      | succ n ih =>
        intro o ha
        simp only [cellsAt, allLive, Bool.and_eq_true] at ha ⊢
        rw [ih (o + 1) ha.2]
        congr 1
        have h1 := ha.1
        simp only [rd] at h1 ⊢
        cases hH : H k with
        | none => simp [hH, AVal.live] at h1
        | some b => simp [hg b hH]
    simp only [pLoad] at hp ⊢
    split at hp
    · rw [up _ _ hp]
    · have := up 1 p (by simp only [cellsAt, allLive, Bool.and_true]; exact hp)
      simp only [cellsAt, List.cons.injEq, and_true] at this
      rw [this]
    · exact hp.elim
  · rw [hv] at hp ⊢
    have same : ∀ (n o : Nat), cellsAt w₀ g (.base b) o n = cellsAt w₀ H (.base b) o n := by
      intro n
      induction n with
      | zero => intro o; rfl
      | succ n ih => intro o; simp only [cellsAt]; rw [ih]; rfl
    simp only [pLoad, same]
    rfl

theorem pop_heapless {g H : AHeap} {S : Slots} {op : Op} (h : heapless op = true) : pop P w₀ g S op = pop P w₀ H S op := by
  cases op <;> first
    | rfl
    | (cases h; done)

/-- The static conditions of a statement: k operations in its head, of them the late ones may come behind the tail's first. -/
def floatB (P : Program) (l : List Oper) (k : Nat) (late : List Nat) : Bool :=
  orderB l && decide (k ≤ l.length) && (late.all fun i => decide (i < k)) &&
  ((List.range k).all fun i => if late.contains i then (match l[i]? with | some o => o.guard.isNone && (heapless o.op || isLoad o.op) && (kindF P o.op == 2) && (List.range k).all (fun j => decide (j ≤ i) || match l[j]? with | some oj => (match oj.dst with | some t => !(looksL l o).contains t | none => true) | none => true) | none => true)
    else decide (k = l.length) || (List.range (k + 1)).any fun j => decide (i < j) && !late.contains j && Region.waitsFor .any l.toArray j i) &&
  ((List.range l.length).all fun t => decide (t < k) || ((match l[t]? with | some o => o.guard.isNone | none => true) && (decide (t = k) || Region.waitsFor .any l.toArray t (t - 1))))

structure FloatS (P : Program) (l : List Oper) (k : Nat) (late : List Nat) : Prop where
  order : orderB l = true
  kle : k ≤ l.length
  latek : ∀ i, late.contains i = true → i < k
  lateo : ∀ i o, late.contains i = true → l[i]? = some o → o.guard = none ∧ (heapless o.op = true ∨ isLoad o.op = true) ∧ kindF P o.op = 2
  latew : ∀ i o, late.contains i = true → l[i]? = some o → ∀ j oj t, i < j → j < k → l[j]? = some oj → oj.dst = some t → t ∉ looksL l o
  sink : ∀ i, i < k → late.contains i = false → k < l.length → ∃ j, i < j ∧ j ≤ k ∧ late.contains j = false ∧ Region.waitsFor .any l.toArray j i = true
  tailg : ∀ t o, k ≤ t → l[t]? = some o → o.guard = none
  chain : ∀ t, k < t → t < l.length → Region.waitsFor .any l.toArray t (t - 1) = true

theorem floatB_spec {l : List Oper} {k : Nat} {late : List Nat} (h : floatB P l k late = true) : FloatS P l k late := by
  unfold floatB at h
  simp only [Bool.and_eq_true, decide_eq_true_eq, List.all_eq_true, List.mem_range] at h
  obtain ⟨⟨⟨⟨h1, h2⟩, h3⟩, h4⟩, h5⟩ := h
  have hlk : ∀ i, late.contains i = true → i < k := fun i hi => by
    have := h3 i (by simpa using hi)
    simpa using this
  refine ⟨h1, h2, hlk, fun i o hi ho => ?_, fun i o hi ho j oj t hij hjk hj hd => ?_, fun i hi hl hk => ?_, fun t o ht ho => ?_, fun t ht htl => ?_⟩
  · have := h4 i (hlk i hi)
    rw [if_pos hi, ho] at this
    simp only [Bool.and_eq_true, beq_iff_eq, Option.isNone_iff_eq_none, Bool.or_eq_true] at this
    exact ⟨this.1.1.1, this.1.1.2, this.1.2⟩
  · have := h4 i (hlk i hi)
    rw [if_pos hi, ho] at this
    simp only [Bool.and_eq_true, List.all_eq_true, List.mem_range] at this
    have h6 := this.2 j hjk
    rw [hj] at h6
    simp only [hd, Bool.or_eq_true, decide_eq_true_eq, Bool.not_eq_true'] at h6
    rcases h6 with e | e
    · omega
    · intro hm
      rw [← List.contains_iff_mem] at hm
      rw [hm] at e
      cases e
  · have := h4 i hi
    rw [if_neg (by rw [hl]; decide)] at this
    simp only [Bool.or_eq_true, decide_eq_true_eq] at this
    rcases this with e | e
    · omega
    · rw [List.any_eq_true] at e
      obtain ⟨j, hj, e⟩ := e
      simp only [Bool.and_eq_true, decide_eq_true_eq, Bool.not_eq_true'] at e
      rw [List.mem_range] at hj
      exact ⟨j, e.1.1, by omega, e.1.2, e.2⟩
  · have hlt := (List.getElem?_eq_some_iff.1 ho).1
    have := h5 t hlt
    rw [ho] at this
    simp only [Bool.or_eq_true, decide_eq_true_eq, Bool.and_eq_true, Option.isNone_iff_eq_none] at this
    rcases this with e | e
    · omega
    · exact e.1
  · have := h5 t htl
    simp only [Bool.or_eq_true, decide_eq_true_eq, Bool.and_eq_true] at this
    rcases this with e | ⟨_, e | e⟩
    · omega
    · omega
    · exact e

structure InvF (l : List Oper) (k : Nat) (Vs : List AVal) (s : Slots) (ψ : PMap) (n : Nat) (listed : Array Bool) (a : Act) : Prop where
  size : listed.size = l.length
  closed : ∀ j oj, l[j]? = some oj → listed.getD j false = true → ∀ e ∈ oj.after, Region.binds .any e = true → listed.getD e.on false = true
  tsize : a.tmps.size = n
  defers : a.defers = []
  done : ∀ t j oj, j < k → l[j]? = some oj → oj.dst = some t → listed.getD j false = true → VR ψ (Vs.getD j .dead) (a.tmps.getD t undef)
  still : ∀ t, (∀ j oj, l[j]? = some oj → oj.dst = some t → listed.getD j false = false) → VR ψ (s.get t) (a.tmps.getD t undef)

theorem put_get_ne (a : Act) {d : Option Tmp} {v : Value} {t : Nat} (hne : d ≠ some t) : (a.put d v).tmps.getD t undef = a.tmps.getD t undef := put_tmps_ne a d v hne
theorem put_get_eq (a : Act) {d : Option Tmp} {v : Value} {t : Nat} (hd : d = some t) (ht : t < a.tmps.size) : (a.put d v).tmps.getD t undef = v := by rw [hd]; simp [Act.put, ht]
theorem put_size (a : Act) (d : Option Tmp) (v : Value) : (a.put d v).tmps.size = a.tmps.size := by cases d <;> simp [Act.put]
theorem put_defers (a : Act) (d : Option Tmp) (v : Value) : (a.put d v).defers = a.defers := by cases d <;> simp [Act.put]

/-- What operation i looks at lies in its slots. -/
theorem InvF.looks {l : List Oper} {k : Nat} (hB : orderB l = true) {Vs : List AVal} {s : Slots} {ψ : PMap} {listed : Array Bool} {a : Act} (inv : InvF l k Vs s ψ n listed a) {i : Nat} (hik : i < k) {o : Oper} (hol : l[i]? = some o) (hif : listed.getD i false = false)
    (hedges : ∀ e ∈ o.after, Region.binds .any e = true → listed.getD e.on false = true) : SRel ψ n ((slotsAt s l Vs i).keep (looksL l o)) a := by
  have hilt : i < l.length := (List.getElem?_eq_some_iff.1 hol).1
  have spec := orderB_spec hB hol
  refine ⟨inv.tsize, inv.defers, fun t => ?_⟩
  rw [Slots.get_keep]
  by_cases ht : (looksL l o).contains t = true
  · rw [if_pos ht]
    have ht' : t ∈ looksL l o := by simpa using ht
    by_cases hw : ∃ (j : Nat) (oj : Oper), l[j]? = some oj ∧ oj.dst = some t
    · obtain ⟨j, oj, hj, hd⟩ := hw
      rcases (spec.2 j oj t hj hd).2 ht' with ⟨c1, c2⟩ | ⟨c1, c2⟩
      · rw [slotsAt_writer hB s Vs hj hd i c1 (by omega)]
        refine inv.done t j oj (by omega) hj hd ?_
        obtain ⟨oi, g1, e, g2, g3, g4⟩ := Region.waitsFor_spec c2
        have g1' : l[i]? = some oi := by simpa using g1
        rw [hol] at g1'
        obtain rfl := Option.some.inj g1'
        rw [← g4]
        exact hedges e g2 g3
      · rw [slotsAt_none s Vs i fun j' oj' hj'' hj' hd' => by
          have := ((orderB_spec hB hj').2 j oj t hj hd).1 hd'
          omega]
        refine inv.still t fun j' oj' hj' hd' => ?_
        have e := ((orderB_spec hB hj').2 j oj t hj hd).1 hd'
        subst e
        cases hl : listed.getD j' false with
        | false => rfl
        | true =>
          exfalso
          obtain ⟨oi, g1, e, g2, g3, g4⟩ := Region.waitsFor_spec c2
          have g1' : l[j']? = some oi := by simpa using g1
          have := inv.closed j' oi g1' hl e g2 g3
          rw [g4, hif] at this
          cases this
    · rw [slotsAt_none s Vs i fun j oj _ hj hd => hw ⟨j, oj, hj, hd⟩]
      exact inv.still t fun j oj hj hd => absurd ⟨j, oj, hj, hd⟩ hw
  · rw [if_neg ht]
    trivial

/-- One operation more is listed. -/
theorem InvF.next {l : List Oper} {k : Nat} (hall : dstsOk n l = true) (hB : orderB l = true) {Vs : List AVal} {s : Slots} {ψ ψ' : PMap} (hle : ψ.le ψ') {listed : Array Bool} {a : Act} (inv : InvF l k Vs s ψ n listed a) {i : Nat} {o : Oper} (hol : l[i]? = some o)
    (hedges : ∀ e ∈ o.after, Region.binds .any e = true → listed.getD e.on false = true) {v : Value} (hv : i < k → VR ψ' (Vs.getD i .dead) v) : InvF l k Vs s ψ' n (listed.setIfInBounds i true) (a.put o.dst v) := by
  have hilt : i < l.length := (List.getElem?_eq_some_iff.1 hol).1
  have hisz : i < listed.size := by rw [inv.size]; exact hilt
  have spec := orderB_spec hB hol
  have hdn : ∀ d, o.dst = some d → d < n := fun d hd => nth_lt l i d hall (by rw [nthDst_eq, hol]; exact hd)
  refine ⟨by simp [inv.size], fun j oj hj hl e he hb => ?_, by rw [put_size]; exact inv.tsize, by rw [put_defers]; exact inv.defers, fun t j oj hjk hj hd hl => ?_, fun t hun => ?_⟩
  · by_cases e1 : e.on = i
    · rw [e1]; exact set_self hisz
    · rw [set_other e1]
      by_cases e2 : j = i
      · subst e2
        rw [hol] at hj
        obtain rfl := Option.some.inj hj
        exact hedges e he hb
      · rw [set_other e2] at hl
        exact inv.closed j oj hj hl e he hb
  · by_cases e : j = i
    · subst e
      rw [hol] at hj
      obtain rfl := Option.some.inj hj
      rw [put_get_eq a hd (by rw [inv.tsize]; exact hdn t hd)]
      exact hv hjk
    · rw [set_other e] at hl
      rw [put_get_ne a fun hod => e (((spec.2 j oj t hj hd).1 hod).symm)]
      exact VR_mono hle _ _ (inv.done t j oj hjk hj hd hl)
  · have hne : o.dst ≠ some t := fun hod => by
      have := hun i o hol hod
      rw [set_self hisz] at this
      cases this
    rw [put_get_ne a hne]
    refine VR_mono hle _ _ (inv.still t fun j oj hj hd => ?_)
    have e : j ≠ i := fun e => by subst e; rw [hol] at hj; obtain rfl := Option.some.inj hj; exact hne hd
    have := hun j oj hj hd
    rwa [set_other e] at this

/-- The tail is under way: p is the next of it. -/
def PhaseT (P : Program) (w₀ : World) (l : List Oper) (k : Nat) (late ks : List Nat) (hf : AHeap) (Vs : List AVal) (K : Slots → AHeap → Prop) (listed : Array Bool) (ψ : PMap) (a : Act) (w : World) : Prop :=
  ∃ p S g, k ≤ p ∧ p ≤ l.length ∧ (∀ t, k ≤ t → t < l.length → (listed.getD t false = true ↔ t < p)) ∧ (∀ i, i < k → late.contains i = false → listed.getD i false = true) ∧ HRel w₀ ψ g w ∧ kOps P w₀ ks (l.drop p) S g K ∧ (∀ j ∈ ks, g j = hf j) ∧
    (∀ i oi t, i < k → l[i]? = some oi → oi.dst = some t → S.get t = Vs.getD i .dead) ∧
    ∀ t, (∃ i oi, i < k ∧ l[i]? = some oi ∧ oi.dst = some t ∧ listed.getD i false = false) ∨ VR ψ (S.get t) (a.tmps.getD t undef)

def PhaseH (w₀ : World) (h₀ : AHeap) (l : List Oper) (k N : Nat) (bl : List (Option Blk)) (listed : Array Bool) (ψ : PMap) (w : World) : Prop :=
  (∀ t, k ≤ t → t < l.length → listed.getD t false = false) ∧ HH w₀ h₀ N bl listed ψ w

theorem head_done {l : List Oper} {k : Nat} {late : List Nat} (F : FloatS P l k late) {Vs : List AVal} {s : Slots} {ψ : PMap} {listed : Array Bool} {a : Act} (inv : InvF l k Vs s ψ n listed a) (hkl : k < l.length)
    (hedges : ∀ o, l[k]? = some o → ∀ e ∈ o.after, Region.binds .any e = true → listed.getD e.on false = true) : ∀ d i, i + d = k → i < k → late.contains i = false → listed.getD i false = true := by
  intro d
  induction d using Nat.strongRecOn with
  | ind d ih =>
    intro i hd hik hl
    obtain ⟨j, h1, h2, h3, h4⟩ := F.sink i hik hl hkl
    obtain ⟨oj, g1, e, g2, g3, g4⟩ := Region.waitsFor_spec h4
    have g1' : l[j]? = some oj := by simpa using g1
    rw [← g4]
    rcases Nat.eq_or_lt_of_le h2 with e' | e'
    · subst e'
      exact hedges oj g1' e g2 g3
    · exact inv.closed j oj g1' (ih (k - j) (by omega) j (by omega) e' h3) e g2 g3

theorem any_okF {l : List Oper} {k : Nat} {late ks : List Nat} (hall : dstsOk n l = true) (F : FloatS P l k late) {s : Slots} {Vs : List AVal} {N : Nat} {bl : List (Option Blk)} (hbl : bl.length = k)
    (hst : ∀ i o, i < k → l[i]? = some o → HeadStep P w₀ n h₀ l N bl (slotsAt s l Vs i) i o (Vs.getD i .dead))
    (hlb : ∀ i, late.contains i = true → bl.getD i none = none)
    (hlo : lateOK l ks (slotsAt s l Vs k) late)
    (hlate : ∀ i o, late.contains i = true → l[i]? = some o → ∃ H, (∀ j b, H j = some b → (gOf h₀ N bl fun _ => true) j = some b) ∧ (pop P w₀ H ((slotsAt s l Vs i).keep (looksL l o)) o.op).pre ∧ Vs.getD i .dead = (pop P w₀ H ((slotsAt s l Vs i).keep (looksL l o)) o.op).val)
    {K : Slots → AHeap → Prop} (hK : kOps P w₀ ks (l.drop k) (slotsAt s l Vs k) (gOf h₀ N bl fun _ => true) K) {φ : PMap} {Q : Exit → Act → World → Prop}
    (hq : ∀ ψ S g a w, φ.le ψ → HRel w₀ ψ g w → SRel ψ n S a → K S g → Q .normal a w) : ∀ (fuel : Nat) (listed : Array Bool) (a : Act) (w : World) (ψ : PMap), φ.le ψ → InvF l k Vs s ψ n listed a →
    (PhaseH w₀ h₀ l k N bl listed ψ w ∨ PhaseT P w₀ l k late ks (gOf h₀ N bl fun _ => true) Vs K listed ψ a w) → (listed.toList.filter (!·)).length ≤ fuel → wpAny P .any l.toArray Q fuel listed a w := by
  have hB := F.order
  -- from the head to the tail
  have turn : ∀ (listed : Array Bool) (a : Act) (w : World) (ψ : PMap), InvF l k Vs s ψ n listed a → PhaseH w₀ h₀ l k N bl listed ψ w → (∀ i, i < k → late.contains i = false → listed.getD i false = true) → PhaseT P w₀ l k late ks (gOf h₀ N bl fun _ => true) Vs K listed ψ a w := by
    intro listed a w ψ inv ⟨h1, h2, h3⟩ hd
    have hS : ∀ i oi t, i < k → l[i]? = some oi → oi.dst = some t → (slotsAt s l Vs k).get t = Vs.getD i .dead := fun i oi t hi ho hdt => slotsAt_writer hB s Vs ho hdt k hi F.kle
    refine ⟨k, _, _, Nat.le_refl _, F.kle, fun t ht htl => ?_, hd, ?_, hK, fun _ _ => rfl, hS, fun t => ?_⟩
    · rw [h1 t ht htl]
      simp; omega
    · have e : (gOf h₀ N bl fun i => listed.getD i false) = gOf h₀ N bl fun _ => true := by
        funext j
        simp only [gOf, cond_true]
        by_cases c : N ≤ j
        · rw [if_pos c, if_pos c]
          cases hl : listed.getD (j - N) false with
          | true => rfl
          | false =>
            simp only [cond_false]
            cases hc : late.contains (j - N) with
            | true => exact (hlb _ hc).symm
            | false =>
              by_cases c2 : j - N < k
              · rw [hd _ c2 hc] at hl; cases hl
              · have : bl[j - N]? = none := List.getElem?_eq_none (by omega)
                simp [List.getD, this]
        · rw [if_neg c, if_neg c]
      rw [← e]; exact h2
    · by_cases hw : ∃ i oi, i < k ∧ l[i]? = some oi ∧ oi.dst = some t
      · obtain ⟨i, oi, c1, c2, c3⟩ := hw
        cases hl : listed.getD i false with
        | false => exact .inl ⟨i, oi, c1, c2, c3, hl⟩
        | true =>
          right
          rw [hS i oi t c1 c2 c3]
          exact inv.done t i oi c1 c2 c3 hl
      · right
        rw [slotsAt_none s Vs k fun j oj hj ho hd' => hw ⟨j, oj, hj, ho, hd'⟩]
        refine inv.still t fun j oj ho hd' => ?_
        rcases Nat.lt_or_ge j k with c | c
        · exact absurd ⟨j, oj, c, ho, hd'⟩ hw
        · exact h1 j c (List.getElem?_eq_some_iff.1 ho).1
  have fin : ∀ (listed : Array Bool) (a : Act) (w : World) (ψ : PMap), φ.le ψ → InvF l k Vs s ψ n listed a → (PhaseH w₀ h₀ l k N bl listed ψ w ∨ PhaseT P w₀ l k late ks (gOf h₀ N bl fun _ => true) Vs K listed ψ a w) → Region.ready .any l.toArray listed = [] → Q .normal a w := by
    intro listed a w ψ hle inv hph hrd
    have hal := all_listed hB inv.size hrd
    have hT : PhaseT P w₀ l k late ks (gOf h₀ N bl fun _ => true) Vs K listed ψ a w := by
      rcases hph with hph | hph
      · exact turn listed a w ψ inv hph fun i hi _ => hal i (by have := F.kle; omega)
      · exact hph
    obtain ⟨p, S, g, h1, h2, h3, h4, h5, h6, _, h7, h8⟩ := hT
    have hp : p = l.length := by
      rcases Nat.eq_or_lt_of_le h2 with e | e
      · exact e
      · have := (h3 p h1 e).1 (hal p e)
        omega
    subst hp
    rw [List.drop_length] at h6
    refine hq ψ S g a w hle h5 ⟨inv.tsize, inv.defers, fun t => ?_⟩ h6
    rcases h8 t with ⟨i, oi, c1, c2, _, c4⟩ | c
    · rw [hal i (List.getElem?_eq_some_iff.1 c2).1] at c4; cases c4
    · exact c
  intro fuel
  induction fuel with
  | zero =>
    intro listed a w ψ hle inv hph hc
    have hrd : Region.ready .any l.toArray listed = [] := by
      cases hrd : Region.ready .any l.toArray listed with
      | nil => rfl
      | cons i r =>
        exfalso
        have hm : i ∈ Region.ready .any l.toArray listed := by rw [hrd]; exact List.mem_cons_self
        obtain ⟨h1, o, ho, _⟩ := mem_ready.1 hm
        have hi : i < listed.size := by
          have : l[i]? = some o := by simpa using ho
          rw [inv.size]; exact (List.getElem?_eq_some_iff.1 this).1
        have h2 : listed.toList[i]? = some false := by
          simp [Array.getD, hi] at h1
          simp [hi, h1]
        have := List.mem_of_getElem? h2
        have hmem : false ∈ listed.toList.filter (!·) := by simp [List.mem_filter, this]
        have := List.length_pos_of_mem hmem
        omega
    exact ⟨hrd, fin listed a w ψ hle inv hph hrd⟩
  | succ fuel ih =>
    intro listed a w ψ hle inv hph hc
    refine ⟨fun hrd => fin listed a w ψ hle inv hph hrd, fun i hi => ?_⟩
    obtain ⟨h1, o, ho, hedges⟩ := mem_ready.1 hi
    have hol : l[i]? = some o := by simpa using ho
    have hilt : i < l.length := (List.getElem?_eq_some_iff.1 hol).1
    have hisz : i < listed.size := by rw [inv.size]; exact hilt
    have hif : listed.getD i false = false := by simp [Array.getD, hisz] at h1 ⊢; exact h1
    have hcount : ((listed.setIfInBounds i true).toList.filter (!·)).length ≤ fuel := by
      have h2 : listed.toList[i]? = some false := by
        simp [Array.getD, hisz] at h1
        simp [hisz, h1]
      have := count_set listed.toList i h2
      have e : (listed.setIfInBounds i true).toList = listed.toList.set i true := by simp
      rw [e]
      omega
    have goal : (if Region.wanted o (yielded l.toArray a.tmps) = true then o.wp P a w (wpAny P .any l.toArray Q fuel (listed.setIfInBounds i true)) Q else wpAny P .any l.toArray Q fuel (listed.setIfInBounds i true) (a.put o.dst undef) w) := by
      -- the tail's next operation
      have tailstep : ∀ (hT : PhaseT P w₀ l k late ks (gOf h₀ N bl fun _ => true) Vs K listed ψ a w), k ≤ i → (if Region.wanted o (yielded l.toArray a.tmps) = true then o.wp P a w (wpAny P .any l.toArray Q fuel (listed.setIfInBounds i true)) Q else wpAny P .any l.toArray Q fuel (listed.setIfInBounds i true) (a.put o.dst undef) w) := by
        rintro ⟨p, S, g, t1, t2, t3, t4, t5, t6, tk, t7, t8⟩ hki
        have hg := F.tailg i o hki hol
        have hw : Region.wanted o (yielded l.toArray a.tmps) = true := by simp [Region.wanted, hg]
        rw [if_pos hw]
        have hpi : p ≤ i := by
          refine Nat.le_of_not_lt fun hlt => ?_
          rw [(t3 i hki hilt).2 hlt] at hif; cases hif
        have hip : i = p := by
          rcases Nat.eq_or_lt_of_le hpi with e | e
          · exact e.symm
          · exfalso
            have hch := F.chain i (by omega) hilt
            obtain ⟨oi, g1, e', g2, g3, g4⟩ := Region.waitsFor_spec hch
            have g1' : l[i]? = some oi := by simpa using g1
            rw [hol] at g1'
            obtain rfl := Option.some.inj g1'
            have h5 := hedges e' g2 g3
            rw [g4] at h5
            have := (t3 (i - 1) (by omega) (by omega)).1 h5
            omega
        subst hip
        have hdrop : l.drop i = o :: l.drop (i + 1) := by
          rw [List.drop_eq_getElem_cons hilt]
          congr 1
          exact (List.getElem?_eq_some_iff.1 hol).2
        rw [hdrop] at t6
        have t6 := t6.2
        have spec := orderB_spec hB hol
        have hlook : ∀ t, t ∈ looksL l o → VR ψ (S.get t) (a.tmps.getD t undef) := by
          intro t ht
          rcases t8 t with ⟨j, oj, c1, c2, c3, c4⟩ | c
          · exfalso
            rcases (spec.2 j oj t c2 c3).2 ht with ⟨d1, d2⟩ | ⟨d1, d2⟩
            · obtain ⟨oi, g1, e', g2, g3, g4⟩ := Region.waitsFor_spec d2
              have g1' : l[i]? = some oi := by simpa using g1
              rw [hol] at g1'
              obtain rfl := Option.some.inj g1'
              have := hedges e' g2 g3
              rw [g4, c4] at this
              cases this
            · omega
          · exact c
        have hs : SRel ψ n (S.keep (looksL l o)) a := by
          refine ⟨inv.tsize, inv.defers, fun t => ?_⟩
          rw [Slots.get_keep]
          by_cases ht : (looksL l o).contains t = true
          · rw [if_pos ht]; exact hlook t (by simpa using ht)
          · rw [if_neg ht]; trivial
        have t6' := t6
        rw [← eop_congr (s' := S.keep (looksL l o)) o.op (ev_mem fun t ht => by unfold looksL; exact List.mem_append_left _ ht)] at t6'
        refine eop_ok o t6' t5 hs fun ψ' x h' v w' e1 e2 e3 ⟨ek, e4⟩ => ?_
        refine ih _ _ _ ψ' (PMap.le_trans hle e1) (inv.next hall hB e1 hol hedges fun hik => absurd hik (by omega)) (.inr ⟨i + 1, _, h', by omega, by omega, fun t ht htl => ?_, fun j hj hl => ?_, e2, e4, fun j hj => (ek j hj).trans (tk j hj), fun j oj t hj hoj hd => ?_, fun t => ?_⟩) hcount
        · by_cases e : t = i
          · subst e
            rw [set_self hisz]
            simp
          · rw [set_other e, t3 t ht htl]
            omega
        · rw [set_other (by omega)]
          exact t4 j hj hl
        · rw [put_get, if_neg fun hod => by have := (spec.2 j oj t hoj hd).1 hod; omega]
          exact t7 j oj t hj hoj hd
        · by_cases hod : o.dst = some t
          · right
            rw [put_get, if_pos hod, put_get_eq a hod (by rw [inv.tsize]; exact nth_lt l i t hall (by rw [nthDst_eq, hol]; exact hod))]
            exact e3
          · rcases t8 t with ⟨j, oj, c1, c2, c3, c4⟩ | c
            · exact .inl ⟨j, oj, c1, c2, c3, by rw [set_other (by omega)]; exact c4⟩
            · right
              rw [put_get, if_neg hod, put_get_ne a hod]
              exact VR_mono e1 _ _ c
      rcases hph with hH | hT
      · rcases Nat.lt_or_ge i k with hik | hki
        · -- an operation of the head
          refine hst i o hik hol listed ψ w a _ Q hif hisz hH.2 (inv.looks hB hik hol hif hedges) fun ψ' v w' hle' hh' hv => ?_
          exact ih _ _ _ ψ' (PMap.le_trans hle hle') (inv.next hall hB hle' hol hedges fun _ => hv) (.inl ⟨fun t ht htl => by rw [set_other (by omega)]; exact hH.1 t ht htl, hh'⟩) hcount
        · have hik : i = k := by
            rcases Nat.eq_or_lt_of_le hki with e | e
            · exact e.symm
            · exfalso
              have hch := F.chain i e hilt
              obtain ⟨oi, g1, e', g2, g3, g4⟩ := Region.waitsFor_spec hch
              have g1' : l[i]? = some oi := by simpa using g1
              rw [hol] at g1'
              obtain rfl := Option.some.inj g1'
              have h5 := hedges e' g2 g3
              rw [g4, hH.1 (i - 1) (by omega) (by omega)] at h5
              cases h5
          refine tailstep (turn listed a w ψ inv hH fun j hj hl => ?_) hki
          exact head_done F inv (by omega) (fun o' ho' => by
            subst hik
            rw [hol] at ho'
            obtain rfl := Option.some.inj ho'
            exact hedges) (k - j) j (by omega) hj hl
      · rcases Nat.lt_or_ge i k with hik | hki
        · -- a late one
          obtain ⟨p, S, g, t1, t2, t3, t4, t5, t6, tk, t7, t8⟩ := hT
          have hlt : late.contains i = true := by
            cases hc : late.contains i with
            | true => rfl
            | false => rw [t4 i hik hc] at hif; cases hif
          obtain ⟨hg, hhl, hkf⟩ := F.lateo i o hlt hol
          have hw : Region.wanted o (yielded l.toArray a.tmps) = true := by simp [Region.wanted, hg]
          rw [if_pos hw]
          obtain ⟨H, q0, q1, q2⟩ := hlate i o hlt hol
          have hs := inv.looks hB hik hol hif hedges
          have same : pop P w₀ g ((slotsAt s l Vs i).keep (looksL l o)) o.op = pop P w₀ H ((slotsAt s l Vs i).keep (looksL l o)) o.op := by
            rcases hhl with hhl | hhl
            · exact pop_heapless hhl
            · cases hop : o.op with
              | load ty x =>
                rw [hop] at q1
                refine load_same ?_ q1
                have hev : ev ((slotsAt s l Vs i).keep (looksL l o)) x = ev (slotsAt s l Vs k) x := by
                  rw [ev_keep (looks_of (by rw [hop]; simp [Op.operands]))]
                  cases x with
                  | tmp t =>
                    have htl : t ∈ looksL l o := looks_of (x := .tmp t) (by rw [hop]; simp [Op.operands]) t rfl
                    simp only [ev]
                    have noW : ∀ m, i ≤ m → m ≤ k → (slotsAt s l Vs m).get t = (slotsAt s l Vs i).get t := by
                      intro m
                      induction m with
                      | zero => intro h1 _; rw [Nat.le_zero.1 h1]
                      | succ m ihm =>
                        intro h1 h2
                        rcases Nat.eq_or_lt_of_le h1 with e | e
                        · rw [e]
                        · rw [slotsAt]
                          cases hm : l[m]? with
                          | none => exact ihm (by omega) (by omega)
                          | some om =>
                            simp only
                            rw [put_get, if_neg fun hd => ?_]
                            · exact ihm (by omega) (by omega)
                            · rcases Nat.eq_or_lt_of_le (show i ≤ m by omega) with e' | e'
                              · subst e'
                                rw [hol] at hm
                                obtain rfl := Option.some.inj hm
                                rcases ((orderB_spec hB hol).2 i o t hol hd).2 htl with ⟨c, _⟩ | ⟨c, _⟩ <;> omega
                              · exact F.latew i o hlt hol m om t e' (by omega) hm hd htl
                    exact (noW k (by omega) (Nat.le_refl _)).symm
                  | _ => rfl
                rcases lateOK_mem hlo i (by simpa using hlt) o ty x hol hop with ⟨j, pp, c1, c2⟩ | ⟨b, pp, c1⟩
                · exact .inl ⟨j, pp, by rw [hev]; exact c1, fun b hb => by rw [tk j c2]; exact q0 j b hb⟩
                · exact .inr ⟨b, pp, by rw [hev]; exact c1⟩
              | _ => rw [hop] at hhl; cases hhl
          rw [← same] at q1 q2
          obtain ⟨r, e1, e2⟩ := pop_ok o q1 t5 hs
          rw [← q2] at e2
          refine wp_value (e1 w (Same.refl w)) ?_
          refine ih _ _ _ ψ hle (inv.next hall hB ψ.le_refl hol hedges fun _ => e2) (.inr ⟨p, S, g, t1, t2, fun t ht htl => ?_, fun j hj hl => ?_, t5, t6, tk, t7, fun t => ?_⟩) hcount
          · rw [set_other (by omega)]; exact t3 t ht htl
          · by_cases e : j = i
            · subst e; exact set_self hisz
            · rw [set_other e]; exact t4 j hj hl
          · by_cases hod : o.dst = some t
            · right
              rw [t7 i o t hik hol hod, put_get_eq a hod (by rw [inv.tsize]; exact nth_lt l i t hall (by rw [nthDst_eq, hol]; exact hod))]
              exact e2
            · rcases t8 t with ⟨j, oj, c1, c2, c3, c4⟩ | c
              · refine .inl ⟨j, oj, c1, c2, c3, ?_⟩
                have e : j ≠ i := fun e => by subst e; rw [hol] at c2; obtain rfl := Option.some.inj c2; exact hod c3
                rw [set_other e]; exact c4
              · right
                rw [put_get_ne a hod]
                exact c
        · exact tailstep hT hki
    simp only [wpOp, ho]
    split
    · rename_i hw
      rw [if_pos hw] at goal
      exact .inl goal
    · rename_i hw
      rw [if_neg hw] at goal
      exact goal

/-- A statement of open order: operations that read, call or lay blocks, in any order; late ones that only look at slots; a chained tail. -/
theorem awp_draw_G {Q : Exit → Slots → AHeap → Prop} {s : Slots} {h : AHeap} {id : Nat} {l : List Oper} (k : Nat) (late ks : List Nat) (hm : P.follows .mixedOrders = true) (hB : floatB P l k late = true) (hd : dstsOk n l = true)
    (hc : fOps P w₀ l h (l.take k) s h (fun s' h' => lateOK l ks s' late ∧ kOps P w₀ ks (l.drop k) s' h' fun s'' h'' => Q .normal s'' h'')) : Awp P w₀ n (.region id l.toArray true) Q s h := by
  intro φ a w hr hs
  have F := floatB_spec hB
  obtain ⟨N₀, hN₀⟩ := hr.fin
  obtain ⟨N, hN1, hNt⟩ := tyOf_run N₀ l.length
  have hNφ : ∀ j, N ≤ j → φ j = none := fun j hj => hN₀ j (Nat.le_trans hN1 hj)
  have hN : ∀ j, N ≤ j → h j = none := fun j hj => hr.free (hNφ j hj)
  have hg0 : gOf h N [] (fun _ => true) = h := by
    funext j
    simp only [gOf, cond_true]
    by_cases c : N ≤ j
    · rw [if_pos c, hN j c]; rfl
    · rw [if_neg c]
  have htl : (l.take k).length = k := by have := F.kle; simp; omega
  obtain ⟨Vs, bl, g1, g2, g3, g4⟩ := fOps_steps (P := P) (w₀ := w₀) (n := n) (h₀ := h) hd hN hNt (l.drop k) (s := s) (l.take k) [] [] [] (by simp) rfl rfl (by rw [hg0]; exact hc)
  simp only [List.nil_append, List.length_nil, Nat.zero_le, true_implies, Nat.zero_add, htl] at g1 g2 g3 g4
  refine wp_region_any hm ?_
  have hf : ∀ j, (Array.replicate l.toArray.size false).getD j false = false := fun j => by simp [Array.getD]
  refine any_okF (φ := φ) hd F (s := s) (Vs := Vs) (N := N) (bl := bl) g2 (fun i o hi ho => (g3 i o hi ho).2.1) (fun i hl => ?_) g4.1 (fun i o hl ho => ?_) g4.2 (fun ψ S g a' w' hle h1 h2 h3 => ⟨ψ, S, g, hle, h1, h2, h3⟩) _ _ _ _ φ φ.le_refl
    ⟨by simp, fun j oj _ hl => (by rw [hf] at hl; cases hl), hs.size, hs.defers, fun t j oj _ _ _ hl => (by rw [hf] at hl; cases hl), fun t _ => hs.val t⟩ (.inl ⟨fun t _ _ => hf t, ?_, fun i hi _ => hNφ _ (by omega)⟩) ?_
  · obtain ⟨o, ho⟩ : ∃ o, l[i]? = some o := ⟨_, List.getElem?_eq_getElem (by have := F.latek i hl; have := F.kle; omega)⟩
    obtain ⟨_, _, q3⟩ := F.lateo i o hl ho
    exact ((g3 i o (F.latek i hl) ho).2.2 q3).1
  · obtain ⟨q1, q2, q3⟩ := F.lateo i o hl ho
    exact ((g3 i o (F.latek i hl) ho).2.2 q3).2 q1
  · have e : (gOf h N bl fun i => (Array.replicate l.toArray.size false).getD i false) = h := by
      funext j
      simp only [gOf, hf, cond_false]
      by_cases c : N ≤ j
      · rw [if_pos c, hN j c]
      · rw [if_neg c]
    rw [e]
    exact hr.drew
  · have := List.length_filter_le (!·) (Array.replicate l.toArray.size false).toList
    simpa using this

theorem awp_dseq_G {Q : Exit → Slots → AHeap → Prop} {s : Slots} {h : AHeap} {id : Nat} {l : List Oper} {y : Code} (k : Nat) (late ks L : List Nat) (hm : P.follows .mixedOrders = true) (hB : floatB P l k late = true) (hd : dstsOk n l = true)
    (hc : ∀ K : Slots → AHeap → Prop, (∀ s h, Awp P w₀ n y Q s h → K s h) → fOps P w₀ l h (l.take k) s h (fun s' h' => lateOK l ks s' late ∧ kOps P w₀ ks (l.drop k) s' h' fun s'' h'' => K (s''.keep L) h'')) : Awp P w₀ n (.seq (.region id l.toArray true) y) Q s h :=
  awp_seq (awp_draw_G k late ks hm hB hd (fOps_mono (fun _ _ ha => ⟨ha.1, kOps_mono (fun _ _ hk => Awp.keep L hk) ha.2⟩) (hc (fun s h => Awp P w₀ n y Q s h) (fun _ _ hk => hk))))

/-- No late loads. -/
def heaplessB (l : List Oper) (late : List Nat) : Bool := late.all fun i => match l[i]? with | some o => !isLoad o.op | none => true
theorem lateOK_heapless {l : List Oper} {s : Slots} : ∀ {late : List Nat}, heaplessB l late = true → lateOK l [] s late
  | [], _ => trivial
  | i :: r, h => by
    unfold heaplessB at h
    simp only [List.all_cons, Bool.and_eq_true] at h
    refine ⟨?_, lateOK_heapless h.2⟩
    cases hi : l[i]? with
    | none => trivial
    | some o =>
      simp only
      have h1 := h.1
      rw [hi] at h1
      simp only [Bool.not_eq_true'] at h1
      cases hop : o.op <;> first | trivial | (rw [hop] at h1; cases h1)

theorem awp_draw_F {Q : Exit → Slots → AHeap → Prop} {s : Slots} {h : AHeap} {id : Nat} {l : List Oper} (k : Nat) (late : List Nat) (hm : P.follows .mixedOrders = true) (hB : (floatB P l k late && heaplessB l late) = true) (hd : dstsOk n l = true)
    (hc : fOps P w₀ l h (l.take k) s h (fun s' h' => aOps P w₀ l (l.drop k) s' h' fun s'' h'' => Q .normal s'' h'')) : Awp P w₀ n (.region id l.toArray true) Q s h := by
  rw [Bool.and_eq_true] at hB
  have F := floatB_spec hB.1
  refine awp_draw_G k late [] hm hB.1 hd (fOps_mono (fun s' h' ha => ⟨lateOK_heapless hB.2, kOps_of_aOps (fun o ho => ?_) ha⟩) hc)
  obtain ⟨j, hj⟩ := List.getElem?_of_mem ho
  rw [List.getElem?_drop] at hj
  exact F.tailg (k + j) o (by omega) hj

theorem awp_dseq_F {Q : Exit → Slots → AHeap → Prop} {s : Slots} {h : AHeap} {id : Nat} {l : List Oper} {y : Code} (k : Nat) (late L : List Nat) (hm : P.follows .mixedOrders = true) (hB : (floatB P l k late && heaplessB l late) = true) (hd : dstsOk n l = true)
    (hc : ∀ K : Slots → AHeap → Prop, (∀ s h, Awp P w₀ n y Q s h → K s h) → fOps P w₀ l h (l.take k) s h (fun s' h' => aOps P w₀ l (l.drop k) s' h' fun s'' h'' => K (s''.keep L) h'')) : Awp P w₀ n (.seq (.region id l.toArray true) y) Q s h :=
  awp_seq (awp_draw_F k late hm hB hd (fOps_mono (fun _ _ ha => awp_rseq.aOps_mono (fun _ _ hk => Awp.keep L hk) ha) (hc (fun s h => Awp P w₀ n y Q s h) (fun _ _ hk => hk))))
end
end Go.AM
