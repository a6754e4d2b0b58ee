/-
  An assertion layer over the model's wp, part D: structs and arrays by value, equality, the small builtins, and all reading operations together.
  Conditions: none. Nothing here is about a particular program.
-/
import Derived.Test.YthiiakghjoeikaaGreatDoorAmC
import Derived.Laws.StructEq
import Derived.Laws.Tables
set_option linter.unusedSimpArgs false
set_option linter.unnecessarySimpa false
set_option linter.unusedVariables false
namespace Go.AM
open Go.RowKit (Below)

/-! ### Building a struct or an array -/
def AVal.cells : AVal → List AVal
  | .agg cs => cs
  | x => [x]

theorem VRs_cells {φ : PMap} {x : AVal} {v : Value} (h : VR φ x v) (hl : x.live = true) : VRs φ x.cells v.cells.toList := by
  by_cases hx : ∃ cs, x = .agg cs
  · obtain ⟨cs, rfl⟩ := hx
    simp only [VR] at h
    obtain ⟨vs, rfl, hs⟩ := h
    simpa [AVal.cells, Value.cells] using hs
  · have e : x.cells = [x] := by
      unfold AVal.cells
      split
      · exact absurd ⟨_, rfl⟩ hx
      · rfl
    rw [e, VR_cellsV h (fun cs hcs => hx ⟨cs, hcs⟩) hl]
    simp only [VRs]
    exact ⟨v, [], rfl, h, rfl⟩

def setAt {α : Type} (cells : List α) (off : Nat) : List α → List α
  | [] => cells
  | c :: cs => setAt (cells.set off c) (off + 1) cs

theorem setAt_length {α : Type} : ∀ (vs cells : List α) (off : Nat), (setAt cells off vs).length = cells.length
  | [], _, _ => rfl
  | c :: cs, cells, off => by simp [setAt, setAt_length cs]

theorem VRs_setAt {φ : PMap} : ∀ {cs : List AVal} {us : List Value} {cells : List AVal} {vs : List Value} (off : Nat), VRs φ cs us → VRs φ cells vs → VRs φ (setAt cells off cs) (setAt vs off us)
  | [], us, _, _, _, h, h' => by simp only [VRs] at h; subst h; exact h'
  | c :: cs, us, cells, vs, off, h, h' => by
    simp only [VRs] at h
    obtain ⟨u, us', rfl, h1, h2⟩ := h
    simp only [setAt]
    exact VRs_setAt (off + 1) h2 (VRs_set h' off h1)

def fillA (place : Nat → Option (Nat × Nat)) (cells : List AVal) : List (Nat × AVal) → Option (List AVal)
  | [] => some cells
  | (i, v) :: rest =>
    match place i with
    | none => none
    | some (off, size) => if v.live = true ∧ v.cells.length = size ∧ off + size ≤ cells.length then fillA place (setAt cells off v.cells) rest else none

theorem foldl_setAt (off : Nat) : ∀ (us : List Value) (k : Nat) (cells : Array Value),
    ((us.zipIdx k).foldl (fun cs (x : Value × Nat) => cs.setIfInBounds (off + x.2) x.1) cells).toList = setAt cells.toList (off + k) us
  | [], _, _ => by simp [setAt]
  | u :: us, k, cells => by
    simp only [List.zipIdx_cons, List.foldl_cons, setAt]
    rw [foldl_setAt off us (k + 1)]
    simp [Nat.add_assoc]

inductive VParts (φ : PMap) : List (Nat × AVal) → List (Nat × Value) → Prop
  | nil : VParts φ [] []
  | cons {i : Nat} {x : AVal} {v : Value} {xs : List (Nat × AVal)} {vs : List (Nat × Value)} : VR φ x v → VParts φ xs vs → VParts φ ((i, x) :: xs) ((i, v) :: vs)

theorem fill_ok {φ : PMap} (place : Nat → Option (Nat × Nat)) : ∀ {xs : List (Nat × AVal)} {vs : List (Nat × Value)} {cells : List AVal} {us : Array Value} {r : List AVal}, VParts φ xs vs →
    VRs φ cells us.toList → fillA place cells xs = some r → ∃ r', Instr.fill place us vs = some r' ∧ VRs φ r r'.toList
  | [], vs, cells, us, r, h, hc, hf => by
    cases h
    simp only [fillA, Option.some.injEq] at hf
    subst hf
    exact ⟨us, by simp [Instr.fill], hc⟩
  | (i, x) :: xs, vs, cells, us, r, h, hc, hf => by
    cases h with
    | cons hv hs =>
      rename_i v vs
      simp only [fillA] at hf
      cases hp : place i with
      | none => simp [hp] at hf
      | some q =>
        obtain ⟨off, size⟩ := q
        simp only [hp] at hf
        split at hf
        · rename_i hcond
          obtain ⟨g1, g2, g3⟩ := hcond
          have hvc := VRs_cells hv g1
          have e1 := VRs_length hvc
          have e2 := VRs_length hc
          simp only [Array.length_toList] at e1 e2
          have step : VRs φ (setAt cells off x.cells) (v.cells.zipIdx.foldl (fun cs (c, j) => cs.setIfInBounds (off + j) c) us).toList := by
            have e3 : (v.cells.zipIdx.foldl (fun cs (c, j) => cs.setIfInBounds (off + j) c) us).toList = setAt us.toList off v.cells.toList := by
              rw [← Array.foldl_toList, Array.toList_zipIdx]
              exact foldl_setAt off v.cells.toList 0 us
            rw [e3]
            exact VRs_setAt off hvc hc
          obtain ⟨r', f1, f2⟩ := fill_ok place hs step hf
          refine ⟨r', ?_, f2⟩
          simp only [Instr.fill, hp]
          have c1 : ¬ (v.cells.size ≠ size ∨ off + v.cells.size > us.size) := by
            rintro (h1 | h1)
            · exact h1 (by omega)
            · omega
          have c2 : (decide (v.cells.size ≠ size) || decide (off + v.cells.size > us.size)) = false := by
            simp only [Bool.or_eq_false_iff, decide_eq_false_iff_not]
            exact ⟨fun h1 => c1 (.inl h1), fun h1 => c1 (.inr h1)⟩
          first
            | (rw [if_neg c1]; exact f1)
            | (simp only [c2]; exact f1)
        · cases hf

def placesOf (P : Program) (fs : List Field) : Option (List (Nat × Nat)) := fs.mapM fun f => (szOf P f.type).map fun n => (f.offset, n)

def buildA (P : Program) (t : TypeId) (parts : List (Nat × AVal)) : Option (List AVal) :=
  match zeOf P t, P.underlying t with
  | some z, some (.array _ e) => match szOf P e with
    | some es => fillA (fun i => some (i * es, es)) (z.cells.toList.map absS) parts
    | none => none
  | some z, some (.struct fs) => match placesOf P fs.toList with
    | some pl => fillA (fun i => pl[i]?) (z.cells.toList.map absS) parts
    | none => none
  | _, _ => none

theorem build_ok {P : Program} {φ : PMap} {t : TypeId} {xs : List (Nat × AVal)} {vs : Array (Nat × Value)} {r : List AVal} (hp : buildA P t xs = some r) (h : VParts φ xs vs.toList) :
    ∃ r', (∀ w, (Instr.build t vs).run P w = .ok (.agg r') w) ∧ VRs φ r r'.toList := by
  unfold buildA at hp
  have key : ∀ r', P.built t vs.toList = some r' → VRs φ r r'.toList → ∃ r', (∀ w, (Instr.build t vs).run P w = .ok (.agg r') w) ∧ VRs φ r r'.toList :=
    fun r' h1 h2 => ⟨r', fun w => run_build w t vs r' h1, h2⟩
  simp only [zeOf] at hp
  cases hi : P.info? t with
  | none => simp [hi] at hp
  | some it =>
    simp only [hi, Option.bind_some] at hp
    split at hp
    · rename_i z len e hz hu
      split at hp
      · rename_i es he
        obtain ⟨r', f1, f2⟩ := fill_ok _ h (VRs_absS φ _) hp
        refine key r' ?_ f2
        simp only [szOf, Option.map_eq_some_iff] at he
        obtain ⟨ie, hie, rfl⟩ := he
        simp only [Program.built, hi, hu, hz, hie]
        exact f1
      · cases hp
    · rename_i z fs hz hu
      split at hp
      · rename_i pl hpl
        obtain ⟨r', f1, f2⟩ := fill_ok _ h (VRs_absS φ _) hp
        refine key r' ?_ f2
        have e : fs.toList.mapM (fun f => (P.info? f.type).map fun i => (f.offset, i.size)) = some pl := by
          rw [← hpl]
          unfold placesOf
          congr 1
          funext f
          simp only [szOf]
          cases P.info? f.type <;> rfl
        simp only [Program.built, hi, hu, hz, e]
        simpa using f1
      · cases hp
    · cases hp

/-! ### Equality of structs -/
mutual
def eqA (P : Program) : Nat → TypeId → AVal → AVal → PR
  | 0, _, _, _ => .no
  | d + 1, t, x, y =>
    match x, y, P.underlying t with
    | .bool a, .bool b, some .bool => ⟨True, .bool (a == b)⟩
    | .int k a, .int k' b, some (.int _) => if k = k' then ⟨True, .bool (decide (a = b))⟩ else .no
    | .str a, .str b, some .string => ⟨True, .bool (decide (a = b))⟩
    | .agg xs, .agg ys, some (.struct fs) => if P.stoodInHeld t = false then eqFA P d xs ys fs.toList else .no
    | _, _, _ => .no
def eqFA (P : Program) : Nat → List AVal → List AVal → List Field → PR
  | 0, _, _, [] => ⟨True, .bool true⟩
  | 0, _, _, _ :: _ => .no
  | _ + 1, _, _, [] => ⟨True, .bool true⟩
  | d + 1, xs, ys, f :: fs =>
    if f.name = "_" then eqFA P d xs ys fs else
    match (eqA P d f.type (partA P f.type xs f.offset).val (partA P f.type ys f.offset).val).val, (eqFA P d xs ys fs).val with
    | .bool a, .bool b => ⟨(partA P f.type xs f.offset).pre ∧ (partA P f.type ys f.offset).pre ∧ (eqA P d f.type (partA P f.type xs f.offset).val (partA P f.type ys f.offset).val).pre ∧ (eqFA P d xs ys fs).pre, .bool (a && b)⟩
    | _, _ => .no
end

mutual
theorem eqA_ok {P : Program} {φ : PMap} : ∀ (d e : Nat) (t : TypeId) (x y : AVal) (u v : Value), d ≤ e → (eqA P d t x y).pre → VR φ x u → VR φ y v →
    ∃ b, (eqA P d t x y).val = .bool b ∧ ∀ w, (Op.equalIn e t u v).run P w = .ok b w
  | 0, _, _, _, _, _, _, _, hp, _, _ => by simp only [eqA] at hp; exact hp.elim
  | d + 1, 0, _, _, _, _, _, hde, _, _, _ => by omega
  | d + 1, e + 1, t, x, y, u, v, hde, hp, hx, hy => by
    simp only [eqA] at hp ⊢
    split at hp
    · rename_i a b ht
      simp only [VR] at hx hy; subst hx hy
      exact ⟨_, rfl, fun w => run_equalIn_bool' w e t a b ht⟩
    · rename_i k a k' b kk ht
      simp only [VR] at hx hy; subst hx hy
      split at hp
      · rename_i hk
        subst hk
        rw [if_pos rfl]
        refine ⟨_, rfl, fun w => ?_⟩
        rw [run_equalIn_int w e t k kk a b ht, beq_dec]
      · exact hp.elim
    · rename_i a b ht
      simp only [VR] at hx hy; subst hx hy
      refine ⟨_, rfl, fun w => ?_⟩
      rw [run_equalIn_string w e t _ _ ht, beq_dec, ByteArray.toList_eq, ByteArray.toList_eq]
    · rename_i xs ys fs ht
      split at hp
      · rename_i hh
        simp only [VR] at hx hy
        obtain ⟨us, rfl, hus⟩ := hx
        obtain ⟨vs, rfl, hvs⟩ := hy
        have hf : P.fieldsOf t = fs := by simp [Program.fieldsOf, ht]
        obtain ⟨b, e1, e2⟩ := eqFA_ok d e xs ys fs.toList us vs (by omega) hp hus hvs
        rw [if_pos hh]
        refine ⟨b, e1, fun w => ?_⟩
        rw [run_equalIn_struct w e t us.toArray vs.toArray (by rw [hf]; exact ht) hh, hf]
        exact e2 w
      · exact hp.elim
    · exact hp.elim
theorem eqFA_ok {P : Program} {φ : PMap} : ∀ (d e : Nat) (xs ys : List AVal) (fs : List Field) (us vs : List Value), d ≤ e → (eqFA P d xs ys fs).pre → VRs φ xs us → VRs φ ys vs →
    ∃ b, (eqFA P d xs ys fs).val = .bool b ∧ ∀ w, (Op.eqFields e us.toArray vs.toArray fs).run P w = .ok b w
  | 0, _, _, _, [], _, _, _, _, _, _ => ⟨true, by simp [eqFA], fun w => by simp [Op.eqFields]⟩
  | 0, _, _, _, _ :: _, _, _, _, hp, _, _ => by simp only [eqFA] at hp; exact hp.elim
  | _ + 1, _, _, _, [], _, _, _, _, _, _ => ⟨true, by simp [eqFA], fun w => by simp [Op.eqFields]⟩
  | d + 1, e, xs, ys, f :: fs, us, vs, hde, hp, hx, hy => by
    simp only [eqFA] at hp ⊢
    by_cases hn : f.name = "_"
    · simp only [hn, if_true] at hp ⊢
      obtain ⟨b, e1, e2⟩ := eqFA_ok d e xs ys fs us vs (by omega) hp hx hy
      exact ⟨b, e1, fun w => by simpa [Op.eqFields, hn] using e2 w⟩
    · simp only [hn, if_false] at hp ⊢
      split at hp
      · rename_i a b ha hb
        obtain ⟨p1, p2, p3, p4⟩ := hp
        obtain ⟨u, q1, q2⟩ := partA_ok p1 hx
        obtain ⟨v, q3, q4⟩ := partA_ok p2 hy
        obtain ⟨b1, q5, q6⟩ := eqA_ok d e f.type _ _ u v (by omega) p3 q2 q4
        obtain ⟨b2, q7, q8⟩ := eqFA_ok d e xs ys fs us vs (by omega) p4 hx hy
        rw [ha] at q5
        rw [hb] at q7
        cases q5
        cases q7
        refine ⟨a && b, rfl, fun w => ?_⟩
        simp only [Op.eqFields, ne_eq, hn, not_false_eq_true, if_true, Sem.run_bind, q1, Result.andThen_ok, q3, q6]
        cases a
        · simp
        · simpa using q8 w
      · exact hp.elim
end

def pAggEq (P : Program) (op : BinOp) (t : TypeId) (x y : AVal) : PR :=
  match (eqA P 40 t x y).val with
  | .bool b => match op with
    | .eql => ⟨(eqA P 40 t x y).pre ∧ P.eqGuardType P.depth t = false, .bool b⟩
    | .neq => ⟨(eqA P 40 t x y).pre ∧ P.eqGuardType P.depth t = false, .bool (!b)⟩
    | _ => .no
  | _ => .no

theorem pAggEq_ok {P : Program} {φ : PMap} {op : BinOp} {t : TypeId} {xs ys : List AVal} {u v : Value} (hp : (pAggEq P op t (.agg xs) (.agg ys)).pre) (hx : VR φ (.agg xs) u) (hy : VR φ (.agg ys) v) (X Y : Operand) :
    ∃ r, (∀ w, (do eqGuard op t X Y u v; binOp op t u v : Sem Value).run P w = .ok r w) ∧ VR φ (pAggEq P op t (.agg xs) (.agg ys)).val r := by
  unfold pAggEq at hp ⊢
  split at hp
  · rename_i b hb
    have go : (eqA P 40 t (.agg xs) (.agg ys)).pre → P.eqGuardType P.depth t = false → (∀ w, (eqGuard op t X Y u v).run P w = .ok () w) ∧ ∀ w, (Op.equalIn 10000 t u v).run P w = .ok b w := fun h1 h2 => by
      obtain ⟨b', e1, e2⟩ := eqA_ok 40 10000 t _ _ u v (by omega) h1 hx hy
      rw [hb] at e1
      cases e1
      simp only [VR] at hx hy
      obtain ⟨us, rfl, _⟩ := hx
      obtain ⟨vs, rfl, _⟩ := hy
      exact ⟨fun w => run_eqGuard_agg w op t X Y _ _ h2, e2⟩
    cases op <;> simp only [] at hp ⊢ <;> first
      | exact hp.elim
      | skip
    all_goals
      obtain ⟨g1, g2⟩ := go hp.1 hp.2
      simp only [VR] at hx hy
      obtain ⟨us, rfl, _⟩ := hx
      obtain ⟨vs, rfl, _⟩ := hy
      refine ⟨_, fun w => ?_, rfl⟩
      simp only [Sem.run_bind, g1, Result.andThen_ok, run_eql_struct, run_neq_struct, g2]
  · exact hp.elim

/-! ### len, cap, max, min -/
theorem bsize (s : List UInt8) : (⟨⟨s⟩⟩ : ByteArray).size = s.length := rfl
theorem map_toArray {α β : Type} (f : α → β) (xs : Array α) : xs.map f = (xs.toList.map f).toArray := by
  apply Array.ext'; simp

def pLen (P : Program) (t : TypeId) (x : AVal) : PR :=
  match x, P.underlying t with
  | .str s, some .string => ⟨True, .int .i64 s.length⟩
  | .slice _ _ n _, some (.slice _) => ⟨True, .int .i64 n⟩
  | .nilSlice, some (.slice _) => ⟨True, .int .i64 0⟩
  | _, some (.array n _) => ⟨True, .int .i64 n⟩
  | _, _ => .no

theorem pLen_ok {P : Program} {φ : PMap} {t ty : TypeId} {ts : Array TypeId} {x : AVal} {v : Value} (ht : ts[0]? = some t) (hp : (pLen P t x).pre) (hx : VR φ x v) :
    ∃ r, (∀ w, (Builtin.len_ ts ty #[v]).run P w = .ok r w) ∧ VR φ (pLen P t x).val r := by
  unfold pLen at hp ⊢
  split at hp
  · rename_i s h1
    simp only [VR] at hx; subst hx
    exact ⟨.int .i64 s.length, fun w => by simp [Builtin.len_, ht, run_underlying' h1, goInt, bsize], rfl⟩
  · rename_i l o n c e h1
    obtain ⟨a, cap, rfl, _⟩ := VR_slice_addr hx
    exact ⟨.int .i64 n, fun w => by simp [Builtin.len_, ht, run_underlying' h1, goInt], rfl⟩
  · rename_i e h1
    simp only [VR] at hx; subst hx
    exact ⟨.int .i64 0, fun w => by simp [Builtin.len_, ht, run_underlying' h1, goInt], rfl⟩
  · rename_i _ _ _ n e h1
    exact ⟨.int .i64 n, fun w => by simp [Builtin.len_, ht, run_underlying' h1, goInt], rfl⟩
  · exact hp.elim

def pCap (P : Program) (t : TypeId) (x : AVal) : PR :=
  match x, P.underlying t with
  | .slice _ _ _ (.exact c), some (.slice _) => ⟨True, .int .i64 c⟩
  | .nilSlice, some (.slice _) => ⟨True, .int .i64 0⟩
  | _, _ => .no

theorem pCap_ok {P : Program} {φ : PMap} {t ty : TypeId} {ts : Array TypeId} {x : AVal} {v : Value} (ht : ts[0]? = some t) (hp : (pCap P t x).pre) (hx : VR φ x v) :
    ∃ r, (∀ w, (Builtin.cap_ ts ty #[v]).run P w = .ok r w) ∧ VR φ (pCap P t x).val r := by
  unfold pCap at hp ⊢
  split at hp
  · rename_i l o n c e h1
    simp only [VR] at hx
    obtain ⟨a, rfl, _⟩ := hx
    exact ⟨.int .i64 c, fun w => by simp [Builtin.cap_, ht, run_underlying' h1, goInt], rfl⟩
  · rename_i e h1
    simp only [VR] at hx; subst hx
    exact ⟨.int .i64 0, fun w => by simp [Builtin.cap_, ht, run_underlying' h1, goInt], rfl⟩
  · exact hp.elim

def pMax : List AVal → PR
  | [.int k a, .int _ b] => ⟨True, .int k (max a b)⟩
  | _ => .no
def pMin : List AVal → PR
  | [.int k a, .int _ b] => ⟨True, .int k (min a b)⟩
  | _ => .no

theorem pMax_ok {P : Program} {φ : PMap} {ty : TypeId} {ts : Array TypeId} {xs : List AVal} {vs : List Value} (hp : (pMax xs).pre) (hx : VRs φ xs vs) :
    ∃ r, (∀ w, (Builtin.max_ ts ty vs.toArray).run P w = .ok r w) ∧ VR φ (pMax xs).val r := by
  unfold pMax at hp ⊢
  split at hp
  · rename_i k a k' b
    simp only [VRs, VR] at hx
    obtain ⟨_, _, rfl, rfl, _, _, rfl, rfl, rfl⟩ := hx
    refine ⟨_, fun w => run_max_int2 w ts ty k k' a b, ?_⟩
    simp only [VR]
    congr 1
    split <;> omega
  · exact hp.elim

theorem pMin_ok {P : Program} {φ : PMap} {ty : TypeId} {ts : Array TypeId} {xs : List AVal} {vs : List Value} (hp : (pMin xs).pre) (hx : VRs φ xs vs) :
    ∃ r, (∀ w, (Builtin.min_ ts ty vs.toArray).run P w = .ok r w) ∧ VR φ (pMin xs).val r := by
  unfold pMin at hp ⊢
  split at hp
  · rename_i k a k' b
    simp only [VRs, VR] at hx
    obtain ⟨_, _, rfl, rfl, _, _, rfl, rfl, rfl⟩ := hx
    refine ⟨_, fun w => run_min_int2 w ts ty k k' a b, ?_⟩
    simp only [VR]
    congr 1
    split <;> omega
  · exact hp.elim

/-! ### All reading operations -/
def evs (s : Slots) (xs : List Operand) : List AVal := xs.map (ev s)
def evO (s : Slots) : Option Operand → Option AVal
  | none => none
  | some x => some (ev s x)
def evP (s : Slots) (xs : List (Nat × Operand)) : List (Nat × AVal) := xs.map fun p => (p.1, ev s p.2)

def pBuiltin (P : Program) (b : Builtin) (ts : Array TypeId) (xs : List AVal) : PR :=
  match b, xs, ts[0]? with
  | .len, [x], some t => pLen P t x
  | .cap, [x], some t => pCap P t x
  | .max, xs, _ => pMax xs
  | .min, xs, _ => pMin xs
  | _, _, _ => .no

/-- The literal nil of an interface type. -/
def isNilC : Operand → Bool
  | .const .nilIface => true
  | _ => false
/-- An interface value held against the literal nil. -/
def pIfNil (P : Program) (op : BinOp) (t : TypeId) (x : AVal) : PR :=
  match P.underlying t, x, op with
  | some (.interface _), .nilIface, .eql => ⟨True, .bool true⟩
  | some (.interface _), .nilIface, .neq => ⟨True, .bool false⟩
  | some (.interface _), .iface _ _, .eql => ⟨True, .bool false⟩
  | some (.interface _), .iface _ _, .neq => ⟨True, .bool true⟩
  | _, _, _ => .no
theorem pIfNil_ok {P : Program} {φ : PMap} {op : BinOp} {t : TypeId} {x : AVal} {u : Value} (hp : (pIfNil P op t x).pre) (hx : VR φ x u) (X : Operand) :
    ∃ r, (∀ w, (do eqGuard op t X (.const .nilIface) u .nilIface; binOp op t u .nilIface : Sem Value).run P w = .ok r w) ∧ VR φ (pIfNil P op t x).val r := by
  obtain ⟨d, hdep⟩ : ∃ d, Op.maxDepth = d + 1 := ⟨Op.maxDepth - 1, by decide +kernel⟩
  unfold pIfNil at hp ⊢
  split at hp <;> first | exact hp.elim | skip
  · rename_i m ht
    simp only [VR] at hx
    subst hx
    exact ⟨.bool true, fun w => by simp [eqGuard, binOp, Op.equal, hdep, Op.equalIn, run_underlying' ht], by simp [VR]⟩
  · rename_i m ht
    simp only [VR] at hx
    subst hx
    exact ⟨.bool false, fun w => by simp [eqGuard, binOp, Op.equal, hdep, Op.equalIn, run_underlying' ht], by simp [VR]⟩
  · rename_i m te y ht
    simp only [VR] at hx
    obtain ⟨y', rfl, _⟩ := hx
    exact ⟨.bool false, fun w => by simp [eqGuard, binOp, Op.equal, hdep, Op.equalIn, run_underlying' ht], by simp [VR]⟩
  · rename_i m te y ht
    simp only [VR] at hx
    obtain ⟨y', rfl, _⟩ := hx
    exact ⟨.bool true, fun w => by simp [eqGuard, binOp, Op.equal, hdep, Op.equalIn, run_underlying' ht], by simp [VR]⟩

def pop (P : Program) (w₀ : World) (h : AHeap) (s : Slots) : Op → PR
  | .move x => ⟨True, ev s x⟩
  | .assign x => ⟨True, ev s x⟩
  | .pick c a b => match ev s c with
    | .bool c => ⟨True, pickV c (ev s a) (ev s b)⟩
    | _ => .no
  | .binOp op t x y _ => bif isNilC y then pIfNil P op t (ev s x) else match ev s x, ev s y with
    | .agg xs, .agg ys => pAggEq P op t (.agg xs) (.agg ys)
    | a, b => pBin P op t a b
  | .unOp op _ x => pUn op (ev s x)
  | .convert src dst x => pConv P w₀ h src dst (ev s x)
  | .load t x => pLoad P w₀ h t (ev s x)
  | .field t x f => pField P t (ev s x) f
  | .fieldAddr t x f => pFieldAddr P t (ev s x) f
  | .index t x i => pIndex P t (ev s x) (ev s i)
  | .indexAddr t x i => pIndexAddr P t (ev s x) (ev s i)
  | .slice t x lo hi mx => pSlice P t (ev s x) (evO s lo) (evO s hi) (evO s mx)
  | .extract x i => match ev s x with
    | .tuple vs => ⟨i < vs.length, vs.getD i .dead⟩
    | _ => .no
  | .nilCheck x => match ev s x with
    | .ptr l o => ⟨True, .ptr l o⟩
    | .func f c => ⟨True, .func f c⟩
    | _ => .no
  | .build t parts => match buildA P t (evP s parts.toList) with
    | some cs => ⟨True, .agg cs⟩
    | none => .no
  | .makeFunc fn first cap => match fn with
    | .func f => ⟨first.toList = [], .func f (evs s cap.toList)⟩
    | _ => .no
  | .makeInterface t x => ⟨P.concrete t = true, .iface t (ev s x)⟩
  | .call c => match c.callee with
    | .builtin b => pBuiltin P b c.argTypes (evs s c.args.toList)
    | _ => .no
  | _ => .no

theorem SRel.evs {φ : PMap} {n : Nat} {s : Slots} {a : Act} (h : SRel φ n s a) : ∀ xs : List Operand, VRs φ (evs s xs) (xs.map a.eval)
  | [] => by simp [AM.evs, VRs]
  | x :: xs => by
    simp only [AM.evs, List.map_cons, VRs]
    exact ⟨_, _, rfl, h.ev x, h.evs xs⟩

theorem SRel.evO {φ : PMap} {n : Nat} {s : Slots} {a : Act} (h : SRel φ n s a) (x : Option Operand) : OVR φ (evO s x) (x.map a.eval) := by
  cases x with
  | none => simp [AM.evO, OVR]
  | some x => simp only [AM.evO, OVR, Option.map_some]; exact ⟨_, rfl, h.ev x⟩

theorem SRel.evP {φ : PMap} {n : Nat} {s : Slots} {a : Act} (h : SRel φ n s a) : ∀ xs : List (Nat × Operand), VParts φ (evP s xs) (xs.map fun p => (p.1, a.eval p.2))
  | [] => .nil
  | x :: xs => .cons (h.ev x.2) (h.evP xs)

theorem run_value {P : Program} {w w' : World} {s : Sem Value} {r : Value} (h : s.run P w = .ok r w') : (do pure (Next.value (← s)) : Sem Next).run P w = .ok (.value r) w' := by
  simp [h]

theorem run_values {P : Program} {s : Sem Value} {r : Value} {p : World → Prop} (h : ∀ w, s.run P w = .ok r w) : ∀ w, p w → (do pure (Next.value (← s)) : Sem Next).run P w = .ok (.value r) w :=
  fun w _ => run_value (h w)

theorem pop_ok {P : Program} {w₀ w : World} {φ : PMap} {h : AHeap} {n : Nat} {s : Slots} {a : Act} (o : Oper) (hp : (pop P w₀ h s o.op).pre) (hr : HRel w₀ φ h w) (hs : SRel φ n s a) :
    ∃ r, (∀ w', Same w w' → (execOp a.eval o).run P w' = .ok (.value r) w') ∧ VR φ (pop P w₀ h s o.op).val r := by
  obtain ⟨dst, op, type, pos, after, guard⟩ := o
  cases op <;> simp only [pop] at hp ⊢ <;> first
    | exact hp.elim
    | skip
  case move x => exact ⟨_, fun _ _ => rfl, hs.ev x⟩
  case assign x => exact ⟨_, fun _ _ => rfl, hs.ev x⟩
  case pick c x y =>
    split at hp
    · rename_i b hb
      have hc := hs.ev c
      rw [hb] at hc
      simp only [VR] at hc
      refine ⟨if b then a.eval x else a.eval y, fun w' _ => ?_, VR_pickV (hs.ev x) (hs.ev y)⟩
      simp [execOp, hc, asBool]
    · exact hp.elim
  case binOp op t x y yt =>
    have hx := hs.ev x
    have hy := hs.ev y
    cases hn : isNilC y with
    | true =>
      have e : y = .const .nilIface := by
        unfold isNilC at hn
        split at hn
        · rfl
        · cases hn
      subst e
      rw [hn, cond_true] at hp
      obtain ⟨r, h1, h2⟩ := pIfNil_ok hp hx x
      exact ⟨r, run_values h1, h2⟩
    | false =>
    rw [hn, cond_false] at hp
    simp only [cond_false]
    split at hp
    · rename_i xs ys e1 e2
      rw [e1] at hx
      rw [e2] at hy
      obtain ⟨r, h1, h2⟩ := pAggEq_ok hp hx hy x y
      exact ⟨r, run_values h1, h2⟩
    · obtain ⟨r, h1, h2⟩ := pBin_ok hp hx hy x y
      exact ⟨r, run_values h1, h2⟩
  case unOp op t x =>
    obtain ⟨r, h1, h2⟩ := pUn_ok (P := P) hp (hs.ev x)
    exact ⟨r, run_values h1, h2⟩
  case convert src dst x =>
    obtain ⟨r, h1, h2⟩ := pConv_ok hp hr (hs.ev x)
    exact ⟨r, fun w' hw => run_value (h1 w' hw), h2⟩
  case load t x =>
    obtain ⟨r, h1, h2⟩ := pLoad_ok hp hr (hs.ev x)
    exact ⟨r, fun w' hw => run_value (h1 w' hw), h2⟩
  case field t x f =>
    obtain ⟨r, h1, h2⟩ := pField_ok hp (hs.ev x)
    exact ⟨r, run_values h1, h2⟩
  case fieldAddr t x f =>
    obtain ⟨r, h1, h2⟩ := pFieldAddr_ok hp (hs.ev x)
    exact ⟨r, run_values h1, h2⟩
  case index t x i =>
    obtain ⟨r, h1, h2⟩ := pIndex_ok hp (hs.ev x) (hs.ev i)
    exact ⟨r, run_values h1, h2⟩
  case indexAddr t x i =>
    obtain ⟨r, h1, h2⟩ := pIndexAddr_ok hp (hs.ev x) (hs.ev i)
    exact ⟨r, run_values h1, h2⟩
  case slice t x lo hi mx =>
    obtain ⟨r, h1, h2⟩ := pSlice_ok hp (hs.ev x) (hs.evO lo) (hs.evO hi) (hs.evO mx)
    exact ⟨r, run_values h1, h2⟩
  case extract x i =>
    have hx := hs.ev x
    split at hp
    · rename_i vs e
      rw [e] at hx
      simp only [VR] at hx
      obtain ⟨us, e2, hus⟩ := hx
      simp only at hp ⊢
      have hl := VRs_length hus
      have hlt : i < us.length := by omega
      refine ⟨us.getD i default, fun w' _ => ?_, VRs_get hus i default hp⟩
      simp [execOp, e2, Instr.extract, hlt]
    · exact hp.elim
  case nilCheck x =>
    have hx := hs.ev x
    split at hp
    · rename_i l o e
      rw [e] at hx
      refine ⟨a.eval x, fun w' _ => ?_, hx⟩
      simp only [VR] at hx
      obtain ⟨ad, _, e2⟩ := hx
      simp [execOp, e2]
    · rename_i f c e
      rw [e] at hx
      refine ⟨a.eval x, fun w' _ => ?_, hx⟩
      simp only [VR] at hx
      obtain ⟨vs, e2, _⟩ := hx
      simp [execOp, e2]
    · exact hp.elim
  case build t parts =>
    split at hp
    · rename_i cs e
      obtain ⟨r, h1, h2⟩ := build_ok (vs := parts.map fun (i, x) => (i, a.eval x)) e (by simpa using hs.evP parts.toList)
      refine ⟨.agg r, run_values h1, ?_⟩
      simp only [VR]
      exact ⟨r.toList, by simp, h2⟩
    · exact hp.elim
  case makeFunc fn first cap =>
    split at hp
    · rename_i f
      simp only at hp ⊢
      have e : first = #[] := by simpa using hp
      subst e
      refine ⟨.func (.func f) #[] (cap.map a.eval), fun w' _ => by simp [execOp, Instr.makeFunc], ?_⟩
      simp only [VR]
      exact ⟨cap.toList.map a.eval, by rw [map_toArray], hs.evs _⟩
    · exact hp.elim
  case makeInterface t x =>
    refine ⟨.iface t (a.eval x), fun w' _ => run_value (run_makeInterface w' t _ hp), ?_⟩
    simp only [VR]
    exact ⟨_, rfl, hs.ev x⟩
  case call c =>
    obtain ⟨callee, args, ats⟩ := c
    split at hp
    · rename_i b hb
      subst hb
      simp only at hp ⊢
      have hv := hs.evs args.toList
      have run : ∀ r w, (builtin b ats type (args.map fun | .const _ => true | _ => false) (args.map a.eval)).run P w = .ok (.value r) w → (execOp a.eval ⟨dst, .call ⟨.builtin b, args, ats⟩, type, pos, after, guard⟩).run P w = .ok (.value r) w := by
        intro r w hr
        simp only [execOp, resolve, Sem.run_bind, Sem.run_pure, Result.andThen_ok, invoke]
        exact hr
      have ea : args.map a.eval = (args.toList.map a.eval).toArray := map_toArray _ _
      unfold pBuiltin at hp ⊢
      split at hp
      · rename_i x t e1 e2
        rw [e1] at hv
        simp only [VRs] at hv
        obtain ⟨v, _, e3, hx, rfl⟩ := hv
        obtain ⟨r, h1, h2⟩ := pLen_ok (P := P) (ty := type) e2 hp hx
        refine ⟨r, fun w' _ => run r w' ?_, h2⟩
        rw [ea, e3]
        exact run_value (h1 w')
      · rename_i x t e1 e2
        rw [e1] at hv
        simp only [VRs] at hv
        obtain ⟨v, _, e3, hx, rfl⟩ := hv
        obtain ⟨r, h1, h2⟩ := pCap_ok (P := P) (ty := type) e2 hp hx
        refine ⟨r, fun w' _ => run r w' ?_, h2⟩
        rw [ea, e3]
        exact run_value (h1 w')
      · obtain ⟨r, h1, h2⟩ := pMax_ok (P := P) (ty := type) (ts := ats) hp hv
        refine ⟨r, fun w' _ => run r w' ?_, h2⟩
        rw [ea]
        exact run_value (h1 w')
      · obtain ⟨r, h1, h2⟩ := pMin_ok (P := P) (ty := type) (ts := ats) hp hv
        refine ⟨r, fun w' _ => run r w' ?_, h2⟩
        rw [ea]
        exact run_value (h1 w')
      · exact hp.elim
    · exact hp.elim

end Go.AM
