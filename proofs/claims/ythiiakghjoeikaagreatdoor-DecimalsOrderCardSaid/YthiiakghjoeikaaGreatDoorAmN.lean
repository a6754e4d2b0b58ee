/-
  An assertion layer over the model's wp, part N: append and new rows of bytes, as a walk applies them.
  Conditions: none. Nothing here is about a particular program.
-/
import Derived.Test.YthiiakghjoeikaaGreatDoorAmM
set_option linter.unusedSimpArgs false
set_option linter.unnecessarySimpa false
set_option linter.unusedVariables false
namespace Go.AM

theorem eqNil {α : Type} (s : List α) : (s = []) = (s.length = 0) := by simp

/-- A value of one cell. -/
def Sc : AVal → Prop
  | .agg _ => False
  | .dead => False
  | _ => True
theorem Sc_slice (l : Loc) (o n : Nat) (c : Cap) : Sc (.slice l o n c) = True := rfl
theorem Sc_nilSlice : Sc .nilSlice = True := rfl
theorem Sc_nilPtr : Sc .nilPtr = True := rfl
theorem Sc_ptr (l : Loc) (o : Nat) : Sc (.ptr l o) = True := rfl
theorem Sc_nilFunc : Sc .nilFunc = True := rfl
theorem Sc_func (f : FuncId) (c : List AVal) : Sc (.func f c) = True := rfl
theorem Sc_nilMap : Sc .nilMap = True := rfl

theorem aOps_box {P : Program} {w₀ : World} {ops rest : List Oper} {s : Slots} {h : AHeap} {K : Slots → AHeap → Prop} {dst : Option Tmp} {ty : TypeId} {pos : String} {af : Array Edge} {e : TypeId} {x : Operand} {v : AVal} {cs : List AVal}
    (hx : ev s x = v) (hl : v.live = true) (hc : v.cells = cs) (hk : ∀ k, h k = none → aOps P w₀ ops rest (putD s dst (.ptr (.own k) 0)) (h.set k ⟨cs, 0⟩) K) :
    aOps P w₀ ops (⟨dst, .box e x, ty, pos, af, none⟩ :: rest) s h K := by
  rw [aOps_e]
  simp only [eop, hx, hc]
  exact ⟨hl, hk⟩

theorem aOps_alloc {P : Program} {w₀ : World} {ops rest : List Oper} {s : Slots} {h : AHeap} {K : Slots → AHeap → Prop} {dst : Option Tmp} {ty : TypeId} {pos : String} {af : Array Edge} {e : TypeId} {z : Value} {cs : List AVal}
    (hz : zeOf P e = some z) (hc : z.cells.toList.map absS = cs) (hk : ∀ k, h k = none → aOps P w₀ ops rest (putD s dst (.ptr (.own k) 0)) (h.set k ⟨cs, 0⟩) K) :
    aOps P w₀ ops (⟨dst, .alloc e, ty, pos, af, none⟩ :: rest) s h K := by
  rw [aOps_e]
  simp only [eop, hz, hc]
  exact hk

/-- New memory that holds bytes, with no room to spare; or nil. -/
def FreshB (h : AHeap) (bs : List UInt8) (v : AVal) (h' : AHeap) : Prop :=
  (bs = [] ∧ v = .nilSlice ∧ h' = h) ∨ ∃ k, h k = none ∧ v = .slice (.own k) 0 bs.length (.exact bs.length) ∧ h' = h.set k ⟨byteCells bs, 0⟩

theorem FreshB.isB {w₀ : World} {h : AHeap} {bs : List UInt8} {v : AVal} {h' : AHeap} (hf : FreshB h bs v h') : IsB w₀ h' v bs := by
  rcases hf with ⟨rfl, rfl, rfl⟩ | ⟨k, hk, rfl, rfl⟩
  · exact .nil
  · exact IsB.own (AHeap.set_same _ _ _) rfl (Nat.le_refl _)
theorem FreshB.sub {h : AHeap} {bs : List UInt8} {v : AVal} {h' : AHeap} (hf : FreshB h bs v h') : Sub h h' := by
  rcases hf with ⟨rfl, rfl, rfl⟩ | ⟨k, hk, rfl, rfl⟩
  · exact Sub.refl _
  · exact Sub.set hk
theorem FreshB.cap {P : Program} {h : AHeap} {bs : List UInt8} {v : AVal} {h' : AHeap} (hf : FreshB h bs v h') {t e : TypeId} (ht : P.underlying t = some (.slice e)) : pCap P t v = ⟨True, .int .i64 bs.length⟩ := by
  rcases hf with ⟨rfl, rfl, rfl⟩ | ⟨k, hk, rfl, rfl⟩ <;> simp [pCap, ht]

def nilB : AVal → Bool
  | .nilSlice => true
  | _ => false
theorem nilB_true {v : AVal} (h : nilB v = true) : v = .nilSlice := by cases v <;> first | rfl | cases h
theorem IsB.of_nil {w₀ : World} {h : AHeap} {v : AVal} {bs : List UInt8} (hb : IsB w₀ h v bs) (hn : nilB v = true) : v = .nilSlice ∧ bs = [] := by
  cases hb with
  | nil => exact ⟨rfl, rfl⟩
  | mk => cases hn
theorem IsB.eqnil {P : Program} {w₀ : World} {h : AHeap} {v : AVal} {bs : List UInt8} (hb : IsB w₀ h v bs) {t e : TypeId} (ht : P.underlying t = some (.slice e)) : pBinX P .eql t v .nilSlice = ⟨True, .bool (nilB v)⟩ := by
  cases hb <;> simp [pBinX, pBin, pNilEq, nilK, tyK, ht, nilB]
theorem IsB.nenil {P : Program} {w₀ : World} {h : AHeap} {v : AVal} {bs : List UInt8} (hb : IsB w₀ h v bs) {t e : TypeId} (ht : P.underlying t = some (.slice e)) : pBinX P .neq t v .nilSlice = ⟨True, .bool (!nilB v)⟩ := by
  cases hb <;> simp [pBinX, pBin, pNilEq, nilK, tyK, ht, nilB]

theorem retA_retE {P : Program} {w₀ : World} {s : Slots} {h : AHeap} {rs : List ResultVar} {R : AVal → AHeap → Prop} (hp : resPre P w₀ s h rs) (hr : ∃ h', Sub h' h ∧ R (resOf P w₀ s h rs) h') : retA P w₀ rs R .ret s h := ⟨hp, hr⟩
theorem retA_endE {P : Program} {w₀ : World} {s : Slots} {h : AHeap} {rs : List ResultVar} {R : AVal → AHeap → Prop} (hp : resPre P w₀ s h rs) (hr : ∃ h', Sub h' h ∧ R (resOf P w₀ s h rs) h') : retA P w₀ rs R .normal s h := ⟨hp, hr⟩

theorem Sub.over {h : AHeap} {k k' : Nat} {b c : Blk} (hk : h k = Option.none) (hk' : h.set k c k' = Option.none) : Sub (h.set k' b) ((h.set k c).set k' b) := fun j d e => by
  by_cases ej : j = k'
  · subst ej; rw [AHeap.set_same] at e ⊢; exact e
  · rw [AHeap.set_ne _ _ ej] at e ⊢
    have : j ≠ k := fun e' => by subst e'; rw [hk] at e; cases e
    rw [AHeap.set_ne _ _ this]; exact e

section
variable {P : Program} {w₀ : World} {s : Slots} {h : AHeap}
theorem resV_tmp (t : Nat) : resV P w₀ s h (.tmp t) = ⟨True, s.get t⟩ := rfl
theorem resV_cell (a : Nat) (t : TypeId) : resV P w₀ s h (.cell a t) = pLoad P w₀ h t (s.get a) := rfl
theorem resOfG_one (r : ResultVar) : resOf P w₀ s h [r] = (resV P w₀ s h r).val := rfl
theorem resOfG_two (r u : ResultVar) : resOf P w₀ s h [r, u] = .tuple [(resV P w₀ s h r).val, (resV P w₀ s h u).val] := rfl
theorem resOfG_three (r u v : ResultVar) : resOf P w₀ s h [r, u, v] = .tuple [(resV P w₀ s h r).val, (resV P w₀ s h u).val, (resV P w₀ s h v).val] := rfl
theorem pop_buildL (t : TypeId) (ps : List (Nat × Operand)) : pop P w₀ h s (.build t ps.toArray) = pBuild P t (evP s ps) := rfl
end
theorem rd_own (w₀ : World) {h : AHeap} {k : Nat} {b : Blk} (hk : h k = some b) (o : Nat) : rd w₀ h (.own k) o = b.cells.getD o .dead := by simp [rd, hk]
theorem rd_ne (w₀ : World) (h : AHeap) {j k : Nat} (b : Blk) (hj : j ≠ k) (o : Nat) : rd w₀ (h.set k b) (.own j) o = rd w₀ h (.own j) o := by simp only [rd, AHeap.set_ne h b hj]
theorem AHeap.ne_of {h : AHeap} {j k : Nat} {b : Blk} (hk : h.set j b k = none) : j ≠ k := fun e => by subst e; rw [AHeap.set_same] at hk; cases hk
theorem AHeap.ne_of2 {h : AHeap} {i j k : Nat} {a b : Blk} (hk : (h.set i a).set j b k = none) : i ≠ k := fun e => by
  subst e
  by_cases e' : i = j
  · subst e'; rw [AHeap.set_same] at hk; cases hk
  · rw [AHeap.set_ne _ _ e', AHeap.set_same] at hk; cases hk
theorem rd_any (w₀ : World) (h : AHeap) (k o : Nat) (cs : List AVal) (f : Nat) : rd w₀ (h.set k ⟨cs, f⟩) (.own k) o = cs.getD o .dead := rd_set w₀ h k o ⟨cs, f⟩

theorem Sub.two {h : AHeap} {k k' : Nat} {b b' c' : Blk} (hk : h k = Option.none) (hk' : h.set k b k' = Option.none) : Sub h ((h.set k b').set k' c') := fun j d e => by
  have h1 : j ≠ k := fun e' => by subst e'; rw [hk] at e; cases e
  have h2 : j ≠ k' := fun e' => by
    subst e'
    rw [AHeap.set_ne _ _ h1, e] at hk'
    cases hk'
  rw [AHeap.set_ne _ _ h2, AHeap.set_ne _ _ h1]; exact e

/-- What an append gives behind a slice with no room and no bytes. -/
def AppB (h : AHeap) (a : AVal) (src : List UInt8) (x : AVal) (h' : AHeap) : Prop :=
  (src = [] ∧ x = a ∧ h' = h) ∨ (src ≠ [] ∧ ∃ k, h k = none ∧ x = .slice (.own k) 0 src.length (.grow 1) ∧ h' = h.set k ⟨byteCells src, 0⟩)

section
variable {P : Program} {w₀ : World} {ops rest : List Oper} {s : Slots} {h : AHeap} {K : Slots → AHeap → Prop} {dst : Option Tmp} {ty : TypeId} {pos : String} {af : Array Edge}

theorem aOps_buildSlice {t : TypeId} {n : Nat} {ps : List (Nat × Operand)} {cs : List AVal} (hb : buildSliceA P t n (evP s ps) = some cs)
    (hk : ∀ k, h k = none → aOps P w₀ ops rest (putD s dst (.slice (.own k) 0 n (.exact n))) (h.set k ⟨cs, 0⟩) K) :
    aOps P w₀ ops (⟨dst, .buildSlice t n ps.toArray, ty, pos, af, none⟩ :: rest) s h K := by
  rw [aOps_e]
  simp only [eop, hb]
  exact hk

/-- Bytes behind a slice with no room and no bytes (one that was just made, or nil). -/
theorem aOps_appendNew {ts : Array TypeId} {t u e : TypeId} {d : TypeDesc} {x y : Operand} {a v : AVal} {src : List UInt8} (h0 : ts[0]? = some t) (h1 : ts[1]? = some u) (ht : P.underlying t = some (.slice e)) (hu : P.underlying u = some d) (hd : ∀ k, d ≠ .int k)
    (hs : szOf P e = some 1) (hb : byOf P e = some 1) (hz : zeOf P e = some (.int .u8 0)) (hx : ev s x = a) (ha : a = .nilSlice ∨ ∃ l o, a = .slice l o 0 (.exact 0)) (hy : ev s y = v) (hv : SrcB w₀ h v src) (hl : src.length ≤ 140737488355328)
    (hkk : ∀ r h', AppB h a src r h' → aOps P w₀ ops rest (putD s dst r) h' K) :
    aOps P w₀ ops (⟨dst, .call ⟨.builtin .append, [x, y].toArray, ts⟩, ty, pos, af, none⟩ :: rest) s h K := by
  have hk0 : src = [] → aOps P w₀ ops rest (putD s dst a) h K := fun e => hkk _ _ (.inl ⟨e, rfl, rfl⟩)
  have hk : src ≠ [] → ∀ k, h k = none → aOps P w₀ ops rest (putD s dst (.slice (.own k) 0 src.length (.grow 1))) (h.set k ⟨byteCells src, 0⟩) K := fun e k hk => hkk _ _ (.inr ⟨e, k, hk, rfl, rfl⟩)
  obtain ⟨g1, g2⟩ := hv
  obtain ⟨p1, p2⟩ := g2 src.length (Nat.le_refl _)
  rw [List.take_of_length_le (Nat.le_refl _)] at p2
  rw [aOps_e]
  simp only [eop, evs, List.map_cons, List.map_nil, hx, hy, eAppend, h0, h1, ht, hu, hs, hb, hz, g1]
  refine ⟨hd, ⟨by omega, rfl⟩, p1, ?_⟩
  rcases ha with rfl | ⟨l, o, rfl⟩
  · refine ⟨fun e0 => hk0 (List.eq_nil_of_length_eq_zero e0), fun e0 => ⟨⟨by omega, by omega⟩, fun k hk' _ => ?_⟩⟩
    rw [p2]
    exact hk (fun e1 => e0 (by rw [e1]; rfl)) k hk'
  · refine ⟨fun e0 => .inl ⟨by omega, hk0 (List.eq_nil_of_length_eq_zero (by omega))⟩, fun e0 => ⟨⟨by simp [cellsAt, allLive], by omega, by omega⟩, fun k hk' _ => ?_⟩⟩
    simp only [Nat.zero_mul, cellsAt, List.nil_append, Nat.zero_add, p2]
    refine hk (fun e1 => ?_) k hk'
    rw [e1] at e0; simp at e0

/-- Bytes behind bytes in memory of the call's own that may grow. -/
theorem aOps_appendB {ts : Array TypeId} {t u e : TypeId} {d : TypeDesc} {x y : Operand} {v : AVal} {k f n : Nat} {bs src : List UInt8} {h₀ : AHeap} (h0 : ts[0]? = some t) (h1 : ts[1]? = some u) (ht : P.underlying t = some (.slice e)) (hu : P.underlying u = some d) (hd : ∀ k, d ≠ .int k)
    (hs : szOf P e = some 1) (hb : byOf P e = some 1) (hz : zeOf P e = some (.int .u8 0)) (hx : ev s x = .slice (.own k) 0 n (.grow 1)) (hn : n = bs.length) (hy : ev s y = v) (hv : SrcB w₀ h v src) (hh : h = h₀.set k ⟨byteCells bs, f⟩) (hf : f = 0) (hl : bs.length + src.length ≤ 140737488355328)
    (hk : ∀ k', h k' = none → aOps P w₀ ops rest (putD s dst (.slice (.own k') 0 (bs.length + src.length) (.grow 1))) ((h₀.del k).set k' ⟨byteCells (bs ++ src), 0⟩) K) :
    aOps P w₀ ops (⟨dst, .call ⟨.builtin .append, [x, y].toArray, ts⟩, ty, pos, af, none⟩ :: rest) s h K := by
  obtain ⟨g1, g2⟩ := hv
  obtain ⟨p1, p2⟩ := g2 src.length (Nat.le_refl _)
  rw [List.take_of_length_le (Nat.le_refl _)] at p2
  subst hn hf
  have hb' : h k = some ⟨byteCells bs, 0⟩ := by rw [hh]; exact AHeap.set_same _ _ _
  rw [aOps_e]
  simp only [eop, evs, List.map_cons, List.map_nil, hx, hy, eAppend, h0, h1, ht, hu, hs, hb, hz, g1, hb']
  refine ⟨hd, ⟨by omega, rfl⟩, p1, trivial, ⟨by rw [byteCells_length]; omega, by omega, by omega, by rw [p2]; exact allScal_byteCells _, ?_, .inl trivial⟩, fun k' hk' _ => ?_⟩
  · rw [List.drop_zero]; exact allLive_of_u8 (byteCells_isU8 _)
  · rw [p2, List.drop_zero, ← byteCells_append, hh, AHeap.del_set]
    exact hk k' hk'

/-- Bytes behind what an append has made. -/
theorem aOps_appendApp {ts : Array TypeId} {t u e : TypeId} {d : TypeDesc} {x y : Operand} {r v : AVal} {a src : List UInt8} {h1 h2 : AHeap} (hr : AppB h1 .nilSlice a r h2) (hs2 : Sub h2 h) (h0 : ts[0]? = some t) (h1' : ts[1]? = some u) (ht : P.underlying t = some (.slice e)) (hu : P.underlying u = some d) (hd : ∀ k, d ≠ .int k)
    (hs : szOf P e = some 1) (hb : byOf P e = some 1) (hz : zeOf P e = some (.int .u8 0)) (hx : ev s x = r) (hy : ev s y = v) (hv : SrcB w₀ h v src) (hne : src ≠ []) (hl : a.length + src.length ≤ 140737488355328)
    (hk : ∀ r' h', IsB w₀ h' r' (a ++ src) → Sub h1 h' → aOps P w₀ ops rest (putD s dst r') h' K) :
    aOps P w₀ ops (⟨dst, .call ⟨.builtin .append, [x, y].toArray, ts⟩, ty, pos, af, none⟩ :: rest) s h K := by
  rcases hr with ⟨rfl, rfl, rfl⟩ | ⟨hn, k, hk1, rfl, rfl⟩
  · refine aOps_appendNew h0 h1' ht hu hd hs hb hz hx (.inl rfl) hy hv (by simpa using hl) fun r' h' hr' => ?_
    rcases hr' with ⟨e, _⟩ | ⟨_, k, hk2, rfl, rfl⟩
    · exact absurd e hne
    · exact hk _ _ (IsB.own (AHeap.set_same _ _ _) rfl rfl) (hs2.trans (Sub.set hk2))
  · obtain ⟨g1, g2⟩ := hv
    obtain ⟨p1, p2⟩ := g2 src.length (Nat.le_refl _)
    rw [List.take_of_length_le (Nat.le_refl _)] at p2
    have hb' : h k = some ⟨byteCells a, 0⟩ := hs2 _ _ (AHeap.set_same _ _ _)
    rw [aOps_e]
    simp only [eop, evs, List.map_cons, List.map_nil, hx, hy, eAppend, h0, h1', ht, hu, hs, hb, hz, g1, hb']
    refine ⟨hd, ⟨by omega, rfl⟩, p1, trivial, ⟨by rw [byteCells_length]; omega, by omega, by omega, by rw [p2]; exact allScal_byteCells _, ?_, .inl trivial⟩, fun k' hk' _ => ?_⟩
    · rw [List.drop_zero]; exact allLive_of_u8 (byteCells_isU8 _)
    · rw [p2, List.drop_zero, ← byteCells_append]
      refine hk _ _ (IsB.own (AHeap.set_same _ _ _) (by simp) rfl) fun j c hj => ?_
      have ej : j ≠ k := fun e => by subst e; rw [hk1] at hj; cases hj
      have hj2 : h j = some c := hs2 _ _ (by rw [AHeap.set_ne _ _ ej]; exact hj)
      have ej' : j ≠ k' := fun e => by subst e; rw [hk'] at hj2; cases hj2
      rw [AHeap.set_ne _ _ ej']
      simp only [AHeap.del, ej, if_false]
      exact hj2

/-- Bytes behind bytes that came in, with no room for them. -/
theorem aOps_appendOut {ts : Array TypeId} {t u e : TypeId} {d : TypeDesc} {x y : Operand} {a v : AVal} {bs src : List UInt8} (h0 : ts[0]? = some t) (h1 : ts[1]? = some u) (ht : P.underlying t = some (.slice e)) (hu : P.underlying u = some d) (hd : ∀ k, d ≠ .int k)
    (hs : szOf P e = some 1) (hb : byOf P e = some 1) (hz : zeOf P e = some (.int .u8 0)) (hx : ev s x = a) (ha : IsB w₀ h a bs) (hc : ∃ l o n, a = .slice l o n (.exact n)) (hy : ev s y = v) (hv : SrcB w₀ h v src) (hne : src ≠ []) (hl : bs.length + src.length ≤ 140737488355328)
    (hk : ∀ k, h k = none → aOps P w₀ ops rest (putD s dst (.slice (.own k) 0 (bs.length + src.length) (.grow 1))) (h.set k ⟨byteCells (bs ++ src), 0⟩) K) :
    aOps P w₀ ops (⟨dst, .call ⟨.builtin .append, [x, y].toArray, ts⟩, ty, pos, af, none⟩ :: rest) s h K := by
  obtain ⟨g1, g2⟩ := hv
  obtain ⟨p1, p2⟩ := g2 src.length (Nat.le_refl _)
  rw [List.take_of_length_le (Nat.le_refl _)] at p2
  obtain ⟨l, o, n, rfl⟩ := hc
  cases ha with
  | mk l o n c bs hn hc hcap =>
    subst hn
    have hlen : src.length ≠ 0 := fun e => hne (List.eq_nil_of_length_eq_zero e)
    rw [aOps_e]
    simp only [eop, evs, List.map_cons, List.map_nil, hx, hy, eAppend, h0, h1, ht, hu, hs, hb, hz, g1]
    refine ⟨hd, ⟨by omega, rfl⟩, p1, fun e0 => by omega, fun e0 => ⟨⟨?_, by omega, by omega⟩, fun k hk' _ => ?_⟩⟩
    · rw [Nat.mul_one, hc]; exact allLive_of_u8 (byteCells_isU8 _)
    · rw [p2, Nat.mul_one, hc, ← byteCells_append]
      exact hk k hk'
end

theorem cv_cap {P : Program} (t : TypeId) (g : Bool) (x : AVal) : condV g (pCap P t (condV g x)).val = condV g (pCap P t x).val := by cases g <;> rfl
theorem cp_cap {P : Program} (t : TypeId) (g : Bool) (x : AVal) : (g = true → (pCap P t (condV g x)).pre) = (g = true → (pCap P t x).pre) := by cases g <;> simp [condV]

theorem pickV_cond_rn (c : Bool) (v w : AVal) : pickV (!c) v (condV c w) = pickV (!c) v w := by cases c <;> cases v <;> cases w <;> simp [pickV, condV]

theorem pickV_true (a b : AVal) : pickV true a b = a := by cases a <;> cases b <;> rfl
theorem pickV_false (a b : AVal) : pickV false a b = b := by cases a <;> cases b <;> rfl
theorem cp_nest1 (g c : Bool) (x y : AVal) : condV g (pickV c (condV (g && c) x) y) = condV g (pickV c x y) := by cases g <;> cases c <;> cases x <;> cases y <;> simp [pickV, condV]
theorem cp_nest2 (g c : Bool) (x y : AVal) : condV g (pickV c x (condV (g && !c) y)) = condV g (pickV c x y) := by cases g <;> cases c <;> cases x <;> cases y <;> simp [pickV, condV]

theorem cp_nest3 (g c : Bool) (x y : AVal) : condV g (pickV (!c) x (condV (g && c) y)) = condV g (pickV (!c) x y) := by cases g <;> cases c <;> cases x <;> cases y <;> simp [pickV, condV]
theorem cp_nest4 (g c : Bool) (x y : AVal) : condV g (pickV (!c) (condV (g && !c) x) y) = condV g (pickV (!c) x y) := by cases g <;> cases c <;> cases x <;> cases y <;> simp [pickV, condV]

theorem awp_joinT {P : Program} {w₀ : World} {n : Nat} {s : Slots} {h : AHeap} {Q Q' : Exit → Slots → AHeap → Prop} {γ : Type} {x y : Code} (L : List Nat) (S : γ → Slots) (H : γ → AHeap) (I : γ → Prop)
    (hx : Awp P w₀ n x (thenA (fun s' h' => ∃ g, s'.keep L = S g ∧ Sub (H g) h' ∧ I g) Q') s h) (hy : ∀ g, I g → Awp P w₀ n y Q (S g) (H g)) : Awp P w₀ n x (thenA (Awp P w₀ n y Q) Q') s h :=
  hx.mono fun e s' h' hq => by
    cases e <;> simp only [thenA] at hq ⊢ <;> first
      | exact hq
      | skip
    obtain ⟨g, q1, q2, q3⟩ := hq
    refine Awp.keep L ?_
    rw [q1]
    exact Awp.forget q2 (hy g q3)

/-- A contract of the library, in a world that goes on from the first. -/
theorem acall_of_callsB {P : Program} {w₀ : World} {f : FuncId} {fn : Func} {h : AHeap} {args : List AVal} {V : AVal} {vals : List Value} {val : Value} (hf : P.funcs[f]? = some fn) (hname : (fn.name == "runtime.NumGoroutine") = false) (hb : fn.body.isSome = true)
    (hv : ∀ φ vs, VRs φ args vs → vs = vals) (hV : ∀ φ, VR φ V val) (hc : ∀ w, Go.RowKit.Below w₀.heap.size w₀ w → Calls P f vals.toArray w fun e w' => e = .returned val ∧ Go.RowKit.Below w.heap.size w w') :
    ACall P w₀ f args h (fun v h' => v = V ∧ h' = h) := by
  intro φ vs w hr hvs
  obtain rfl := hv φ vs hvs
  refine .inl ⟨fn, hf, hname, hb, (hc w hr.below).mono fun e w' ⟨e1, e2⟩ => ⟨val, e1, φ, V, h, φ.le_refl, hr.later e2, hV φ, rfl, rfl⟩⟩
theorem VRs_ss {φ : PMap} {s t : List UInt8} {vs : List Value} (h : VRs φ [.str s, .str t] vs) : vs = [.string ⟨⟨s⟩⟩, .string ⟨⟨t⟩⟩] := by
  simp only [VRs, VR] at h
  obtain ⟨v, vs', rfl, rfl, v2, vs2, rfl, rfl, rfl⟩ := h
  rfl
theorem VRs_i {φ : PMap} {k : IntKind} {n : Int} {vs : List Value} (h : VRs φ [.int k n] vs) : vs = [.int k n] := by
  simp only [VRs, VR] at h
  obtain ⟨v, vs', rfl, rfl, rfl⟩ := h
  rfl
theorem VRs_ii {φ : PMap} {k k' : IntKind} {n n' : Int} {vs : List Value} (h : VRs φ [.int k n, .int k' n'] vs) : vs = [.int k n, .int k' n'] := by
  simp only [VRs, VR] at h
  obtain ⟨v, vs', rfl, rfl, v2, vs2, rfl, rfl, rfl⟩ := h
  rfl

theorem ACall.val {P : Program} {w₀ : World} {f : FuncId} {args : List AVal} {h : AHeap} {V V' : AVal} (hc : ACall P w₀ f args h (fun x h' => x = V ∧ h' = h)) (e : V = V') : ACall P w₀ f args h (fun x h' => x = V' ∧ h' = h) := by
  subst e; exact hc

/-! ### Loads, whose value is told where they may be made -/
section
variable {P : Program} {w₀ : World} {ops rest : List Oper} {s : Slots} {h : AHeap} {K : Slots → AHeap → Prop} {dst : Option Tmp} {ty : TypeId} {pos : String} {af : Array Edge}
def apL (P : Program) (w₀ : World) (ops rest : List Oper) (s : Slots) (h : AHeap) (K : Slots → AHeap → Prop) (dst : Option Tmp) (r : PR) : Prop := r.pre ∧ aOps P w₀ ops rest (putD s dst r.val) h K
def agL (P : Program) (w₀ : World) (ops rest : List Oper) (s : Slots) (h : AHeap) (K : Slots → AHeap → Prop) (dst : Option Tmp) (g : AVal) (want : Bool) (r : PR) : Prop := agP P w₀ ops rest s h K dst g want r
def agQL (P : Program) (w₀ : World) (ops rest : List Oper) (s : Slots) (h : AHeap) (K : Slots → AHeap → Prop) (dst : Option Tmp) (want : Bool) (r : PR) : Option Tmp → Prop
  | none => aOps P w₀ ops rest (putD s dst (.tuple [])) h K
  | some d => agL P w₀ ops rest s h K dst (s.get d) want r
theorem agQL_some {want : Bool} {r : PR} {d : Tmp} : agQL P w₀ ops rest s h K dst want r (some d) = agL P w₀ ops rest s h K dst (s.get d) want r := rfl
theorem ap_loadL (t : TypeId) (x : Operand) : aOps P w₀ ops (⟨dst, .load t x, ty, pos, af, none⟩ :: rest) s h K = apL P w₀ ops rest s h K dst (pLoad P w₀ h t (ev s x)) := by rw [ap_load]; rfl
theorem ag_loadL (t : TypeId) (x : Operand) {j : Nat} {want : Bool} : aOps P w₀ ops (⟨dst, .load t x, ty, pos, af, some (j, want)⟩ :: rest) s h K = agQL P w₀ ops rest s h K dst want (pLoad P w₀ h t (ev s x)) (nthDst ops j) := by
  rw [ag_load]
  cases nthDst ops j <;> rfl
theorem apL_mk (p : Prop) (v : AVal) : apL P w₀ ops rest s h K dst ⟨p, v⟩ = (p ∧ aOps P w₀ ops rest (putD s dst v) h K) := rfl
theorem agL_mk (g : AVal) (want : Bool) (p : Prop) (v : AVal) : agL P w₀ ops rest s h K dst g want ⟨p, v⟩ = agP P w₀ ops rest s h K dst g want ⟨p, v⟩ := rfl
/-- One reading stands for another where it may be made. -/
theorem apL_eq {r r' : PR} (hp : r.pre = r'.pre) (hv : r'.pre → r.val = r'.val) : apL P w₀ ops rest s h K dst r = apL P w₀ ops rest s h K dst r' := by
  unfold apL
  rw [hp]
  exact propext ⟨fun ⟨a, b⟩ => ⟨a, by rw [← hv a]; exact b⟩, fun ⟨a, b⟩ => ⟨a, by rw [hv a]; exact b⟩⟩
theorem agL_eq {r r' : PR} (g : AVal) (want : Bool) (hp : r.pre = r'.pre) (hv : r'.pre → r.val = r'.val) : agL P w₀ ops rest s h K dst g want r = agL P w₀ ops rest s h K dst g want r' := by
  unfold agL agP
  rw [hp]
  refine propext ⟨fun ⟨a, b, c⟩ => ⟨a, b, ?_⟩, fun ⟨a, b, c⟩ => ⟨a, b, ?_⟩⟩
  · cases hg : guardB g want with
    | true => rw [hg] at c; rw [← hv (b hg)]; exact c
    | false => rw [hg] at c; exact c
  · cases hg : guardB g want with
    | true => rw [hg] at c; rw [hv (b hg)]; exact c
    | false => rw [hg] at c; exact c
theorem agL_ld5 (b : Bool) (t : TypeId) (x : AVal) : agL P w₀ ops rest s h K dst (.bool (!b)) false (pLoad P w₀ h t (condV b x)) = agL P w₀ ops rest s h K dst (.bool (!b)) false (pLoad P w₀ h t x) := by
  cases b <;> first | rfl | simp [agL, agP, guardB, condV]
theorem agL_ld6 (c b : Bool) (t : TypeId) (x : AVal) : agL P w₀ ops rest s h K dst (condV c (.bool (!b))) false (pLoad P w₀ h t (condV (c && b) x)) = agL P w₀ ops rest s h K dst (condV c (.bool (!b))) false (pLoad P w₀ h t x) := by
  cases c <;> cases b <;> first | rfl | simp [agL, agP, guardB, condV]
theorem agL_il5 (b : Bool) (t : TypeId) (x y : AVal) : agL P w₀ ops rest s h K dst (.bool (!b)) false (pIndexAddr P t (condV b x) y) = agL P w₀ ops rest s h K dst (.bool (!b)) false (pIndexAddr P t x y) := by
  cases b <;> first | rfl | simp [agL, agP, guardB, condV]
theorem agL_il6 (c b : Bool) (t : TypeId) (x y : AVal) : agL P w₀ ops rest s h K dst (condV c (.bool (!b))) false (pIndexAddr P t (condV (c && b) x) y) = agL P w₀ ops rest s h K dst (condV c (.bool (!b))) false (pIndexAddr P t x y) := by
  cases c <;> cases b <;> first | rfl | simp [agL, agP, guardB, condV]
theorem agL_ir5 (b : Bool) (t : TypeId) (x y : AVal) : agL P w₀ ops rest s h K dst (.bool (!b)) false (pIndexAddr P t x (condV b y)) = agL P w₀ ops rest s h K dst (.bool (!b)) false (pIndexAddr P t x y) := by
  cases b <;> first | rfl | simp [agL, agP, guardB, condV]
theorem agL_ir6 (c b : Bool) (t : TypeId) (x y : AVal) : agL P w₀ ops rest s h K dst (condV c (.bool (!b))) false (pIndexAddr P t x (condV (c && b) y)) = agL P w₀ ops rest s h K dst (condV c (.bool (!b))) false (pIndexAddr P t x y) := by
  cases c <;> cases b <;> first | rfl | simp [agL, agP, guardB, condV]
theorem agL_ld1 (b : Bool) (t : TypeId) (x : AVal) : agL P w₀ ops rest s h K dst (.bool b) true (pLoad P w₀ h t (condV b x)) = agL P w₀ ops rest s h K dst (.bool b) true (pLoad P w₀ h t x) := by
  cases b <;> first | rfl | simp [agL, agP, guardB, condV]
theorem agL_ld2 (b : Bool) (t : TypeId) (x : AVal) : agL P w₀ ops rest s h K dst (.bool b) false (pLoad P w₀ h t (condV (!b) x)) = agL P w₀ ops rest s h K dst (.bool b) false (pLoad P w₀ h t x) := by
  cases b <;> first | rfl | simp [agL, agP, guardB, condV]
theorem agL_ld3 (c b : Bool) (t : TypeId) (x : AVal) : agL P w₀ ops rest s h K dst (condV c (.bool b)) true (pLoad P w₀ h t (condV (c && b) x)) = agL P w₀ ops rest s h K dst (condV c (.bool b)) true (pLoad P w₀ h t x) := by
  cases c <;> cases b <;> first | rfl | simp [agL, agP, guardB, condV]
theorem agL_ld4 (c b : Bool) (t : TypeId) (x : AVal) : agL P w₀ ops rest s h K dst (condV c (.bool b)) false (pLoad P w₀ h t (condV (c && !b) x)) = agL P w₀ ops rest s h K dst (condV c (.bool b)) false (pLoad P w₀ h t x) := by
  cases c <;> cases b <;> first | rfl | simp [agL, agP, guardB, condV]
theorem agL_il1 (b : Bool) (t : TypeId) (x y : AVal) : agL P w₀ ops rest s h K dst (.bool b) true (pIndexAddr P t (condV b x) y) = agL P w₀ ops rest s h K dst (.bool b) true (pIndexAddr P t x y) := by
  cases b <;> first | rfl | simp [agL, agP, guardB, condV]
theorem agL_il2 (b : Bool) (t : TypeId) (x y : AVal) : agL P w₀ ops rest s h K dst (.bool b) false (pIndexAddr P t (condV (!b) x) y) = agL P w₀ ops rest s h K dst (.bool b) false (pIndexAddr P t x y) := by
  cases b <;> first | rfl | simp [agL, agP, guardB, condV]
theorem agL_il3 (c b : Bool) (t : TypeId) (x y : AVal) : agL P w₀ ops rest s h K dst (condV c (.bool b)) true (pIndexAddr P t (condV (c && b) x) y) = agL P w₀ ops rest s h K dst (condV c (.bool b)) true (pIndexAddr P t x y) := by
  cases c <;> cases b <;> first | rfl | simp [agL, agP, guardB, condV]
theorem agL_il4 (c b : Bool) (t : TypeId) (x y : AVal) : agL P w₀ ops rest s h K dst (condV c (.bool b)) false (pIndexAddr P t (condV (c && !b) x) y) = agL P w₀ ops rest s h K dst (condV c (.bool b)) false (pIndexAddr P t x y) := by
  cases c <;> cases b <;> first | rfl | simp [agL, agP, guardB, condV]
theorem agL_ir1 (b : Bool) (t : TypeId) (x y : AVal) : agL P w₀ ops rest s h K dst (.bool b) true (pIndexAddr P t x (condV b y)) = agL P w₀ ops rest s h K dst (.bool b) true (pIndexAddr P t x y) := by
  cases b <;> first | rfl | simp [agL, agP, guardB, condV]
theorem agL_ir2 (b : Bool) (t : TypeId) (x y : AVal) : agL P w₀ ops rest s h K dst (.bool b) false (pIndexAddr P t x (condV (!b) y)) = agL P w₀ ops rest s h K dst (.bool b) false (pIndexAddr P t x y) := by
  cases b <;> first | rfl | simp [agL, agP, guardB, condV]
theorem agL_ir3 (c b : Bool) (t : TypeId) (x y : AVal) : agL P w₀ ops rest s h K dst (condV c (.bool b)) true (pIndexAddr P t x (condV (c && b) y)) = agL P w₀ ops rest s h K dst (condV c (.bool b)) true (pIndexAddr P t x y) := by
  cases c <;> cases b <;> first | rfl | simp [agL, agP, guardB, condV]
theorem agL_ir4 (c b : Bool) (t : TypeId) (x y : AVal) : agL P w₀ ops rest s h K dst (condV c (.bool b)) false (pIndexAddr P t x (condV (c && !b) y)) = agL P w₀ ops rest s h K dst (condV c (.bool b)) false (pIndexAddr P t x y) := by
  cases c <;> cases b <;> first | rfl | simp [agL, agP, guardB, condV]

theorem ap_indexAddrL (t : TypeId) (x i : Operand) : aOps P w₀ ops (⟨dst, .indexAddr t x i, ty, pos, af, none⟩ :: rest) s h K = apL P w₀ ops rest s h K dst (pIndexAddr P t (ev s x) (ev s i)) := by rw [ap_indexAddr]; rfl
theorem ag_indexAddrL (t : TypeId) (x i : Operand) {j : Nat} {want : Bool} : aOps P w₀ ops (⟨dst, .indexAddr t x i, ty, pos, af, some (j, want)⟩ :: rest) s h K = agQL P w₀ ops rest s h K dst want (pIndexAddr P t (ev s x) (ev s i)) (nthDst ops j) := by
  rw [ag_indexAddr]
  cases nthDst ops j <;> rfl

/-- The pointer to an element, where there is one. -/
def elemQ (v : AVal) (n i : Nat) : AVal := if i < n then elemP v i else .dead

section
variable {v : AVal} {bs : List UInt8} (hb : IsB w₀ h v bs)
include hb
theorem IsB.idxQ {t e : TypeId} (ht : P.underlying t = some (.slice e)) (hs : szOf P e = some 1) (k : IntKind) (n : Int) :
    (pIndexAddr P t v (.int k n)).pre = (0 ≤ n ∧ n < bs.length) ∧ ((0 ≤ n ∧ n < bs.length) → (pIndexAddr P t v (.int k n)).val = elemQ v bs.length n.toNat) := by
  rw [hb.idx ht hs]
  exact ⟨rfl, fun hn => by rw [elemQ, if_pos (by omega)]⟩
theorem IsB.apI {t e : TypeId} (ht : P.underlying t = some (.slice e)) (hs : szOf P e = some 1) (k : IntKind) (n : Int) :
    apL P w₀ ops rest s h K dst (pIndexAddr P t v (.int k n)) = (((0 ≤ n ∧ n < bs.length) ∧ aOps P w₀ ops rest (putD s dst (elemQ v bs.length n.toNat)) h K)) := by
  rw [apL_eq (r' := ⟨0 ≤ n ∧ n < bs.length, elemQ v bs.length n.toNat⟩) (hb.idxQ ht hs k n).1 (hb.idxQ ht hs k n).2]
  rfl
theorem IsB.agI {t e : TypeId} (ht : P.underlying t = some (.slice e)) (hs : szOf P e = some 1) (g : AVal) (want : Bool) (k : IntKind) (n : Int) :
    agL P w₀ ops rest s h K dst g want (pIndexAddr P t v (.int k n)) = agP P w₀ ops rest s h K dst g want ⟨0 ≤ n ∧ n < bs.length, elemQ v bs.length n.toNat⟩ := by
  rw [agL_eq (r' := ⟨0 ≤ n ∧ n < bs.length, elemQ v bs.length n.toNat⟩) g want (hb.idxQ ht hs k n).1 (hb.idxQ ht hs k n).2]
  rfl
theorem IsB.loadQ {t : TypeId} (ha : aggOf P t = some false) (i : Nat) :
    (pLoad P w₀ h t (elemQ v bs.length i)).pre = (i < bs.length) ∧ (i < bs.length → (pLoad P w₀ h t (elemQ v bs.length i)).val = .int .u8 (bs.getD i 0).toNat) := by
  unfold elemQ
  by_cases hi : i < bs.length
  · rw [if_pos hi, hb.load ha hi]
    exact ⟨by simp [hi], fun _ => rfl⟩
  · rw [if_neg hi]
    exact ⟨by simp [pLoad, PR.no, hi], fun h => absurd h hi⟩
theorem IsB.apLd {t : TypeId} (ha : aggOf P t = some false) (i : Nat) :
    apL P w₀ ops rest s h K dst (pLoad P w₀ h t (elemQ v bs.length i)) = (i < bs.length ∧ aOps P w₀ ops rest (putD s dst (.int .u8 (bs.getD i 0).toNat)) h K) := by
  rw [apL_eq (r' := ⟨i < bs.length, .int .u8 (bs.getD i 0).toNat⟩) (hb.loadQ ha i).1 (hb.loadQ ha i).2]
  rfl
theorem IsB.agLd {t : TypeId} (ha : aggOf P t = some false) (g : AVal) (want : Bool) (i : Nat) :
    agL P w₀ ops rest s h K dst g want (pLoad P w₀ h t (elemQ v bs.length i)) = agP P w₀ ops rest s h K dst g want ⟨i < bs.length, .int .u8 (bs.getD i 0).toNat⟩ := by
  rw [agL_eq (r' := ⟨i < bs.length, .int .u8 (bs.getD i 0).toNat⟩) g want (hb.loadQ ha i).1 (hb.loadQ ha i).2]
  rfl
end
end
/-! ### A slice of bytes of the call's own that is written -/
/-- The heap in which a slice of the call's own holds other bytes. -/
def updB (got : AVal) (h : AHeap) (T : List UInt8) : AHeap :=
  match got with
  | .slice (.own k) _ _ _ => h.set k ⟨byteCells T, 0⟩
  | _ => h

theorem FreshB.upd {h₀ h h2 : AHeap} {T : List UInt8} {got : AVal} (hf : FreshB h₀ T got h) (hs : Sub h h2) : Sub h2 (updB got h2 T) ∧ Sub (updB got h2 T) h2 := by
  rcases hf with ⟨rfl, rfl, rfl⟩ | ⟨k, hk, rfl, rfl⟩
  · exact ⟨Sub.refl _, Sub.refl _⟩
  · have e : h2.set k ⟨byteCells T, 0⟩ = h2 := by
      funext j
      by_cases ej : j = k
      · subst ej; rw [AHeap.set_same]; exact (hs _ _ (AHeap.set_same _ _ _)).symm
      · rw [AHeap.set_ne _ _ ej]
    simp only [updB, e]
    exact ⟨Sub.refl _, Sub.refl _⟩
theorem FreshB.updIs {w₀ : World} {h₀ h h2 : AHeap} {T T' : List UInt8} {got : AVal} (hf : FreshB h₀ T got h) (hl : T'.length = T.length) : IsB w₀ (updB got h2 T') got T' := by
  rcases hf with ⟨rfl, rfl, rfl⟩ | ⟨k, hk, rfl, rfl⟩
  · have e : T' = [] := List.eq_nil_of_length_eq_zero (by simpa using hl)
    subst e; exact .nil
  · exact IsB.own (AHeap.set_same _ _ _) hl.symm (Nat.le_refl _)
theorem FreshB.updSub {h₀ h h2 : AHeap} {T T' : List UInt8} {got : AVal} (hf : FreshB h₀ T got h) (hs : Sub h h2) : Sub h₀ (updB got h2 T') := by
  rcases hf with ⟨rfl, rfl, rfl⟩ | ⟨k, hk, rfl, rfl⟩
  · exact hs
  · exact ((Sub.set hk).trans hs).trans_set hk
theorem FreshB.updOther {h₀ h h2 : AHeap} {T T' : List UInt8} {got : AVal} (hf : FreshB h₀ T got h) {j : Nat} {b : Blk} (hj : h j = none) (hb : h2 j = some b) : updB got h2 T' j = some b := by
  rcases hf with ⟨rfl, rfl, rfl⟩ | ⟨k, hk, rfl, rfl⟩
  · exact hb
  · have : j ≠ k := fun e => by subst e; rw [AHeap.set_same] at hj; cases hj
    simp only [updB]
    rw [AHeap.set_ne _ _ this]; exact hb

section
variable {P : Program} {w₀ : World} {ops rest : List Oper} {s : Slots} {h : AHeap} {K : Slots → AHeap → Prop} {dst : Option Tmp} {ty : TypeId} {pos : String} {af : Array Edge}
theorem aOps_storeQ {h₀ h1 h2 : AHeap} {T T' : List UInt8} {got : AVal} (hf : FreshB h₀ T got h1) {t : TypeId} {x y : Operand} {n : Int} {i m : Nat} (hx : ev s x = elemQ got m i) (hm : m = T.length) (hv : ev s y = .int .u8 n) (ht : szOf P t = some 1) (hl : T'.length = T.length)
    (hh : h = updB got h2 T') (hi : i < T.length) (h0 : 0 ≤ n) (h1 : n ≤ 255) (hk : aOps P w₀ ops rest (putD s dst (.tuple [])) (updB got h2 (T'.set i (UInt8.ofNat n.toNat))) K) :
    aOps P w₀ ops (⟨dst, .store t x y, ty, pos, af, none⟩ :: rest) s h K := by
  subst hm
  rw [elemQ, if_pos hi] at hx
  rcases hf with ⟨rfl, rfl, rfl⟩ | ⟨k, hk', rfl, rfl⟩
  · simp at hi
  · simp only [updB] at hh hk
    simp only [elemP] at hx
    exact aOps_storeByte (i := i) hx hv ht hh (by omega) (by omega) (Nat.zero_le _) h0 h1 hk
end

end Go.AM
