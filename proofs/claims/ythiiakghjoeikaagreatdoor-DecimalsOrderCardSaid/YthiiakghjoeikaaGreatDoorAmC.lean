/-
  An assertion layer over the model's wp, part C: the other operations that only compute or read.
  Conditions: none. Nothing here is about a particular program.
-/
import Derived.Test.YthiiakghjoeikaaGreatDoorAmB
import Derived.Laws.BytesArg
set_option linter.unusedSimpArgs false
set_option linter.unnecessarySimpa false
set_option linter.unusedVariables false
namespace Go.AM
open Go.RowKit (Below)

theorem VR_cellsV {φ : PMap} {x : AVal} {v : Value} (h : VR φ x v) (hx : ∀ cs, x ≠ .agg cs) (hl : x.live = true) : v.cells = #[v] := by
  cases x <;> simp only [VR] at h <;> first
    | (simp [AVal.live] at hl; done)
    | (subst h; rfl)
    | exact absurd rfl (hx _)
    | (obtain ⟨_, _, rfl⟩ := h; rfl)
    | (obtain ⟨_, rfl, _⟩ := h; rfl)
    | skip
  rename_i l o len c
  cases c <;> simp only [] at h
  · obtain ⟨_, rfl, _⟩ := h; rfl
  · obtain ⟨_, _, _, _, _, _, rfl, _⟩ := h; rfl

/-- Cells that were there read as they did. -/
def Same (w w' : World) : Prop := ∀ (a : Addr) (u : Value), w.cell? a = some u → w'.cell? a = some u

theorem Same.refl (w : World) : Same w w := fun _ _ h => h

/-! ### Unary operations and conversions -/
def pUn (op : UnOp) (x : AVal) : PR :=
  match op, x with
  | .neg, .int k n => ⟨True, .int k (k.wrap (0 - n))⟩
  | .not, .bool b => ⟨True, .bool (!b)⟩
  | _, _ => .no

theorem pUn_ok {P : Program} {φ : PMap} {op : UnOp} {x : AVal} {v : Value} (hp : (pUn op x).pre) (hx : VR φ x v) :
    ∃ r, (∀ w, (Op.unary op v).run P w = .ok r w) ∧ VR φ (pUn op x).val r := by
  unfold pUn at hp ⊢
  split at hp
  · simp only [VR] at hx; subst hx; simp [Op.unary, Op.intArith, VR]
  · simp only [VR] at hx; subst hx; simp [Op.unary, VR]
  · exact hp.elim

def AVal.isU8 : AVal → Bool
  | .int .u8 _ => true
  | _ => false
def AVal.byte : AVal → UInt8
  | .int _ n => UInt8.ofNat n.toNat
  | _ => 0

/-- Cells that hold a text. -/
def byteCells (s : List UInt8) : List AVal := s.map fun b => .int .u8 b.toNat

theorem byteCells_length (s : List UInt8) : (byteCells s).length = s.length := by simp [byteCells]
theorem byteCells_isU8 (s : List UInt8) : (byteCells s).all AVal.isU8 = true := by simp [byteCells, AVal.isU8]
theorem byteCells_byte (s : List UInt8) : (byteCells s).map AVal.byte = s := by
  induction s with
  | nil => rfl
  | cons b s ih =>
    simp only [byteCells, List.map_cons, List.map_map, AVal.byte] at ih ⊢
    rw [ih]
    congr 1
    simp

theorem VRs_u8 {φ : PMap} : ∀ {cs : List AVal} {vs : List Value}, VRs φ cs vs → cs.all AVal.isU8 = true → ∃ ns : List Int, vs = ns.map (Value.int .u8) ∧ cs.map AVal.byte = ns.map fun n => UInt8.ofNat n.toNat
  | [], vs, h, _ => by simp only [VRs] at h; subst h; exact ⟨[], rfl, rfl⟩
  | c :: cs, vs, h, hu => by
    simp only [VRs] at h
    obtain ⟨v, vs', rfl, h1, h2⟩ := h
    simp only [List.all_cons, Bool.and_eq_true] at hu
    obtain ⟨ns, e1, e2⟩ := VRs_u8 h2 hu.2
    match c, hu.1, h1 with
    | .int .u8 n, _, h1 =>
      simp only [VR] at h1
      exact ⟨n :: ns, by simp [h1, e1], by simp [AVal.byte, e2]⟩

theorem allLive_of_u8 : ∀ {cs : List AVal}, cs.all AVal.isU8 = true → allLive cs = true
  | [], _ => rfl
  | c :: cs, h => by
    simp only [List.all_cons, Bool.and_eq_true] at h
    simp only [allLive, allLive_of_u8 h.2, Bool.and_true]
    match c, h.1 with
    | .int .u8 n, _ => rfl

def pConv (P : Program) (w₀ : World) (h : AHeap) (src dst : TypeId) (x : AVal) : PR :=
  match x with
  | .int _ n => match P.underlying src, P.underlying dst with
    | some _, some (.int k) => ⟨True, .int k (k.wrap n)⟩
    | _, _ => .no
  | .str s => match P.underlying src, P.underlying dst with
    | some .string, some .string => ⟨True, .str s⟩
    | _, _ => .no
  | .nilSlice => match P.underlying src, P.underlying dst with
    | some (.slice e), some .string => match P.underlying e with
      | some (.int .u8) => ⟨True, .str []⟩
      | _ => .no
    | _, _ => .no
  | .slice l o len _ => match P.underlying src, P.underlying dst with
    | some (.slice e), some .string => match P.underlying e with
      | some (.int .u8) => ⟨(cellsAt w₀ h l o len).all AVal.isU8 = true, .str ((cellsAt w₀ h l o len).map AVal.byte)⟩
      | _ => .no
    | _, _ => .no
  | _ => .no

/-- A slice's own row: where it begins, unless it is empty. -/
theorem VR_slice_addr {φ : PMap} {l : Loc} {o len : Nat} {c : Cap} {v : Value} (h : VR φ (.slice l o len c) v) :
    ∃ a cap, v = .slice (some a) len cap ∧ (len ≠ 0 → locAddr φ l o = some a) := by
  cases c with
  | exact c =>
    simp only [VR] at h
    obtain ⟨a, rfl, ha⟩ := h
    exact ⟨a, c, rfl, fun hne => ha (.inr hne)⟩
  | grow es =>
    simp only [VR] at h
    obtain ⟨k, p, c, a, rfl, hp, rfl, hl, hc⟩ := h
    exact ⟨a, c, rfl, fun hne => by
      have := (hc (by omega)).1
      subst this
      simp [locAddr, hp]⟩

theorem loadCells_ok {P : Program} {w₀ w : World} {φ : PMap} {h : AHeap} (hr : HRel w₀ φ h w) {l : Loc} {o n : Nat} {a : Addr} (ha : n ≠ 0 → locAddr φ l o = some a) (hl : allLive (cellsAt w₀ h l o n) = true) :
    ∃ vs : List Value, vs.length = n ∧ VRs φ (cellsAt w₀ h l o n) vs ∧ (∀ w', Same w w' → (loadCells a n).run P w' = .ok vs.toArray w') ∧ ∀ j v, vs[j]? = some v → w.cell? (a.add j) = some v := by
  by_cases hn : n = 0
  · subst hn
    exact ⟨[], rfl, by simp [cellsAt, VRs], by simp [loadCells, loadCellsFrom], by simp⟩
  · obtain ⟨vs, e1, e2, e3⟩ := cells_read hr l n o a (ha hn) hl
    exact ⟨vs, e1, e2, fun w' hw => by rw [← e1]; exact run_loadCells_list w' a vs fun j v hj => hw _ _ (e3 j v hj), e3⟩

theorem pConv_ok {P : Program} {w₀ w : World} {φ : PMap} {h : AHeap} {src dst : TypeId} {x : AVal} {v : Value} (hp : (pConv P w₀ h src dst x).pre) (hr : HRel w₀ φ h w) (hx : VR φ x v) :
    ∃ r, (∀ w', Same w w' → (convert src dst v).run P w' = .ok r w') ∧ VR φ (pConv P w₀ h src dst x).val r := by
  unfold pConv at hp ⊢
  split at hp
  · rename_i k n
    simp only [VR] at hx; subst hx
    split at hp
    · rename_i d k' h1 h2
      exact ⟨.int k' (k'.wrap n), fun w' _ => by simp [convert, run_underlying' h1, run_underlying' h2, Conv.intToInt], by simp only [VR]⟩
    · exact hp.elim
  · simp only [VR] at hx; subst hx
    split at hp
    · rename_i h1 h2
      exact ⟨_, fun w' _ => by simp [convert, run_underlying' h1, run_underlying' h2]; rfl, by simp only [VR]⟩
    · exact hp.elim
  · simp only [VR] at hx; subst hx
    split at hp
    · rename_i e h1 h2
      split at hp
      · rename_i h3
        refine ⟨.string .empty, fun w' _ => ?_, by simp only [VR]; rfl⟩
        rw [run_convert_bytes_string w' src dst e none 0 0 h1 h3 h2]
        simp [Conv.bytesToString]
      · exact hp.elim
    · exact hp.elim
  · rename_i l o len c
    split at hp
    · rename_i e h1 h2
      split at hp
      · rename_i h3
        simp only at hp ⊢
        obtain ⟨a, cap, rfl, ha⟩ := VR_slice_addr hx
        obtain ⟨vs, e1, e2, e3, _⟩ := loadCells_ok (P := P) hr ha (allLive_of_u8 hp)
        obtain ⟨ns, f1, f2⟩ := VRs_u8 e2 hp
        subst f1
        refine ⟨.string ⟨ByteArray.empty.data ++ (ns.map fun n => UInt8.ofNat n.toNat).toArray⟩, fun w' hw => ?_, ?_⟩
        · rw [run_convert_bytes_string w' src dst e (some a) len cap h1 h3 h2, run_bytesToString w' a len cap ns (e3 w' hw), foldl_push_bytes]
        · simp only [VR]
          rw [f2]
          simp [ByteArray.empty, ByteArray.emptyWithCapacity]
          rfl
      · exact hp.elim
    · exact hp.elim
  · exact hp.elim

/-! ### Indexing, fields, loads -/
def partA (P : Program) (t : TypeId) (cs : List AVal) (off : Nat) : PR :=
  match aggOf P t, szOf P t with
  | some true, some n => ⟨off + n ≤ cs.length, .agg ((cs.drop off).take n)⟩
  | some false, some _ => ⟨off < cs.length, cs.getD off .dead⟩
  | _, _ => .no

theorem partA_ok {P : Program} {φ : PMap} {t : TypeId} {cs : List AVal} {off : Nat} {vs : List Value} (hp : (partA P t cs off).pre) (hs : VRs φ cs vs) :
    ∃ r, (∀ w, (part t vs.toArray off).run P w = .ok r w) ∧ VR φ (partA P t cs off).val r := by
  unfold partA at hp ⊢
  split at hp
  · rename_i n h1 h2
    simp only at hp ⊢
    refine ⟨.agg (vs.toArray.extract off (off + n)), fun w => by simp [part, run_isAgg' h1, run_sizeOf' h2], ?_⟩
    simp only [VR]
    refine ⟨(vs.drop off).take n, ?_, VRs_take n (VRs_drop off hs)⟩
    congr 1
    apply Array.ext'
    simp [List.extract]
  · rename_i h1 h2
    simp only at hp ⊢
    have hl := VRs_length hs
    have := VRs_get hs off undef (by omega)
    refine ⟨vs.getD off undef, fun w => ?_, this⟩
    have hlt : off < vs.length := by omega
    simp [part, run_isAgg' h1, hlt]
  · exact hp.elim

def pField (P : Program) (t : TypeId) (x : AVal) (f : Nat) : PR :=
  match x, P.underlying t with
  | .agg cs, some (.struct fs) => match fs[f]? with
    | some fd => partA P fd.type cs fd.offset
    | none => .no
  | _, _ => .no

theorem pField_ok {P : Program} {φ : PMap} {t : TypeId} {x : AVal} {f : Nat} {v : Value} (hp : (pField P t x f).pre) (hx : VR φ x v) :
    ∃ r, (∀ w, (Instr.field t v f).run P w = .ok r w) ∧ VR φ (pField P t x f).val r := by
  unfold pField at hp ⊢
  split at hp
  · rename_i cs fs h1
    split at hp
    · rename_i fd h2
      simp only [VR] at hx
      obtain ⟨vs, rfl, hs⟩ := hx
      obtain ⟨r, e1, e2⟩ := partA_ok hp hs
      exact ⟨r, fun w => by simp [Instr.field, run_underlying' h1, h2, asAgg, e1], e2⟩
    · exact hp.elim
  · exact hp.elim

def pIndex (P : Program) (t : TypeId) (x i : AVal) : PR :=
  match x, i with
  | .str s, .int _ n => match P.underlying t with
    | some .string => ⟨0 ≤ n ∧ n < s.length, .int .u8 (s.getD n.toNat 0).toNat⟩
    | _ => .no
  | .agg cs, .int _ n => match P.underlying t with
    | some (.array len e) => match szOf P e with
      | some es => ⟨(0 ≤ n ∧ n < len) ∧ (partA P e cs (n.toNat * es)).pre, (partA P e cs (n.toNat * es)).val⟩
      | none => .no
    | _ => .no
  | _, _ => .no

theorem pIndex_ok {P : Program} {φ : PMap} {t : TypeId} {x i : AVal} {v u : Value} (hp : (pIndex P t x i).pre) (hx : VR φ x v) (hi : VR φ i u) :
    ∃ r, (∀ w, (Instr.index t v u).run P w = .ok r w) ∧ VR φ (pIndex P t x i).val r := by
  unfold pIndex at hp ⊢
  split at hp
  · rename_i s k n
    split at hp
    · rename_i h1
      simp only [VR] at hx hi
      subst hx hi
      simp only at hp ⊢
      obtain ⟨h0, h2⟩ := hp
      refine ⟨.int .u8 (s.getD n.toNat 0).toNat, fun w => ?_, by simp only [VR]⟩
      have hlt : n.toNat < s.length := by omega
      have hg : (⟨⟨s⟩⟩ : ByteArray)[n.toNat]? = some (s.getD n.toNat 0) := by
        rw [getElem?_pos _ _ (by simpa [ByteArray.size] using hlt)]
        simp [ByteArray.getElem_eq_getElem_data, List.getD, hlt]
      simp [Instr.index, asIntOf, run_underlying' h1, h0, hg]
    · exact hp.elim
  · rename_i cs k n
    split at hp
    · rename_i len e h1
      split at hp
      · rename_i es h2
        simp only [VR] at hx hi
        subst hi
        obtain ⟨vs, rfl, hs⟩ := hx
        simp only at hp ⊢
        obtain ⟨⟨h3, h4⟩, h5⟩ := hp
        obtain ⟨r, e1, e2⟩ := partA_ok h5 hs
        exact ⟨r, fun w => by simp [Instr.index, asIntOf, run_underlying' h1, h3, h4, run_sizeOf' h2, e1], e2⟩
      · exact hp.elim
    · exact hp.elim
  · exact hp.elim

def pIndexAddr (P : Program) (t : TypeId) (x i : AVal) : PR :=
  match x, i with
  | .slice l o len _, .int _ n => match P.underlying t with
    | some (.slice e) => match szOf P e with
      | some es => ⟨0 ≤ n ∧ n < len, .ptr l (o + n.toNat * es)⟩
      | none => .no
    | _ => .no
  | .ptr l o, .int _ n => match P.underlying t with
    | some (.array len e) => match szOf P e with
      | some es => ⟨0 ≤ n ∧ n < len, .ptr l (o + n.toNat * es)⟩
      | none => .no
    | _ => .no
  | _, _ => .no

theorem pIndexAddr_ok {P : Program} {φ : PMap} {t : TypeId} {x i : AVal} {v u : Value} (hp : (pIndexAddr P t x i).pre) (hx : VR φ x v) (hi : VR φ i u) :
    ∃ r, (∀ w, (Instr.indexAt t v u).run P w = .ok r w) ∧ VR φ (pIndexAddr P t x i).val r := by
  unfold pIndexAddr at hp ⊢
  split at hp
  · rename_i l o len c k n
    split at hp
    · rename_i e h1
      split at hp
      · rename_i es h2
        simp only at hp ⊢
        obtain ⟨h3, h4⟩ := hp
        obtain ⟨a, cap, rfl, ha⟩ := VR_slice_addr hx
        simp only [VR] at hi
        subst hi
        have ha' := ha (by omega)
        refine ⟨.pointer (some (a.add (n.toNat * es))), fun w => ?_, by simp only [VR]; exact ⟨_, locAddr_add ha', rfl⟩⟩
        simp [Instr.indexAt, asIntOf, run_underlying' h1, h3, h4, run_sizeOf' h2]
      · exact hp.elim
    · exact hp.elim
  · rename_i l o k n
    split at hp
    · rename_i len e h1
      split at hp
      · rename_i es h2
        simp only at hp ⊢
        obtain ⟨h3, h4⟩ := hp
        simp only [VR] at hi hx
        subst hi
        obtain ⟨a, ha, rfl⟩ := hx
        refine ⟨.pointer (some (a.add (n.toNat * es))), fun w => ?_, by simp only [VR]; exact ⟨_, locAddr_add ha, rfl⟩⟩
        simp [Instr.indexAt, Instr.sureAddr, asIntOf, run_underlying' h1, h3, h4, run_sizeOf' h2]
      · exact hp.elim
    · exact hp.elim
  · exact hp.elim

def pFieldAddr (P : Program) (t : TypeId) (x : AVal) (f : Nat) : PR :=
  match x, P.underlying t with
  | .ptr l o, some (.struct fs) => match fs[f]? with
    | some fd => match szOf P fd.type with
      | some n => ⟨n ≠ 0, .ptr l (o + fd.offset)⟩
      | none => .no
    | none => .no
  | _, _ => .no

theorem pFieldAddr_ok {P : Program} {φ : PMap} {t : TypeId} {x : AVal} {f : Nat} {v : Value} (hp : (pFieldAddr P t x f).pre) (hx : VR φ x v) :
    ∃ r, (∀ w, (Instr.fieldAt t v f).run P w = .ok r w) ∧ VR φ (pFieldAddr P t x f).val r := by
  unfold pFieldAddr at hp ⊢
  split at hp
  · rename_i l o fs h1
    split at hp
    · rename_i fd h2
      split at hp
      · rename_i n h3
        simp only [VR] at hx
        obtain ⟨a, ha, rfl⟩ := hx
        simp only at hp ⊢
        refine ⟨.pointer (some (a.add fd.offset)), fun w => ?_, by simp only [VR]; exact ⟨_, locAddr_add ha, rfl⟩⟩
        simp [Instr.fieldAt, run_underlying' h1, h2, Instr.sureAddr, fieldPlace, run_sizeOf' h3, hp]
      · exact hp.elim
    · exact hp.elim
  · exact hp.elim

def pLoad (P : Program) (w₀ : World) (h : AHeap) (t : TypeId) (x : AVal) : PR :=
  match x with
  | .ptr l o => match aggOf P t, szOf P t with
    | some true, some n => ⟨allLive (cellsAt w₀ h l o n) = true, .agg (cellsAt w₀ h l o n)⟩
    | some false, _ => ⟨(rd w₀ h l o).live = true, rd w₀ h l o⟩
    | _, _ => .no
  | _ => .no

theorem pLoad_ok {P : Program} {w₀ w : World} {φ : PMap} {h : AHeap} {t : TypeId} {x : AVal} {v : Value} (hp : (pLoad P w₀ h t x).pre) (hr : HRel w₀ φ h w) (hx : VR φ x v) :
    ∃ r, (∀ w', Same w w' → (Instr.loadAt t v).run P w' = .ok r w') ∧ VR φ (pLoad P w₀ h t x).val r := by
  unfold pLoad at hp ⊢
  split at hp
  · rename_i l o
    simp only [VR] at hx
    obtain ⟨a, ha, rfl⟩ := hx
    split at hp
    · rename_i n h1 h2
      simp only at hp ⊢
      obtain ⟨vs, e1, e2, e3, _⟩ := loadCells_ok (P := P) hr (fun _ => ha) hp
      refine ⟨.agg vs.toArray, fun w' hw => ?_, by simp only [VR]; exact ⟨vs, rfl, e2⟩⟩
      simp [Instr.loadAt, Instr.sureAddr, loadVar, run_isAgg' h1, run_sizeOf' h2, e3 w' hw]
    · rename_i _ _ h1
      simp only at hp ⊢
      obtain ⟨a', u, g1, g2, g3, _⟩ := hr.rd l o hp
      have : a' = a := by rw [ha] at g1; exact (Option.some.inj g1).symm
      subst this
      exact ⟨u, fun w' hw => by simp [Instr.loadAt, Instr.sureAddr, loadVar, run_isAgg' h1, hw _ _ g2], g3⟩
    · exact hp.elim
  · exact hp.elim

/-! ### Slicing -/
def bndA (x : Option AVal) (d : Nat) : Option Int :=
  match x with
  | none => some d
  | some (.int _ n) => some n
  | _ => none

def pSlice (P : Program) (t : TypeId) (x : AVal) (lo hi mx : Option AVal) : PR :=
  match x, P.underlying t with
  | .str s, some .string => match mx, bndA lo 0, bndA hi s.length with
    | none, some l, some h => ⟨0 ≤ l ∧ l ≤ h ∧ h ≤ s.length, .str ((s.drop l.toNat).take (h.toNat - l.toNat))⟩
    | _, _, _ => .no
  | .nilSlice, some (.slice e) => match szOf P e, mx, bndA lo 0, bndA hi 0 with
    | some _, none, some l, some h => ⟨l = 0 ∧ h = 0, .nilSlice⟩
    | some _, some (.int _ m), some l, some h => ⟨(l = 0 ∧ h = 0 ∧ m = 0) ∧ hi.isSome = true, .nilSlice⟩
    | _, _, _, _ => .no
  | .slice lc o len c, some (.slice e) => match szOf P e, bndA lo 0, bndA hi len, mx, c with
    | some es, some l, some h, none, .exact c => ⟨0 ≤ l ∧ l ≤ h ∧ h ≤ c, .slice lc (o + l.toNat * es) (h - l).toNat (.exact (c - l).toNat)⟩
    | some es, some l, some h, none, .grow g => ⟨0 ≤ l ∧ l ≤ h ∧ h ≤ len ∧ g = es, .slice lc (o + l.toNat * es) (h - l).toNat (.grow g)⟩
    | some es, some l, some h, some (.int _ m), .exact c => ⟨(0 ≤ l ∧ l ≤ h ∧ h ≤ m ∧ m ≤ c) ∧ hi.isSome = true, .slice lc (o + l.toNat * es) (h - l).toNat (.exact (m - l).toNat)⟩
    | some es, some l, some h, some (.int _ m), .grow _ => ⟨(0 ≤ l ∧ l ≤ h ∧ h ≤ m ∧ m ≤ len) ∧ hi.isSome = true, .slice lc (o + l.toNat * es) (h - l).toNat (.exact (m - l).toNat)⟩
    | _, _, _, _, _ => .no
  | _, _ => .no

theorem sliceBounds_ok {P : Program} (b : Bool) (len cap : Nat) (lo hi : Option Value) (l h : Int)
    (hlo : (lo = none ∧ l = 0) ∨ ∃ k, lo = some (.int k l)) (hhi : (hi = none ∧ h = len) ∨ ∃ k, hi = some (.int k h)) (h0 : 0 ≤ l) (h1 : l ≤ h) (h2 : h ≤ cap) :
    ∀ w : World, (Instr.sliceBounds b len cap lo hi none).run P w = .ok (l.toNat, h.toNat, cap) w := by
  intro w
  obtain ⟨l, rfl⟩ := Int.eq_ofNat_of_zero_le h0
  obtain ⟨h, rfl⟩ := Int.eq_ofNat_of_zero_le (Int.le_trans h0 h1)
  have b1 : l ≤ h := by omega
  have b2 : h ≤ cap := by omega
  rcases hlo with ⟨rfl, e⟩ | ⟨k, rfl⟩ <;> rcases hhi with ⟨rfl, e'⟩ | ⟨k', rfl⟩
  · obtain rfl : l = 0 := by omega
    obtain rfl : h = len := by omega
    simp [Instr.sliceBounds]
  · obtain rfl : l = 0 := by omega
    simp [Instr.sliceBounds, Instr.sliceBound, asIntOf, b2]
  · obtain rfl : h = len := by omega
    simp [Instr.sliceBounds, Instr.sliceBound, asIntOf, b1]
  · simp [Instr.sliceBounds, Instr.sliceBound, asIntOf, b1, b2]

theorem sliceBounds_max {P : Program} (len cap : Nat) (lo : Option Value) (l h m : Int) (k' k'' : IntKind)
    (hlo : (lo = none ∧ l = 0) ∨ ∃ k, lo = some (.int k l)) (h0 : 0 ≤ l) (h1 : l ≤ h) (h2 : h ≤ m) (h3 : m ≤ cap) :
    ∀ w : World, (Instr.sliceBounds true len cap lo (some (.int k' h)) (some (.int k'' m))).run P w = .ok (l.toNat, h.toNat, m.toNat) w := by
  intro w
  obtain ⟨l, rfl⟩ := Int.eq_ofNat_of_zero_le h0
  obtain ⟨h, rfl⟩ := Int.eq_ofNat_of_zero_le (Int.le_trans h0 h1)
  obtain ⟨m, rfl⟩ := Int.eq_ofNat_of_zero_le (Int.le_trans h0 (Int.le_trans h1 h2))
  have b1 : l ≤ h := by omega
  have b2 : h ≤ m := by omega
  have b3 : m ≤ cap := by omega
  rcases hlo with ⟨rfl, e⟩ | ⟨k, rfl⟩
  · obtain rfl : l = 0 := by omega
    simp [Instr.sliceBounds, Instr.sliceBound, asIntOf, b2, b3]
  · simp [Instr.sliceBounds, Instr.sliceBound, asIntOf, b1, b2, b3]

def OVR (φ : PMap) : Option AVal → Option Value → Prop
  | none, v => v = none
  | some x, v => ∃ u, v = some u ∧ VR φ x u

theorem bndA_ok {φ : PMap} {x : Option AVal} {v : Option Value} {d : Nat} {n : Int} (h : bndA x d = some n) (hx : OVR φ x v) :
    (v = none ∧ n = d ∧ x = none) ∨ ∃ k, v = some (.int k n) := by
  unfold bndA at h
  split at h
  · simp only [OVR] at hx
    exact .inl ⟨hx, (Option.some.inj h).symm, rfl⟩
  · rename_i k n'
    simp only [OVR, VR] at hx
    obtain ⟨u, rfl, rfl⟩ := hx
    cases h
    exact .inr ⟨k, rfl⟩
  · cases h

theorem slice_string_ok {P : Program} (t : TypeId) (ht : P.underlying t = some .string) (s : List UInt8) (lo hi : Option Value) (l h : Int)
    (hlo : (lo = none ∧ l = 0) ∨ ∃ k, lo = some (.int k l)) (hhi : (hi = none ∧ h = s.length) ∨ ∃ k, hi = some (.int k h)) (h0 : 0 ≤ l) (h1 : l ≤ h) (h2 : h ≤ s.length) :
    ∀ w : World, (Instr.sliceAt t (.string ⟨⟨s⟩⟩) lo hi none).run P w = .ok (.string ⟨⟨(s.drop l.toNat).take (h.toNat - l.toNat)⟩⟩) w := by
  intro w
  have hb := sliceBounds_ok (P := P) false s.length s.length lo hi l h hlo hhi h0 h1 h2 w
  have hx : (⟨⟨s⟩⟩ : ByteArray).extract l.toNat h.toNat = ⟨⟨(s.drop l.toNat).take (h.toNat - l.toNat)⟩⟩ := by
    apply ByteArray.ext
    apply Array.ext'
    rw [Lib.extract_data]
  have hsz : (⟨⟨s⟩⟩ : ByteArray).size = s.length := by simp [ByteArray.size]
  simp [Instr.sliceAt, Instr.slice, run_underlying' ht, hsz, hb, hx]

theorem slice_slice_ok {P : Program} (t e : TypeId) (ht : P.underlying t = some (.slice e)) (es : Nat) (he : szOf P e = some es) (a : Option Addr) (len cap : Nat) (lo hi mx : Option Value) (l h m : Nat)
    (hb : ∀ w : World, (Instr.sliceBounds true len cap lo hi mx).run P w = .ok (l, h, m) w) :
    ∀ w : World, (Instr.sliceAt t (.slice a len cap) lo hi mx).run P w = .ok (.slice (if m = l then a else a.map (·.add (l * es))) (h - l) (m - l)) w := by
  intro w
  simp [Instr.sliceAt, Instr.slice, run_underlying' ht, hb w, run_sizeOf' he]

theorem pSlice_ok {P : Program} {φ : PMap} {t : TypeId} {x : AVal} {lo hi mx : Option AVal} {v : Value} {vl vh vm : Option Value} (hp : (pSlice P t x lo hi mx).pre) (hx : VR φ x v)
    (hl : OVR φ lo vl) (hh : OVR φ hi vh) (hm : OVR φ mx vm) :
    ∃ r, (∀ w, (Instr.sliceAt t v vl vh vm).run P w = .ok r w) ∧ VR φ (pSlice P t x lo hi mx).val r := by
  unfold pSlice at hp ⊢
  split at hp
  · rename_i s h1
    split at hp
    · rename_i l h h2 h3
      simp only [VR] at hx; subst hx
      simp only [OVR] at hm; subst hm
      simp only at hp ⊢
      obtain ⟨p1, p2, p3⟩ := hp
      refine ⟨_, slice_string_ok t h1 s vl vh l h ?_ ?_ p1 p2 p3, by simp only [VR]⟩
      · rcases bndA_ok h2 hl with ⟨e1, e2, _⟩ | e
        · exact .inl ⟨e1, by simpa using e2⟩
        · exact .inr e
      · rcases bndA_ok h3 hh with ⟨e1, e2, _⟩ | e
        · exact .inl ⟨e1, by simpa using e2⟩
        · exact .inr e
    · exact hp.elim
  · rename_i e h1
    split at hp
    · rename_i n l h h2 h3 h4
      simp only [VR] at hx; subst hx
      simp only [OVR] at hm; subst hm
      simp only at hp ⊢
      obtain ⟨rfl, rfl⟩ := hp
      have hb := sliceBounds_ok (P := P) true 0 0 vl vh 0 0 (by
        rcases bndA_ok h3 hl with ⟨e1, _, _⟩ | e
        · exact .inl ⟨e1, rfl⟩
        · exact .inr e) (by
        rcases bndA_ok h4 hh with ⟨e1, _, _⟩ | e
        · exact .inl ⟨e1, rfl⟩
        · exact .inr e) (by omega) (by omega) (by omega)
      exact ⟨_, slice_slice_ok t e h1 n h2 none 0 0 vl vh none _ _ _ hb, by simp [VR]⟩
    · rename_i n k m l h h2 h3 h4
      simp only [VR] at hx; subst hx
      simp only [OVR, VR] at hm
      obtain ⟨u, rfl, rfl⟩ := hm
      simp only at hp ⊢
      obtain ⟨⟨rfl, rfl, rfl⟩, p5⟩ := hp
      obtain ⟨kh, rfl⟩ : ∃ k, vh = some (.int k 0) := by
        rcases bndA_ok h4 hh with ⟨_, _, e3⟩ | e
        · subst e3; cases p5
        · exact e
      have hb := sliceBounds_max (P := P) 0 0 vl 0 0 0 kh k (by
        rcases bndA_ok h3 hl with ⟨e1, _, _⟩ | e
        · exact .inl ⟨e1, rfl⟩
        · exact .inr e) (by omega) (by omega) (by omega) (by omega)
      exact ⟨_, slice_slice_ok t e h1 n h2 none 0 0 vl _ _ _ _ _ hb, by simp [VR]⟩
    · exact hp.elim
  · rename_i lc o len c e h1
    have low : ∀ l, bndA lo 0 = some l → (vl = none ∧ l = 0) ∨ ∃ k, vl = some (.int k l) := fun l hb => by
      rcases bndA_ok hb hl with ⟨e1, e2, _⟩ | e
      · exact .inl ⟨e1, by simpa using e2⟩
      · exact .inr e
    have high : ∀ h, bndA hi len = some h → (vh = none ∧ h = len) ∨ ∃ k, vh = some (.int k h) := fun h hb => by
      rcases bndA_ok hb hh with ⟨e1, e2, _⟩ | e
      · exact .inl ⟨e1, e2⟩
      · exact .inr e
    have high' : ∀ h, bndA hi len = some h → hi.isSome = true → ∃ k, vh = some (.int k h) := fun h hb hs => by
      rcases bndA_ok hb hh with ⟨_, _, e3⟩ | e
      · subst e3; cases hs
      · exact e
    split at hp
    · rename_i es l h c h2 h3 h4
      simp only [OVR] at hm; subst hm
      simp only at hp ⊢
      obtain ⟨p1, p2, p3⟩ := hp
      simp only [VR] at hx
      obtain ⟨a, rfl, ha⟩ := hx
      have hb := sliceBounds_ok (P := P) true len c vl vh l h (low l h3) (high h h4) p1 p2 p3
      refine ⟨_, slice_slice_ok t e h1 es h2 (some a) len c vl vh none _ _ _ hb, ?_⟩
      simp only [VR]
      refine ⟨if c = l.toNat then a else a.add (l.toNat * es), ?_, fun hne => ?_⟩
      · congr 1
        · split <;> simp
        · omega
        · omega
      · have hcl : c ≠ l.toNat := by omega
        rw [if_neg hcl]
        exact locAddr_add (ha (by omega))
    · rename_i es l h g h2 h3 h4
      simp only [OVR] at hm; subst hm
      simp only at hp ⊢
      obtain ⟨p1, p2, p3, rfl⟩ := hp
      simp only [VR] at hx
      obtain ⟨k, p, c, a, rfl, hp, rfl, hlc, hc⟩ := hx
      have hb := sliceBounds_ok (P := P) true len c vl vh l h (low l h3) (high h h4) p1 p2 (by omega)
      refine ⟨_, slice_slice_ok t e h1 g h2 (some a) len c vl vh none _ _ _ hb, ?_⟩
      simp only [VR]
      refine ⟨k, p, c - l.toNat, if c = l.toNat then a else a.add (l.toNat * g), rfl, hp, ?_, by omega, fun hne => ?_⟩
      · congr 1
        · split <;> simp
        · omega
      · have hcl : c ≠ l.toNat := by omega
        rw [if_neg hcl]
        obtain ⟨e1, e2⟩ := hc (by omega)
        constructor
        · have : locAddr φ (.own k) o = some a := by simp [locAddr, hp, e1]
          have := locAddr_add (j := l.toNat * g) this
          simp only [locAddr, hp, Option.map_some, Option.some.injEq] at this
          exact this.symm
        · rw [Nat.add_assoc, ← Nat.add_mul]
          rw [show l.toNat + (c - l.toNat) = c by omega]
          exact e2
    · rename_i es l h k m c h2 h3 h4
      simp only [OVR, VR] at hm
      obtain ⟨u, rfl, rfl⟩ := hm
      simp only at hp ⊢
      obtain ⟨⟨p1, p2, p3, p4⟩, p5⟩ := hp
      obtain ⟨kh, rfl⟩ := high' h h4 p5
      simp only [VR] at hx
      obtain ⟨a, rfl, ha⟩ := hx
      have hb := sliceBounds_max (P := P) len c vl l h m kh k (low l h3) p1 p2 p3 p4
      refine ⟨_, slice_slice_ok t e h1 es h2 (some a) len c vl _ _ _ _ _ hb, ?_⟩
      simp only [VR]
      refine ⟨if m.toNat = l.toNat then a else a.add (l.toNat * es), ?_, fun hne => ?_⟩
      · congr 1
        · split <;> simp
        · omega
        · omega
      · have hcl : m.toNat ≠ l.toNat := by omega
        rw [if_neg hcl]
        exact locAddr_add (ha (by omega))
    · rename_i es l h k m g h2 h3 h4
      simp only [OVR, VR] at hm
      obtain ⟨u, rfl, rfl⟩ := hm
      simp only at hp ⊢
      obtain ⟨⟨p1, p2, p3, p4⟩, p5⟩ := hp
      obtain ⟨kh, rfl⟩ := high' h h4 p5
      simp only [VR] at hx
      obtain ⟨k', p, c, a, rfl, hp, rfl, hlc, hc⟩ := hx
      have hb := sliceBounds_max (P := P) len c vl l h m kh k (low l h3) p1 p2 p3 (by omega)
      refine ⟨_, slice_slice_ok t e h1 es h2 (some a) len c vl _ _ _ _ _ hb, ?_⟩
      simp only [VR]
      refine ⟨if m.toNat = l.toNat then a else a.add (l.toNat * es), ?_, fun hne => ?_⟩
      · congr 1
        · split <;> simp
        · omega
        · omega
      · have hcl : m.toNat ≠ l.toNat := by omega
        rw [if_neg hcl]
        obtain ⟨e1, e2⟩ := hc (by omega)
        exact locAddr_add (by simp [locAddr, hp, e1])
    · exact hp.elim
  · exact hp.elim

end Go.AM
