/-
  An assertion layer over the model's wp, part E: the operations that make or write memory.
  Conditions: none. Nothing here is about a particular program.
-/
import Derived.Test.YthiiakghjoeikaaGreatDoorAmD
import Derived.Laws.MakeOwn
set_option linter.unusedSimpArgs false
set_option linter.unnecessarySimpa false
set_option linter.unusedVariables false
namespace Go.AM
open Go.RowKit (Below)

/-! ### New blocks -/
def PMap.upd (φ : PMap) (k : Nat) (p : Place) : PMap := fun j => if j = k then some p else φ j

theorem PMap.upd_same (φ : PMap) (k : Nat) (p : Place) : φ.upd k p k = some p := by simp [PMap.upd]

theorem PMap.le_upd {φ : PMap} {k : Nat} (hφ : φ k = none) (p : Place) : φ.le (φ.upd k p) := fun j q hj => by
  by_cases e : j = k
  · subst e; rw [hφ] at hj; cases hj
  · simp [PMap.upd, e, hj]

theorem HRel.drew {w₀ w : World} {φ : PMap} {h : AHeap} (hr : HRel w₀ φ h w) : HRel w₀ φ h w.drew :=
  hr.later ⟨rfl, rfl, rfl, Nat.le_refl _, fun _ _ => rfl⟩

theorem Below.allocd (w : World) (o : Obj) : Below w.heap.size w (w.alloc o) := (Below.refl _ w).alloc (Nat.le_refl _) o

/-- A new row, of which the first cells are told. -/
theorem HRel.alloc {w₀ w : World} {φ : PMap} {h : AHeap} (hr : HRel w₀ φ h w) (k : Nat) (hk : h k = none) (hφ : φ k = none) (xs : List AVal) (cs : Array Value) (e : TypeId) (lo hi : Nat)
    (hx : VRs φ xs (cs.toList.take xs.length)) (hfr : ∀ i, lo ≤ i → i < hi → cs.size ≤ i) (ht : ∀ t, tyOf k = some t → t = e) (hlh : lo ≤ hi := by omega) :
    φ.le (φ.upd k ⟨w.heap.size, 0, cs.size⟩) ∧ HRel w₀ (φ.upd k ⟨w.heap.size, 0, cs.size⟩) (h.set k ⟨xs, 0⟩) (w.alloc (.cells cs e (lo, hi))) := by
  have hl : xs.length ≤ cs.size := by
    have := VRs_length hx
    simp at this
    omega
  have hsz : w.heap.size < (w.alloc (.cells cs e (lo, hi))).heap.size := by show _ < (w.heap.push _).size; simp
  have hget : (w.alloc (.cells cs e (lo, hi))).heap[w.heap.size]? = some (.cells cs e (lo, hi)) := by show (w.heap.push _)[w.heap.size]? = _; simp
  refine hr.push k hk hφ ⟨xs, 0⟩ ⟨w.heap.size, 0, cs.size⟩ (Below.allocd w _) (Nat.le_refl _) hsz ?_ (fun t h1 => ⟨rfl, cs, (lo, hi), by rw [ht t h1]; exact hget⟩)
  exact ⟨cs, e, lo, hi, hget, by simp, hl, by simp, by simp only [List.drop_zero]; exact VRs_mono (PMap.le_upd hφ _) _ _ hx, hlh, fun i h1 h2 => .inr (hfr i h1 h2)⟩

/-- Nothing is asked of a row's frozen range beyond its end. -/
theorem no_frz {n : Nat} : ∀ i : Nat, 0 ≤ i → i < 0 → n ≤ i := by omega

/-! ### Writing cells -/
def World.putRow (w : World) (g : Nat) (cs : Array Value) (e : TypeId) (fr : Nat × Nat) : World := { w with heap := w.heap.setIfInBounds g (.cells cs e fr) }

theorem setCell_putRow (w : World) (g o : Nat) (cs : Array Value) (e : TypeId) (fr : Nat × Nat) (hg : w.heap[g]? = some (.cells cs e fr)) (v : Value) :
    w.setCell ⟨g, o, none⟩ v = AM.World.putRow w g (cs.setIfInBounds o v) e fr := by
  unfold World.setCell AM.World.putRow
  congr 1
  apply Array.ext_getElem?
  intro i
  rw [Array.getElem?_modify, Array.getElem?_setIfInBounds]
  by_cases hi : g = i
  · subst hi
    have hlt : g < w.heap.size := by
      rcases Nat.lt_or_ge g w.heap.size with h | h
      · exact h
      · rw [Array.getElem?_eq_none h] at hg; cases hg
    rw [hg]
    simp [hlt]
  · simp [hi]

theorem putRow_get (w : World) (g : Nat) (cs : Array Value) (e : TypeId) (fr : Nat × Nat) (hg : g < w.heap.size) : (AM.World.putRow w g cs e fr).heap[g]? = some (.cells cs e fr) := by
  simp [AM.World.putRow, hg]

theorem putRow_other (w : World) (g : Nat) (cs : Array Value) (e : TypeId) (fr : Nat × Nat) (i : Nat) (hi : i ≠ g) : (AM.World.putRow w g cs e fr).heap[i]? = w.heap[i]? := by
  simp only [AM.World.putRow]
  rw [Array.getElem?_setIfInBounds_ne (Ne.symm hi)]

theorem putRow_putRow (w : World) (g : Nat) (cs cs' : Array Value) (e : TypeId) (fr : Nat × Nat) : AM.World.putRow (AM.World.putRow w g cs e fr) g cs' e fr = AM.World.putRow w g cs' e fr := by
  simp [AM.World.putRow]

theorem putRow_self (w : World) (g : Nat) (cs : Array Value) (e : TypeId) (fr : Nat × Nat) (hg : w.heap[g]? = some (.cells cs e fr)) : AM.World.putRow w g cs e fr = w := by
  unfold AM.World.putRow
  have : w.heap.setIfInBounds g (.cells cs e fr) = w.heap := by
    apply Array.ext_getElem?
    intro i
    rw [Array.getElem?_setIfInBounds]
    by_cases hi : g = i
    · subst hi
      have hlt : g < w.heap.size := by
        rcases Nat.lt_or_ge g w.heap.size with h | h
        · exact h
        · rw [Array.getElem?_eq_none h] at hg; cases hg
      simp [hlt, ← hg]
    · simp [hi]
  rw [this]

theorem run_storeCells' {P : Program} (g o : Nat) (e : TypeId) (lo hi : Nat) : ∀ (vs : List Value) (i : Nat) (cs : Array Value) (w : World), w.heap[g]? = some (.cells cs e (lo, hi)) →
    o + i + vs.length ≤ cs.size → (∀ v ∈ vs, v.oneCell' = true) → (∀ j, o + i ≤ j → j < o + i + vs.length → ¬ (lo ≤ j ∧ j < hi)) →
    (storeCells ⟨g, o, none⟩ vs i).run P w = .ok () (AM.World.putRow w g (setAt cs.toList (o + i) vs).toArray e (lo, hi))
  | [], i, cs, w, hg, _, _, _ => by
    simp only [storeCells, setAt, Sem.run_pure]
    rw [putRow_self]
    simpa using hg
  | v :: vs, i, cs, w, hg, hfit, h1, hfr => by
    have hlt : o + i < cs.size := by simp at hfit; omega
    have hadd : (⟨g, o, none⟩ : Addr).add i = ⟨g, o + i, none⟩ := by
      unfold Addr.add
      by_cases hi : i = 0 <;> simp [hi]
    have hc : w.cell? ⟨g, o + i, none⟩ = some cs[o + i] := by simp [World.cell?, hg, hlt]
    have hz : w.frozen? ⟨g, o + i, none⟩ = false := by
      have := hfr (o + i) (by omega) (by simp)
      simp only [World.frozen?, hg]
      simp only [Bool.and_eq_false_iff, decide_eq_false_iff_not]
      omega
    have hgl : g < w.heap.size := by
      rcases Nat.lt_or_ge g w.heap.size with h | h
      · exact h
      · rw [Array.getElem?_eq_none h] at hg; cases hg
    simp only [storeCells, Sem.run_bind, hadd, run_store P w ⟨g, o + i, none⟩ v .plain (h1 v (by simp)), hc, hz, Bool.false_eq_true, if_false, Result.andThen_ok]
    rw [setCell_putRow w g (o + i) cs e (lo, hi) hg v]
    rw [run_storeCells' g o e lo hi vs (i + 1) (cs.setIfInBounds (o + i) v) _ (putRow_get w g _ e _ hgl) (by simp at hfit ⊢; omega) (fun u hu => h1 u (by simp [hu])) (fun j hj hj' => hfr j (by omega) (by simp; omega))]
    rw [putRow_putRow]
    simp [setAt, Nat.add_assoc]

/-- A value that takes one cell. -/
def AVal.scal : AVal → Bool
  | .dead => false
  | .agg _ => false
  | .tuple _ => false
  | _ => true

theorem VR_oneCell {φ : PMap} {x : AVal} {v : Value} (h : VR φ x v) (hs : x.scal = true) : v.oneCell' = true := by
  cases x <;> simp only [VR] at h <;> first
    | (simp [AVal.scal] at hs; done)
    | (subst h; rfl)
    | (obtain ⟨_, _, rfl⟩ := h; rfl)
    | (obtain ⟨_, rfl, _⟩ := h; rfl)
    | skip
  rename_i l o len c
  cases c <;> simp only [] at h
  · obtain ⟨_, rfl, _⟩ := h; rfl
  · obtain ⟨_, _, _, _, _, _, rfl, _⟩ := h; rfl

def allScal : List AVal → Bool
  | [] => true
  | x :: xs => x.scal && allScal xs

theorem VRs_oneCell {φ : PMap} : ∀ {xs : List AVal} {vs : List Value}, VRs φ xs vs → allScal xs = true → ∀ v ∈ vs, v.oneCell' = true
  | [], vs, h, _, v, hv => by simp only [VRs] at h; subst h; cases hv
  | x :: xs, vs, h, hs, v, hv => by
    simp only [VRs] at h
    obtain ⟨u, vs', rfl, h1, h2⟩ := h
    simp only [allScal, Bool.and_eq_true] at hs
    rcases List.mem_cons.1 hv with e | e
    · subst e; exact VR_oneCell h1 hs.1
    · exact VRs_oneCell h2 hs.2 v e

theorem take_drop_setAt (cs : List Value) (po n o : Nat) (us : List Value) (h : o + us.length ≤ n) : ((setAt cs (po + o) us).drop po).take n = setAt ((cs.drop po).take n) o us := by
  induction us generalizing cs o with
  | nil => rfl
  | cons u us ih =>
    simp only [setAt]
    simp only [List.length_cons] at h
    rw [show po + o + 1 = po + (o + 1) by omega, ih _ (o + 1) (by omega)]
    congr 1
    apply List.ext_getElem?
    intro i
    simp only [List.getElem?_take, List.getElem?_drop, List.getElem?_set]
    by_cases h1 : i < n
    · simp only [h1, if_true]
      by_cases h2 : o = i
      · subst h2
        simp only [if_true, List.length_take, List.length_drop]
        by_cases h3 : po + o < cs.length
        · rw [if_pos h3, if_pos (by omega)]
        · rw [if_neg h3, if_neg (by omega)]
      · rw [if_neg (by omega), if_neg h2]
    · simp only [h1, if_false]
      by_cases h2 : o = i
      · omega
      · rw [if_neg h2]

/-- Cells of a block of the call's own are written. -/
theorem own_write {P : Program} {w₀ w : World} {φ : PMap} {h : AHeap} (hr : HRel w₀ φ h w) {k : Nat} {b : Blk} {p : Place} (hk : h k = some b) (hp : φ k = some p) {o : Nat} {xs : List AVal} {vs : List Value}
    (hx : VRs φ xs vs) (hs : allScal xs = true) (hfit : o + xs.length ≤ b.cells.length) (hfrz : b.frz ≤ o) :
    ∃ w', (storeCells ⟨p.blk, p.off + o, none⟩ vs).run P w = .ok () w' ∧ HRel w₀ φ (h.set k ⟨setAt b.cells o xs, b.frz⟩) w' := by
  obtain ⟨q, hq, hq1, ok⟩ := hr.own k b hk
  have hpq : q = p := by rw [hp] at hq; exact (Option.some.inj hq).symm
  subst hpq
  obtain ⟨cs, e, lo, hi, h1, h2, h3, h4, h5, h6⟩ := ok.row
  have hl := VRs_length hx
  have hgl : q.blk < w.heap.size := hr.lt k q hp
  refine ⟨_, run_storeCells' q.blk (q.off + o) e lo hi vs 0 cs w h1 (by omega) (VRs_oneCell hx hs) (fun j hj hj' hc => ?_), ?_⟩
  · have := h6.2 j hc.1 hc.2
    omega
  · refine hr.write k b _ q hk hp (by simp [AM.World.putRow]) rfl rfl rfl (fun i hi => putRow_other w _ _ _ _ i hi) (fun cs' e' fr' h' => by rw [h1] at h'; cases h'; exact ⟨_, _, putRow_get w _ _ _ _ hgl⟩) ?_
    refine ⟨(setAt cs.toList (q.off + o + 0) vs).toArray, e, lo, hi, putRow_get w _ _ _ _ hgl, ?_, ?_, ?_, ?_, ?_⟩
    · simp [setAt_length, h2]
    · simp [setAt_length, h3]
    · simp [setAt_length, h4]
    · simp only [setAt_length, Nat.add_zero]
      rw [take_drop_setAt _ _ _ _ _ (by omega)]
      exact VRs_setAt o hx h5
    · refine ⟨h6.1, fun i hi1 hi2 => ?_⟩
      have := h6.2 i hi1 hi2
      simpa [setAt_length] using this

/-! ### Appending -/
/-- How many elements a source has, and its first cells. -/
def srcLen : AVal → Option Nat
  | .nilSlice => some 0
  | .slice _ _ n _ => some n
  | .str s => some s.length
  | _ => none
def srcPre (w₀ : World) (h : AHeap) (es n : Nat) : AVal → Prop
  | .nilSlice => True
  | .slice l o _ _ => allLive (cellsAt w₀ h l o (n * es)) = true
  | .str _ => es = 1
  | _ => False
def srcCells (w₀ : World) (h : AHeap) (es n : Nat) : AVal → List AVal
  | .slice l o _ _ => cellsAt w₀ h l o (n * es)
  | .str s => byteCells (s.take n)
  | _ => []

theorem src_len {P : Program} {φ : PMap} {x : AVal} {v : Value} {n : Nat} (hn : srcLen x = some n) (hx : VR φ x v) (w : World) : (Builtin.lenOf v).run P w = .ok n w := by
  unfold srcLen at hn
  split at hn
  · cases hn; simp only [VR] at hx; subst hx; simp [Builtin.lenOf]
  · cases hn
    obtain ⟨a, cap, rfl, _⟩ := VR_slice_addr hx
    simp [Builtin.lenOf]
  · cases hn; simp only [VR] at hx; subst hx; simp [Builtin.lenOf, bsize]
  · cases hn

theorem cellsAt_length (w₀ : World) (h : AHeap) (l : Loc) : ∀ (n o : Nat), (cellsAt w₀ h l o n).length = n
  | 0, _ => rfl
  | n + 1, o => by simp [cellsAt, cellsAt_length w₀ h l n]

theorem VRs_bytes (φ : PMap) : ∀ s : List UInt8, VRs φ (byteCells s) (s.map fun b => Value.int .u8 b.toNat)
  | [] => by simp [byteCells, VRs]
  | b :: s => by
    have := VRs_bytes φ s
    simp only [byteCells, List.map_cons, VRs] at this ⊢
    exact ⟨_, _, rfl, by simp [VR], this⟩

theorem src_cells {P : Program} {w₀ w : World} {φ : PMap} {h : AHeap} {es n m : Nat} {x : AVal} {v : Value} (hn : srcLen x = some m) (hm : n ≤ m) (hp : srcPre w₀ h es n x) (hr : HRel w₀ φ h w) (hx : VR φ x v) (hes : es ≠ 0) :
    ∃ vs : List Value, (∀ w' : World, (∀ a u, w.cell? a = some u → w'.cell? a = some u) → (Builtin.firstCells es n v).run P w' = .ok vs.toArray w') ∧ VRs φ (srcCells w₀ h es n x) vs ∧ vs.length = n * es ∧ (srcCells w₀ h es n x).length = n * es := by
  unfold srcPre at hp
  unfold srcLen at hn
  unfold srcCells
  split at hp
  · cases hn
    simp only [VR] at hx; subst hx
    obtain rfl : n = 0 := by omega
    exact ⟨[], fun w' _ => by simp [Builtin.firstCells], by simp [VRs], by simp, by simp⟩
  · rename_i l o k c
    cases hn
    obtain ⟨a, cap, rfl, ha⟩ := VR_slice_addr hx
    have ha' : n * es ≠ 0 → locAddr φ l o = some a := fun hne => ha (by
      intro e
      apply hne
      have : n = 0 := by omega
      rw [this, Nat.zero_mul])
    obtain ⟨vs, e1, e2, _, e4⟩ := loadCells_ok (P := P) hr ha' hp
    refine ⟨vs, fun w' hw => ?_, e2, e1, cellsAt_length _ _ _ _ _⟩
    simp only [Builtin.firstCells]
    rw [← e1]
    exact run_loadCells_list w' a vs fun j u hj => hw _ _ (e4 j u hj)
  · rename_i s
    cases hn
    simp only [VR] at hx; subst hx
    subst hp
    refine ⟨(s.take n).map fun b => Value.int .u8 b.toNat, fun w' _ => ?_, VRs_bytes φ _, by simp; omega, by simp [byteCells]; omega⟩
    have hx : (⟨⟨s⟩⟩ : ByteArray).extract 0 n = ⟨⟨s.take n⟩⟩ := by
      apply ByteArray.ext
      apply Array.ext'
      rw [Lib.extract_data]
      simp
    simp [Builtin.firstCells, hx]
  · exact hp.elim

section
variable {P : Program}

theorem run_append_in (w w' : World) (ts : Array TypeId) (t u ty e : TypeId) (h0 : ts[0]? = some t) (h1 : ts[1]? = some u) (i : TypeInfo) (d : TypeDesc) (ht : P.underlying t = some (.slice e)) (hu : P.underlying u = some d) (hd : ∀ k, d ≠ .int k) (hi : P.info? e = some i)
    (a : Addr) (len c n : Nat) (v : Value) (news : List Value) (hlen : (Builtin.lenOf v).run P w = .ok n w) (hf : (Builtin.firstCells i.size n v).run P w = .ok news.toArray w)
    (hroom : len + n ≤ c) (hst : (storeCells (a.add (len * i.size)) news).run P w = .ok () w') :
    (Builtin.append_ ts ty #[.slice (some a) len c, v]).run P w = .ok (.slice (some a) (len + n) c) w' := by
  have hd' : (∀ k : IntKind, ¬ d = .int k) := hd
  simp only [Builtin.append_]
  simp [h0, h1, run_underlying' ht, run_underlying' hu, sizeOf, typeInfo, hi, hlen, hf, hst, hroom]

theorem run_append_out (w : World) (ts : Array TypeId) (t u ty e : TypeId) (h0 : ts[0]? = some t) (h1 : ts[1]? = some u) (i : TypeInfo) (z : Value) (d : TypeDesc) (ht : P.underlying t = some (.slice e)) (hu : P.underlying u = some d) (hd : ∀ k, d ≠ .int k) (hi : P.info? e = some i)
    (hz : i.zero = some z) (s v : Value) (a : Option Addr) (len c n : Nat) (olds news : List Value) (hs : s = .slice a len c) (hlen : (Builtin.lenOf v).run P w = .ok n w)
    (ho : (Builtin.firstCells i.size len s).run P w.drew = .ok olds.toArray w.drew) (hf : (Builtin.firstCells i.size n v).run P w.drew = .ok news.toArray w.drew)
    (hg : c < len + n) (hb : (len + n) * i.bytes ≤ 140737488355328) (h62 : len + n < 4611686018427387904) :
    (Builtin.append_ ts ty #[s, v]).run P w = .ok (.slice (some ⟨w.heap.size, 0, none⟩) (len + n) (grownCap w (len + n) c e))
      (w.drew.alloc (.cells ((olds ++ news).toArray ++ Builtin.zeroCells z.cells (grownCap w (len + n) c e - (len + n))) e)) := by
  subst hs
  have hn : ¬ (len + n ≤ c) := by omega
  have h48' : ¬ (Builtin.nextslicecap (len + n) c * i.bytes > 2 ^ 48) := by
    have h1 := nextslicecap_le hg
    have h2 := Nat.mul_le_mul_right i.bytes h1
    have h3 : 2 * (len + n) * i.bytes = 2 * ((len + n) * i.bytes) := by rw [Nat.mul_assoc]
    omega
  have h63a : ¬ (9223372036854775807 < ((len : Int) + (n : Int))) := by omega
  have h48a : ¬ (281474976710656 < Builtin.nextslicecap (len + n) c * i.bytes) := by omega
  have hd' : (∀ k : IntKind, ¬ d = .int k) := hd
  simp only [Builtin.append_]
  simp [h0, h1, run_underlying' ht, run_underlying' hu, sizeOf, typeInfo, zeroValue, hi, hz, hlen, hn, h63a, h48a, Question.forced, ho, hf, newRow, grownCap]
  congr 2
  apply Array.ext'
  simp [List.append_assoc]
end

end Go.AM
