/-
  The arguments of the statements, opened: numbers as plain data, grids, decimals, pairs; the listed table.
  Conditions: none.
-/
import Derived.Test.YthiiakghjoeikaaGreatDoorLwA
import Derived.Test.YthiiakghjoeikaaGreatDoorRows
import Derived.WalkKit
import Derived.ProofKit
import Derived.OpenShut
import Derived.ShutString
import Derived.ChangeOld
import Derived.Below
import Derived.Deep.Strs
import Derived.Lib.LaidTab
import Derived.MakeChecks
set_option linter.unusedSimpArgs false
set_option linter.unnecessarySimpa false
namespace Go.Proofs.YthiiakghjoeikaaGreatDoor
open Go.AM
open Go.ChangeShapes Go.WideShapes Go.ChangeAt Go.RowKit
set_option linter.unusedVariables false
set_option maxRecDepth 100000

section
variable {H : Type} {enc : TypeId × Value → H} {W : World} {base : Nat} {v : Value} {x : DataW H × List MemPlace}

theorem u8_of {n : Int} (h : (Lit.int .u8 n).wf = true) : ∃ b : UInt8, (b.toNat : Int) = n := by
  have := wf_u8 h
  exact ⟨UInt8.ofNat n.toNat, by rw [UInt8.toNat_ofNat']; omega⟩

theorem arg_u8 {t : TypeId} (ht : Tryz.prog.underlying t = some (.int .u8)) (h : ∃ fuel, DataW.trod enc Tryz.prog W 0 (fun _ => true) true fuel t v.cells.toList = some x) (hv : Value.okWide Tryz.prog W .any base t v) :
    ∃ b : UInt8, VR (fun _ => none) (.int .u8 b.toNat) v := by
  obtain ⟨fuel, hf⟩ := h
  obtain ⟨n, hcs, _, hw⟩ := DataW.trod_int ht hf
  obtain ⟨b, hb⟩ := u8_of hw
  obtain ⟨m, rfl⟩ := okWide_int ht hv
  refine ⟨b, ?_⟩
  simp [Value.cells] at hcs
  simp only [VR, hb, hcs]

theorem arg_N (h : ∃ fuel, DataW.trod enc Tryz.prog W 0 (fun _ => true) true fuel 24 v.cells.toList = some x) (hv : Value.okWide Tryz.prog W .any base 24 v) :
    ∃ (neg : Bool) (y : AVal) (bs : List UInt8) (sc : UInt8), VR (fun _ => none) (.agg [.bool neg, y, .int .u8 sc.toNat]) v ∧ IsB W (fun _ => none) y bs ∧ bs.length ≤ 9223372036854775807 := by
  obtain ⟨cs, rfl, hsz⟩ := okWide_struct Tryz.underlying24 hv
  obtain ⟨fuel, hf⟩ := h
  obtain ⟨y0, y1, y2, n, _, hl, h0, h1, h2⟩ := Go.Deep.trod_struct3 Tryz.underlying24 hf
  rw [show Tryz.prog.cellsOf 24 = 3 by kernel_rfl] at hsz hl
  obtain ⟨l⟩ := cs
  match l, hsz with
  | [c0, c1, c2], _ =>
    simp only [show Tryz.prog.cellsOf 4 = 1 by kernel_rfl, show Tryz.prog.cellsOf 22 = 1 by kernel_rfl, show Tryz.prog.cellsOf 5 = 1 by kernel_rfl, Value.cells, List.drop_zero, List.drop_succ_cons, List.take_succ_cons, List.take_zero] at h0 h1 h2
    obtain ⟨b, e0, _⟩ := DataW.trod_bool Tryz.underlying4 h0
    obtain ⟨m, e2, _, hw⟩ := DataW.trod_int Tryz.underlying5 h2
    obtain ⟨sc, hs⟩ := u8_of hw
    simp only [List.cons.injEq, and_true] at e0 e2
    subst e0 e2
    have fin : ∀ (a : Option Addr) (len cap : Nat) (zs : List Int), c1 = .slice a len cap → IsRow .u8 W a len cap zs → ∃ (neg : Bool) (y : AVal) (bs : List UInt8) (sc : UInt8), VR (fun _ => none) (.agg [.bool neg, y, .int .u8 sc.toNat]) (.agg #[.bool b, c1, .int .u8 m]) ∧ IsB W (fun _ => none) y bs ∧ bs.length ≤ 9223372036854775807 := by
      rintro a len cap zs rfl hr
      obtain ⟨y, bs, hy, hb, hlen, hmx, _⟩ := isB_of_row hr
      refine ⟨b, y, bs, sc, ?_, hb, by omega⟩
      simp only [VR]
      refine ⟨_, rfl, ?_⟩
      simp only [VRs]
      exact ⟨_, _, rfl, by simp only [VR], _, _, rfl, hy, _, _, rfl, by simp only [VR, hs], rfl⟩
    rcases open_ints Tryz.underlying22 Tryz.underlying5 (by kernel_rfl) h1 with ⟨hcs, _⟩ | ⟨x', l', c', zs, hcs, _, hl', hm', hz, _, hcell, hwz⟩
    · simp only [List.cons.injEq, and_true] at hcs
      exact fin _ _ _ [] hcs (.inl ⟨rfl, rfl, rfl, rfl⟩)
    · simp only [List.cons.injEq, and_true] at hcs
      exact fin _ _ _ zs hcs (.inr ⟨_, rfl, hl', hm', by simpa using hz, hcell, hwz⟩)
end
/-- The listed table of powers of ten. -/
theorem tab_of {W : World} {rest : List (String × DataW Unit)} (h : laidMet Tryz.prog (("internal/strconv.uint64pow10", Rows.laid_internal_strconv_uint64pow10) :: rest) W) : Tab10 W :=
  Lib.tabIs_of_head (g := 0) (by kernel_rfl) (by kernel_rfl) (show Tryz.prog.underlying 134 = _ from Tryz.underlying134) Tryz.underlying111 (by kernel_rfl) (by kernel_rfl) h
end Go.Proofs.YthiiakghjoeikaaGreatDoor
