/-
  Texts of this proof, joined: TnH, TnI, LwR, LwS, LwV.
  Conditions: none.
-/
import Derived.Test.YtmadddihphkmoaaGreatDoorBe
import Derived.Test.YtmadddihphkmoaaGreatDoorProg
import Derived.Test.YtmadddihphkmoaaGreatDoorBb
import Derived.WalkKit
import Derived.ProofKit
import Derived.OpenShut
import Derived.ShutString
import Derived.ChangeOld
import Derived.Below
import Derived.Deep.Strs
import Derived.Handed
import Derived.HandedShaped
import Derived.Shelf.Vars
import Derived.Test.YtmadddihphkmoaaGreatDoorBc
import Derived.Test.YtmadddihphkmoaaGreatDoorRows
import Derived.Lib.LaidTab
import Derived.MakeChecks
set_option linter.unusedSimpArgs false
set_option linter.unnecessarySimpa false
set_option linter.unusedVariables false
/-
  Contracts: the tokens of plain data (Of).
  Conditions: none.
-/
namespace Go.Proofs.YtmadddihphkmoaaGreatDoor
open Go.AM
open Go.Proofs
open Go.Col
open Go.Tok
open Go.RowKit (Below)
set_option maxRecDepth 100000

def wordsS : List Str := [[77, 79, 86, 69], [65], [65, 45, 49], [84, 79], [88, 50], [49, 65], [80, 82, 79, 71, 82, 65, 77, 45, 73, 68], [73, 83], [66], [65, 68, 68], [67, 45, 67], [70, 73, 76, 76, 69, 82]]
def numbersS : List Str := [[48], [48, 48, 55], [49, 50], [45, 53], [43, 49, 46, 53, 48], [46, 53], [51, 46, 50, 53], [57, 57, 57, 57, 57, 57, 57, 57, 57, 57, 57, 57, 57, 57, 57, 57, 57, 57]]
def quotesS : List Str := [[65], [84, 69, 88, 84], [65, 32, 32, 66], [83, 65, 89, 32, 34, 72, 73, 34], [34], [32], [105, 116, 39, 115, 46], [61, 61]]
def signsS : List Str := [[40], [41], [58], [43], [45], [42], [47], [42, 42], [61], [60], [62], [60, 61], [62, 61], [60, 62]]
def picturesS : List Str := [[57, 40, 51, 41], [83, 57, 40, 53, 41, 86, 57, 57], [88], [90, 44, 90, 90, 57, 46, 57, 57, 45], [36, 42, 42, 57], [65, 40, 50, 41, 66, 88, 40, 51, 41], [73, 83]]
def tk (k : UInt8) (s : Str) : TokC := ⟨k, s, 0, 0, false⟩
/-- The tokens of one piece. -/
def pieceE (p : UInt8 × Nat) : List TokC :=
  if p.1.toNat % 8 ≤ 1 then [tk 1 (wordsS.getD (p.2 % 12) [])]
  else if p.1.toNat % 8 = 2 then [tk 2 (numbersS.getD (p.2 % 8) [])]
  else if p.1.toNat % 8 = 3 then [tk 3 (quotesS.getD (p.2 % 8) [])]
  else if p.1.toNat % 8 = 4 then [tk 5 (signsS.getD (p.2 % 14) [])]
  else if p.1.toNat % 8 = 5 then [tk 6 [46]]
  else if p.1.toNat % 8 = 6 then [tk 7 [61, 61]]
  else tk 1 PIC :: ((if p.2 % 7 = 6 ∨ p.2 % 3 = 0 then [tk 1 IS] else []) ++ [tk 4 (picturesS.getD (p.2 % 7) [])])
def ofE (ps : List (UInt8 × Nat)) : List TokC := (ps.take 200).flatMap pieceE
theorem piece_len (p : UInt8 × Nat) : (pieceE p).length ≤ 3 := by
  unfold pieceE
  repeat' split
  all_goals simp
theorem of_len : ∀ ps : List (UInt8 × Nat), (ps.flatMap pieceE).length ≤ 3 * ps.length
  | [] => Nat.zero_le _
  | p :: ps => by
    have h1 := piece_len p
    have h2 := of_len ps
    rw [List.flatMap_cons, List.length_append, List.length_cons]
    omega
def pieceC (p : UInt8 × Nat) : List AVal := [.int .u8 p.1.toNat, .int .u16 p.2]
theorem take_stepT {α : Type} (d : α) {l : List α} {i : Nat} (hi : i < l.length) : l.take (i + 1) = l.take i ++ [l.getD i d] := by
  rw [List.take_add_one, List.getElem?_eq_getElem hi]
  simp [List.getD, hi]
theorem of_step {ps : List (UInt8 × Nat)} {i : Nat} (hi : i < ps.length) : (ps.take (i + 1)).flatMap pieceE = (ps.take i).flatMap pieceE ++ pieceE (ps.getD i (0, 0)) := by
  rw [take_stepT (0, 0) hi, List.flatMap_append]
  simp
theorem str_row (l : List Str) {j : Nat} (hj : j < l.length) : (l.map AVal.str).getD j .dead = .str (l.getD j []) := by simp [List.getD, hj]
structure OfOk (B : AHeap) (ps : List (UInt8 × Nat)) (g : Nat × Option Buf) : Prop where
  i : g.1 ≤ ps.length
  i2 : g.1 ≤ 200
  ok : bufOk B 5 g.2
  eq : bufC g.2 = (((ps.take g.1).flatMap pieceE).map Zc).flatten
set_option maxHeartbeats 8000000 in
theorem c_Of (w₀ : World) (h : AHeap) (v : AVal) (ps : List (UInt8 × Nat)) (hv : IsL w₀ h 2 v (ps.map pieceC)) (hl : ps.length ≤ 9223372036854775807) (hn : ∀ p ∈ ps, p.2 ≤ 65535) :
    ACall Tryz.prog w₀ 8 [v] h (fun r h' => IsL w₀ h' 5 r ((ofE ps).map Zc) ∧ Sub h h') := by
  have hlv := hv.live
  have hlen := hv.len Tryz.underlying23
  rw [List.length_map] at hlen
  refine qY (n := 135) (rs := [.tmp 2]) Tryz.func8 rfl rfl rfl rfl (Nat.le_of_ble_eq_true rfl) ?_
  simp only [Qf]
  refine awp_rseq [0] (by rfl) fun K hK => ?_
  simp +decide only [qa, ev, qK, qH, putD, Slots.put, Slots.keep, if_true, if_false, true_and, ↓qc, qb]
  apply hK; clear hK K
  refine awp_rseq [0, 3] (by rfl) fun K hK => ?_
  refine Qk (cs := wordsS.map AVal.str) (by kernel_rfl) fun k1q0 hk1q0 => ?_
  try have hf_1q0 : h k1q0 = none := by first | assumption | (simp only [AHeap.set_none] at hk1q0; simp only [hk1q0])
  simp +decide only [qa, ev, putD, Slots.put, Slots.get, Slots.keep, if_true, if_false, true_and, ↓qc, qb]
  apply hK; clear hK K
  refine awp_rseq [0, 3, 4] (by rfl) fun K hK => ?_
  refine Qk (cs := numbersS.map AVal.str) (by kernel_rfl) fun k2q0 hk2q0 => ?_
  have ne_2q0_1q0 : k2q0 ≠ k1q0 := by simp only [AHeap.set_none] at hk2q0; simp only [hk2q0, ne_eq, not_false_eq_true]
  try have hf_2q0 : h k2q0 = none := by first | assumption | (simp only [AHeap.set_none] at hk2q0; simp only [hk2q0])
  simp +decide only [qa, ev, putD, Slots.put, Slots.get, Slots.keep, if_true, if_false, true_and, ↓qc, qb]
  apply hK; clear hK K
  refine awp_rseq [0, 3, 4, 5] (by rfl) fun K hK => ?_
  refine Qk (cs := quotesS.map AVal.str) (by kernel_rfl) fun k3q0 hk3q0 => ?_
  have ne_3q0_1q0 : k3q0 ≠ k1q0 := by simp only [AHeap.set_none] at hk3q0; simp only [hk3q0, ne_eq, not_false_eq_true]
  have ne_3q0_2q0 : k3q0 ≠ k2q0 := by simp only [AHeap.set_none] at hk3q0; simp only [hk3q0, ne_eq, not_false_eq_true]
  try have hf_3q0 : h k3q0 = none := by first | assumption | (simp only [AHeap.set_none] at hk3q0; simp only [hk3q0])
  simp +decide only [qa, ev, putD, Slots.put, Slots.get, Slots.keep, if_true, if_false, true_and, ↓qc, qb]
  apply hK; clear hK K
  refine awp_rseq [0, 3, 4, 5, 6] (by rfl) fun K hK => ?_
  refine Qk (cs := signsS.map AVal.str) (by kernel_rfl) fun k4q0 hk4q0 => ?_
  have ne_4q0_1q0 : k4q0 ≠ k1q0 := by simp only [AHeap.set_none] at hk4q0; simp only [hk4q0, ne_eq, not_false_eq_true]
  have ne_4q0_2q0 : k4q0 ≠ k2q0 := by simp only [AHeap.set_none] at hk4q0; simp only [hk4q0, ne_eq, not_false_eq_true]
  have ne_4q0_3q0 : k4q0 ≠ k3q0 := by simp only [AHeap.set_none] at hk4q0; simp only [hk4q0, ne_eq, not_false_eq_true]
  try have hf_4q0 : h k4q0 = none := by first | assumption | (simp only [AHeap.set_none] at hk4q0; simp only [hk4q0])
  simp +decide only [qa, ev, putD, Slots.put, Slots.get, Slots.keep, if_true, if_false, true_and, ↓qc, qb]
  apply hK; clear hK K
  refine awp_rseq [0, 3, 4, 5, 6, 7] (by rfl) fun K hK => ?_
  refine Qk (cs := picturesS.map AVal.str) (by kernel_rfl) fun k5q0 hk5q0 => ?_
  have ne_5q0_1q0 : k5q0 ≠ k1q0 := by simp only [AHeap.set_none] at hk5q0; simp only [hk5q0, ne_eq, not_false_eq_true]
  have ne_5q0_2q0 : k5q0 ≠ k2q0 := by simp only [AHeap.set_none] at hk5q0; simp only [hk5q0, ne_eq, not_false_eq_true]
  have ne_5q0_3q0 : k5q0 ≠ k3q0 := by simp only [AHeap.set_none] at hk5q0; simp only [hk5q0, ne_eq, not_false_eq_true]
  have ne_5q0_4q0 : k5q0 ≠ k4q0 := by simp only [AHeap.set_none] at hk5q0; simp only [hk5q0, ne_eq, not_false_eq_true]
  try have hf_5q0 : h k5q0 = none := by first | assumption | (simp only [AHeap.set_none] at hk5q0; simp only [hk5q0])
  simp +decide only [qa, ev, putD, Slots.put, Slots.get, Slots.keep, if_true, if_false, true_and, ↓qc, qb]
  apply hK; clear hK K
  refine awp_rseq [0, 3, 4, 5, 6, 7, 8] (by rfl) fun K hK => ?_
  simp +decide only [qa, ev, qK, qH, putD, Slots.put, Slots.keep, if_true, if_false, true_and, ↓qc, qb]
  apply hK; clear hK K
  refine qN ?_
  refine awp_rseq [0, 3, 4, 5, 6, 7, 8, 9] (by rfl) fun K hK => ?_
  simp +decide only [qa, ev, qK, qH, putD, Slots.put, Slots.keep, if_true, if_false, true_and, ↓qc, qb]
  obtain ⟨B, hB⟩ : ∃ B, B = ((((h.set k1q0 ⟨wordsS.map AVal.str, 0⟩).set k2q0 ⟨numbersS.map AVal.str, 0⟩).set k3q0 ⟨quotesS.map AVal.str, 0⟩).set k4q0 ⟨signsS.map AVal.str, 0⟩).set k5q0 ⟨picturesS.map AVal.str, 0⟩ := ⟨_, rfl⟩
  have hBs : Sub h B := by rw [hB]; exact (by repeat (first | exact Sub.refl _ | assumption | refine Sub.set_both ?_ _ _ | refine Sub.trans_set ?_ (by repeat (first | assumption | refine (AHeap.set_ne _ _ (by first | assumption | exact Ne.symm (by assumption))).trans ?_))))
  have hB1 : B k1q0 = some ⟨wordsS.map AVal.str, 0⟩ := by rw [hB]; exact (by repeat (first | exact AHeap.set_same _ _ _ | assumption | refine (AHeap.set_ne _ _ (by first | assumption | exact Ne.symm (by assumption))).trans ?_))
  have hB2 : B k2q0 = some ⟨numbersS.map AVal.str, 0⟩ := by rw [hB]; exact (by repeat (first | exact AHeap.set_same _ _ _ | assumption | refine (AHeap.set_ne _ _ (by first | assumption | exact Ne.symm (by assumption))).trans ?_))
  have hB3 : B k3q0 = some ⟨quotesS.map AVal.str, 0⟩ := by rw [hB]; exact (by repeat (first | exact AHeap.set_same _ _ _ | assumption | refine (AHeap.set_ne _ _ (by first | assumption | exact Ne.symm (by assumption))).trans ?_))
  have hB4 : B k4q0 = some ⟨signsS.map AVal.str, 0⟩ := by rw [hB]; exact (by repeat (first | exact AHeap.set_same _ _ _ | assumption | refine (AHeap.set_ne _ _ (by first | assumption | exact Ne.symm (by assumption))).trans ?_))
  have hB5 : B k5q0 = some ⟨picturesS.map AVal.str, 0⟩ := by rw [hB]; exact (by repeat (first | exact AHeap.set_same _ _ _ | assumption | refine (AHeap.set_ne _ _ (by first | assumption | exact Ne.symm (by assumption))).trans ?_))
  rw [← hB]
  apply hK; clear hK K
  refine Qt ?_
  refine XW [0, 3, 4, 5, 6, 7, 8, 9] (fun g : Nat × Option Buf => [(0, v), (3, .slice (.own k1q0) 0 12 (.exact 12)), (4, .slice (.own k2q0) 0 8 (.exact 8)), (5, .slice (.own k3q0) 0 8 (.exact 8)), (6, .slice (.own k4q0) 0 14 (.exact 14)), (7, .slice (.own k5q0) 0 7 (.exact 7)), (8, XM 5 g.2), (9, .int .i64 g.1)]) (fun g : Nat × Option Buf => Xv B g.2) (fun g : Nat × Option Buf => OfOk B ps g) (fun g : Nat × Option Buf => 200 - g.1) (0, none) (by rfl) (Sub.refl _) ⟨Nat.zero_le _, Nat.zero_le _, trivial, rfl⟩ ?_
  rintro ⟨i, tb⟩ ⟨g1, g4, g2, g3⟩
  simp only at g1 g2 g3 g4 ⊢
  have hbl := bufV_live 5 tb
  have hSb : Sub h (Xv B tb) := hBs.trans (Sub.buf g2)
  refine qN ?_
  refine awp_rseq [0, 3, 4, 5, 6, 7, 8, 9, 24] (by rfl) fun K hK => ?_
  simp +decide only [qa, ev, qK, qH, putD, Slots.put, Slots.get, Slots.keep, if_true, if_false, true_and, ↓qg, qd, ↓Xw, QH, ↓qw, qh, qP, cond_false, qm, pI_lss, ↓Xf, agP, Qm, qI, qG, qy, implies_true, ↓QW, qz, XR, XT, ↓QN, Qw, Qg, QZ, Xj, hlen]
  apply hK; clear hK K
  refine qM (b := _) rfl (fun hb1 => ?_) (fun hb1 => ?_)
  · try simp only [decide_eq_true_eq, Bool.and_eq_true] at hb1
    have hi : i < ps.length := by omega
    have hi2 : i < 200 := by omega
    obtain ⟨lc, o, cp, e⟩ := hv.open (fun e => by rw [List.map_eq_nil_iff] at e; subst e; simp at hi)
    rw [List.length_map] at e
    subst e
    obtain ⟨p, hp⟩ : ∃ p, p = ps.getD i (0, 0) := ⟨_, rfl⟩
    have he := (hv.mono hSb).elem (i := i) (by rw [List.length_map]; exact hi)
    rw [getD_map (0, 0) hi, ← hp] at he
    simp only [qf, pieceC, List.cons.injEq, and_true] at he
    obtain ⟨e0, e1⟩ := he
    have hpn : p.2 ≤ 65535 := hn p (by rw [hp, List.getD, List.getElem?_eq_getElem hi]; exact List.getElem_mem hi)
    obtain ⟨l, hl0⟩ : ∃ l, l = (ps.take i).flatMap pieceE := ⟨_, rfl⟩
    have hll : l.length ≤ 600 := by
      have := of_len (ps.take i)
      rw [← hl0, List.length_take] at this
      omega
    have hst := of_step hi
    rw [← hl0, ← hp] at hst
    rw [← hl0] at g3
    obtain ⟨kk, hkk⟩ : ∃ kk, kk = p.1.toNat % 8 := ⟨_, rfl⟩
    obtain ⟨n, hn0⟩ : ∃ n, n = p.2 := ⟨_, rfl⟩
    rw [← hn0] at e1 hpn
    have mk : Int.tmod (p.1.toNat : Int) 8 = (kk : Int) := by rw [Int.tmod_eq_emod_of_nonneg (by omega)]; omega
    have m12 : Int.tmod (n : Int) ((12 : Nat) : Int) = ((n % 12 : Nat) : Int) := by rw [Int.tmod_eq_emod_of_nonneg (by omega)]; omega
    have m8 : Int.tmod (n : Int) ((8 : Nat) : Int) = ((n % 8 : Nat) : Int) := by rw [Int.tmod_eq_emod_of_nonneg (by omega)]; omega
    have m14 : Int.tmod (n : Int) ((14 : Nat) : Int) = ((n % 14 : Nat) : Int) := by rw [Int.tmod_eq_emod_of_nonneg (by omega)]; omega
    have m7 : Int.tmod (n : Int) ((7 : Nat) : Int) = ((n % 7 : Nat) : Int) := by rw [Int.tmod_eq_emod_of_nonneg (by omega)]; omega
    have m3 : Int.tmod (n : Int) 3 = ((n % 3 : Nat) : Int) := by rw [Int.tmod_eq_emod_of_nonneg (by omega)]; omega
    have hpe : pieceE p = if kk ≤ 1 then [tk 1 (wordsS.getD (n % 12) [])] else if kk = 2 then [tk 2 (numbersS.getD (n % 8) [])] else if kk = 3 then [tk 3 (quotesS.getD (n % 8) [])] else if kk = 4 then [tk 5 (signsS.getD (n % 14) [])] else if kk = 5 then [tk 6 [46]] else if kk = 6 then [tk 7 [61, 61]] else tk 1 PIC :: ((if n % 7 = 6 ∨ n % 3 = 0 then [tk 1 IS] else []) ++ [tk 4 (picturesS.getD (n % 7) [])]) := by rw [hkk, hn0]; rfl
    have r1 : rd w₀ (Xv B tb) (.own k1q0) (n % 12) = .str (wordsS.getD (n % 12) []) := by rw [Xd w₀ (bufAt g2 hB1), str_row _ (by show n % 12 < 12; omega)]
    have r2 : rd w₀ (Xv B tb) (.own k2q0) (n % 8) = .str (numbersS.getD (n % 8) []) := by rw [Xd w₀ (bufAt g2 hB2), str_row _ (by show n % 8 < 8; omega)]
    have r3 : rd w₀ (Xv B tb) (.own k3q0) (n % 8) = .str (quotesS.getD (n % 8) []) := by rw [Xd w₀ (bufAt g2 hB3), str_row _ (by show n % 8 < 8; omega)]
    have r4 : rd w₀ (Xv B tb) (.own k4q0) (n % 14) = .str (signsS.getD (n % 14) []) := by rw [Xd w₀ (bufAt g2 hB4), str_row _ (by show n % 14 < 14; omega)]
    have r5 : ∀ tb', bufOk B 5 tb' → rd w₀ (Xv B tb') (.own k5q0) (n % 7) = .str (picturesS.getD (n % 7) []) := fun tb' hb => by rw [Xd w₀ (bufAt hb hB5), str_row _ (by show n % 7 < 7; omega)]
    refine qZ ?_
    change Awp _ _ _ _ _ _ _
    refine qN ?_
    refine Qt ?_
    refine awp_rseq [0, 3, 4, 5, 6, 7, 8, 9, 10] (by rfl) fun K hK => ?_
    simp +decide only [qa, ev, putD, Slots.put, Slots.get, Slots.keep, if_true, if_false, true_and, ↓qg, qd, ↓QT, Qb, Qj Tryz.underlying23 sz67, ↓qF, qo, fa67_1, ↓qJ, qD ag65, ↓ap_convert _ _ _ (es_int Tryz.underlying65 Tryz.underlying3), pop_convert, pConv_int Tryz.underlying65 Tryz.underlying3, ↓qc, qb, qj, e1, Int.toNat_natCast]
    try simp (disch := omega) only [wrap_i64]
    repeat (with_reducible refine And.intro ?_ ?_; · first | trivial | omega | (intro hg; simp only [Bool.and_eq_true, Bool.or_eq_true, Bool.not_eq_true', Bool.and_eq_false_iff, Bool.or_eq_false_iff, Bool.not_eq_false', decide_eq_true_eq, decide_eq_false_iff_not, XI] at hg; omega) | (simp only [List.length_append, List.length_map, List.length_range, List.length_replicate, List.length_take, List.length_drop, List.length_cons, List.length_nil, List.length_set, List.length_reverse]; omega))
    apply hK; clear hK K
    refine awp_rseq [0, 3, 4, 5, 6, 7, 8, 9, 10, 38] (by rfl) fun K hK => ?_
    simp +decide only [qa, ev, qK, qH, putD, Slots.put, Slots.get, Slots.keep, if_true, if_false, true_and, ↓qg, qd, ↓QT, Qb, Qj Tryz.underlying23 sz67, ↓qF, qo, fa67_0, ↓qJ, qD ag5, ↓qw, qh, qz, cond_false, qm, pI_rem, qj, e0, mk, Int.toNat_natCast, Nat.add_zero]
    repeat (with_reducible refine And.intro ?_ ?_; · first | trivial | omega | (intro hg; simp only [Bool.and_eq_true, Bool.or_eq_true, Bool.not_eq_true', Bool.and_eq_false_iff, Bool.or_eq_false_iff, Bool.not_eq_false', decide_eq_true_eq, decide_eq_false_iff_not, XI] at hg; omega) | (simp only [List.length_append, List.length_map, List.length_range, List.length_replicate, List.length_take, List.length_drop, List.length_cons, List.length_nil, List.length_set, List.length_reverse]; omega))
    apply hK; clear hK K
    refine Qt ?_
    refine qN ?_
    refine awp_rseq [0, 3, 4, 5, 6, 7, 8, 9, 10, 38, 69] (by rfl) fun K hK => ?_
    simp +decide only [qa, ev, qK, qH, putD, Slots.put, Slots.get, Slots.keep, if_true, if_false, true_and, ↓qw, qh, qz, cond_false, qm, Xo, ↓qc, qb]
    apply hK; clear hK K
    refine awp_joinT [0, 3, 4, 5, 6, 7, 8, 9, 10, 38, 69] (fun z : Unit => [(0, .slice lc o ps.length cp), (3, .slice (.own k1q0) 0 12 (.exact 12)), (4, .slice (.own k2q0) 0 8 (.exact 8)), (5, .slice (.own k3q0) 0 8 (.exact 8)), (6, .slice (.own k4q0) 0 14 (.exact 14)), (7, .slice (.own k5q0) 0 7 (.exact 7)), (8, XM 5 tb), (9, .int .i64 i), (10, .int .i64 n), (38, .int .u8 kk), (69, .bool (decide (kk ≤ 1)))]) (fun z : Unit => Xv B tb) (fun z : Unit => True) ?_ ?_
    · refine qM (b := _) rfl (fun hb2 => ?_) (fun hb2 => ?_)
      · try simp only [decide_eq_true_eq] at hb2
        refine qZ ?_
        try simp only [qR]
        have e0 : kk = 0 → decide ((kk : Int) = 0) = decide (kk ≤ 1) := fun z => decide_eq_decide.2 (by omega)
        have e1 : ¬ kk = 0 → decide ((kk : Int) = 1) = decide (kk ≤ 1) := fun z => decide_eq_decide.2 (by omega)
        first
        | exact ⟨(), by rw [← e0 (by omega)]; rfl, Sub.refl _, trivial⟩
        | exact ⟨(), by rw [← e0 (by omega)]; rfl, Sub.refl _⟩
        | exact ⟨(), by rw [← e1 (by omega)]; rfl, Sub.refl _, trivial⟩
        | exact ⟨(), by rw [← e1 (by omega)]; rfl, Sub.refl _⟩
      · try simp only [decide_eq_false_iff_not] at hb2
        refine Xl [0, 3, 4, 5, 6, 7, 8, 9, 10, 38, 69] (by rfl) ?_
        simp +decide only [qa, ev, qK, qH, putD, Slots.put, Slots.get, Slots.keep, if_true, if_false, true_and, and_true, ↓qw, qh, qz, cond_false, qm, Xo, ↓qc, qb]
        try simp only [qR]
        have e0 : kk = 0 → decide ((kk : Int) = 0) = decide (kk ≤ 1) := fun z => decide_eq_decide.2 (by omega)
        have e1 : ¬ kk = 0 → decide ((kk : Int) = 1) = decide (kk ≤ 1) := fun z => decide_eq_decide.2 (by omega)
        first
        | exact ⟨(), by rw [← e0 (by omega)]; rfl, Sub.refl _, trivial⟩
        | exact ⟨(), by rw [← e0 (by omega)]; rfl, Sub.refl _⟩
        | exact ⟨(), by rw [← e1 (by omega)]; rfl, Sub.refl _, trivial⟩
        | exact ⟨(), by rw [← e1 (by omega)]; rfl, Sub.refl _⟩
    · intro _ _
      refine qM (b := _) rfl (fun hb3 => ?_) (fun hb3 => ?_)
      · try simp only [decide_eq_true_eq] at hb3
        have hq : pieceE p = [tk 1 (wordsS.getD (n % 12) [])] := by rw [hpe, if_pos (by omega)]
        refine Xl [0, 3, 4, 5, 6, 7, 8, 9] (by rfl) ?_
        simp +decide only [ev, qK, qH, putD, Slots.put, Slots.get, if_true, if_false, true_and, ↓qg, qd, ↓Xw, QH, XH Tryz.underlying64, ↓qw, qh, qP, cond_false, qm, pI_rem, ↓QT, Qb, Qj Tryz.underlying64 sz9, ↓qJ, qD ag9, ↓Qo, ↓Qa, bld38_0_1, evP, List.map_cons, List.map_nil, Nat.zero_add, qE, m12, r1, Int.toNat_natCast, Nat.mul_one, Nat.zero_add]
        repeat (with_reducible refine And.intro ?_ ?_; · first | trivial | omega | (intro hg; simp only [Bool.and_eq_true, Bool.or_eq_true, Bool.not_eq_true', Bool.and_eq_false_iff, Bool.or_eq_false_iff, Bool.not_eq_false', decide_eq_true_eq, decide_eq_false_iff_not, XI] at hg; omega) | (simp only [List.length_append, List.length_map, List.length_range, List.length_replicate, List.length_take, List.length_drop, List.length_cons, List.length_nil, List.length_set, List.length_reverse]; omega))
        refine Qk (cs := Zc (tk 1 (wordsS.getD (n % 12) []))) (by kernel_rfl) fun k19q9 hk19q9 => ?_
        try have hf_19q9 : h k19q9 = none := by first | assumption | (simp only [AHeap.set_none] at hk19q9; simp only [hk19q9])
        refine XF (es := 5) (zs := (l).map Zc) (xs := [Zc (tk 1 (wordsS.getD (n % 12) []))]) (h₀ := B) (b := tb) (by rfl) (by rfl) Tryz.underlying25 Tryz.underlying25 (fun k e => by cases e) Xi by38 ze38 (by rfl) (by decide) (by rfl) g2 g3 tokC_wide (Sub.set (by assumption)) (by rfl) (IsL.own (AHeap.set_same _ _ _) (by simp [Zc]) (by rfl) (by rfl) (.exact 1) (Nat.le_refl _)) (by rfl) (by simp; omega) (by simp; omega) fun tb2 htb2 o1tb2 o2tb2 o3tb2 => ?_
        simp +decide only [qa, ev, putD, Slots.put, Slots.get, Slots.keep, if_true, if_false, true_and, ↓qc, qb]
        change Awp _ _ _ _ _ _ _
        refine Xl [0, 3, 4, 5, 6, 7, 8, 9] (by rfl) ?_
        simp +decide only [qa, ev, qK, qH, putD, Slots.put, Slots.get, Slots.keep, if_true, if_false, true_and, ↓qg, qd, ↓qw, qh, qz, cond_false, qm, Xk, ↓qc, qb]
        try simp (disch := omega) only [wrap_i64]
        try simp only [qR]
        first
        | exact ⟨(i + 1, tb2), rfl, o3tb2, ⟨hi, hi2, o1tb2, by simp only; rw [o2tb2, hst, hq, List.map_append]; rfl⟩, by simp only; omega⟩
        | exact ⟨(i + 1, tb5), rfl, o3tb5, ⟨hi, hi2, o1tb5, by simp only; rw [o2tb5, hst, hq, z3]; simp⟩, by simp only; omega⟩
      · try simp only [decide_eq_false_iff_not] at hb3
        refine awp_rseq [0, 3, 4, 5, 6, 7, 8, 9, 10, 38, 83] (by rfl) fun K hK => ?_
        simp +decide only [qa, ev, qK, qH, putD, Slots.put, Slots.get, Slots.keep, if_true, if_false, true_and, ↓qw, qh, qz, cond_false, qm, Xo, ↓qc, qb]
        apply hK; clear hK K
        refine qM (b := _) rfl (fun hb4 => ?_) (fun hb4 => ?_)
        · try simp only [decide_eq_true_eq] at hb4
          have hq : pieceE p = [tk 2 (numbersS.getD (n % 8) [])] := by rw [hpe, if_neg (by omega), if_pos (by omega)]
          refine Xl [0, 3, 4, 5, 6, 7, 8, 9] (by rfl) ?_
          simp +decide only [ev, qK, qH, putD, Slots.put, Slots.get, if_true, if_false, true_and, ↓qg, qd, ↓Xw, QH, XH Tryz.underlying64, ↓qw, qh, qP, cond_false, qm, pI_rem, ↓QT, Qb, Qj Tryz.underlying64 sz9, ↓qJ, qD ag9, ↓Qo, ↓Qa, bld38_0_1, evP, List.map_cons, List.map_nil, Nat.zero_add, qE, m8, r2, Int.toNat_natCast, Nat.mul_one, Nat.zero_add]
          repeat (with_reducible refine And.intro ?_ ?_; · first | trivial | omega | (intro hg; simp only [Bool.and_eq_true, Bool.or_eq_true, Bool.not_eq_true', Bool.and_eq_false_iff, Bool.or_eq_false_iff, Bool.not_eq_false', decide_eq_true_eq, decide_eq_false_iff_not, XI] at hg; omega) | (simp only [List.length_append, List.length_map, List.length_range, List.length_replicate, List.length_take, List.length_drop, List.length_cons, List.length_nil, List.length_set, List.length_reverse]; omega))
          refine Qk (cs := Zc (tk 2 (numbersS.getD (n % 8) []))) (by kernel_rfl) fun k21q9 hk21q9 => ?_
          try have hf_21q9 : h k21q9 = none := by first | assumption | (simp only [AHeap.set_none] at hk21q9; simp only [hk21q9])
          refine XF (es := 5) (zs := (l).map Zc) (xs := [Zc (tk 2 (numbersS.getD (n % 8) []))]) (h₀ := B) (b := tb) (by rfl) (by rfl) Tryz.underlying25 Tryz.underlying25 (fun k e => by cases e) Xi by38 ze38 (by rfl) (by decide) (by rfl) g2 g3 tokC_wide (Sub.set (by assumption)) (by rfl) (IsL.own (AHeap.set_same _ _ _) (by simp [Zc]) (by rfl) (by rfl) (.exact 1) (Nat.le_refl _)) (by rfl) (by simp; omega) (by simp; omega) fun tb2 htb2 o1tb2 o2tb2 o3tb2 => ?_
          simp +decide only [qa, ev, putD, Slots.put, Slots.get, Slots.keep, if_true, if_false, true_and, ↓qc, qb]
          change Awp _ _ _ _ _ _ _
          refine Xl [0, 3, 4, 5, 6, 7, 8, 9] (by rfl) ?_
          simp +decide only [qa, ev, qK, qH, putD, Slots.put, Slots.get, Slots.keep, if_true, if_false, true_and, ↓qg, qd, ↓qw, qh, qz, cond_false, qm, Xk, ↓qc, qb]
          try simp (disch := omega) only [wrap_i64]
          try simp only [qR]
          first
          | exact ⟨(i + 1, tb2), rfl, o3tb2, ⟨hi, hi2, o1tb2, by simp only; rw [o2tb2, hst, hq, List.map_append]; rfl⟩, by simp only; omega⟩
          | exact ⟨(i + 1, tb5), rfl, o3tb5, ⟨hi, hi2, o1tb5, by simp only; rw [o2tb5, hst, hq, z3]; simp⟩, by simp only; omega⟩
        · try simp only [decide_eq_false_iff_not] at hb4
          refine awp_rseq [0, 3, 4, 5, 6, 7, 8, 9, 10, 38, 96] (by rfl) fun K hK => ?_
          simp +decide only [qa, ev, qK, qH, putD, Slots.put, Slots.get, Slots.keep, if_true, if_false, true_and, ↓qw, qh, qz, cond_false, qm, Xo, ↓qc, qb]
          apply hK; clear hK K
          refine qM (b := _) rfl (fun hb5 => ?_) (fun hb5 => ?_)
          · try simp only [decide_eq_true_eq] at hb5
            have hq : pieceE p = [tk 3 (quotesS.getD (n % 8) [])] := by rw [hpe, if_neg (by omega), if_neg (by omega), if_pos (by omega)]
            refine Xl [0, 3, 4, 5, 6, 7, 8, 9] (by rfl) ?_
            simp +decide only [ev, qK, qH, putD, Slots.put, Slots.get, if_true, if_false, true_and, ↓qg, qd, ↓Xw, QH, XH Tryz.underlying64, ↓qw, qh, qP, cond_false, qm, pI_rem, ↓QT, Qb, Qj Tryz.underlying64 sz9, ↓qJ, qD ag9, ↓Qo, ↓Qa, bld38_0_1, evP, List.map_cons, List.map_nil, Nat.zero_add, qE, m8, r3, Int.toNat_natCast, Nat.mul_one, Nat.zero_add]
            repeat (with_reducible refine And.intro ?_ ?_; · first | trivial | omega | (intro hg; simp only [Bool.and_eq_true, Bool.or_eq_true, Bool.not_eq_true', Bool.and_eq_false_iff, Bool.or_eq_false_iff, Bool.not_eq_false', decide_eq_true_eq, decide_eq_false_iff_not, XI] at hg; omega) | (simp only [List.length_append, List.length_map, List.length_range, List.length_replicate, List.length_take, List.length_drop, List.length_cons, List.length_nil, List.length_set, List.length_reverse]; omega))
            refine Qk (cs := Zc (tk 3 (quotesS.getD (n % 8) []))) (by kernel_rfl) fun k23q9 hk23q9 => ?_
            try have hf_23q9 : h k23q9 = none := by first | assumption | (simp only [AHeap.set_none] at hk23q9; simp only [hk23q9])
            refine XF (es := 5) (zs := (l).map Zc) (xs := [Zc (tk 3 (quotesS.getD (n % 8) []))]) (h₀ := B) (b := tb) (by rfl) (by rfl) Tryz.underlying25 Tryz.underlying25 (fun k e => by cases e) Xi by38 ze38 (by rfl) (by decide) (by rfl) g2 g3 tokC_wide (Sub.set (by assumption)) (by rfl) (IsL.own (AHeap.set_same _ _ _) (by simp [Zc]) (by rfl) (by rfl) (.exact 1) (Nat.le_refl _)) (by rfl) (by simp; omega) (by simp; omega) fun tb2 htb2 o1tb2 o2tb2 o3tb2 => ?_
            simp +decide only [qa, ev, putD, Slots.put, Slots.get, Slots.keep, if_true, if_false, true_and, ↓qc, qb]
            change Awp _ _ _ _ _ _ _
            refine Xl [0, 3, 4, 5, 6, 7, 8, 9] (by rfl) ?_
            simp +decide only [qa, ev, qK, qH, putD, Slots.put, Slots.get, Slots.keep, if_true, if_false, true_and, ↓qg, qd, ↓qw, qh, qz, cond_false, qm, Xk, ↓qc, qb]
            try simp (disch := omega) only [wrap_i64]
            try simp only [qR]
            first
            | exact ⟨(i + 1, tb2), rfl, o3tb2, ⟨hi, hi2, o1tb2, by simp only; rw [o2tb2, hst, hq, List.map_append]; rfl⟩, by simp only; omega⟩
            | exact ⟨(i + 1, tb5), rfl, o3tb5, ⟨hi, hi2, o1tb5, by simp only; rw [o2tb5, hst, hq, z3]; simp⟩, by simp only; omega⟩
          · try simp only [decide_eq_false_iff_not] at hb5
            refine awp_rseq [0, 3, 4, 5, 6, 7, 8, 9, 10, 38, 109] (by rfl) fun K hK => ?_
            simp +decide only [qa, ev, qK, qH, putD, Slots.put, Slots.get, Slots.keep, if_true, if_false, true_and, ↓qw, qh, qz, cond_false, qm, Xo, ↓qc, qb]
            apply hK; clear hK K
            refine qM (b := _) rfl (fun hb6 => ?_) (fun hb6 => ?_)
            · try simp only [decide_eq_true_eq] at hb6
              have hq : pieceE p = [tk 5 (signsS.getD (n % 14) [])] := by rw [hpe, if_neg (by omega), if_neg (by omega), if_neg (by omega), if_pos (by omega)]
              refine Xl [0, 3, 4, 5, 6, 7, 8, 9] (by rfl) ?_
              simp +decide only [ev, qK, qH, putD, Slots.put, Slots.get, if_true, if_false, true_and, ↓qg, qd, ↓Xw, QH, XH Tryz.underlying64, ↓qw, qh, qP, cond_false, qm, pI_rem, ↓QT, Qb, Qj Tryz.underlying64 sz9, ↓qJ, qD ag9, ↓Qo, ↓Qa, bld38_0_1, evP, List.map_cons, List.map_nil, Nat.zero_add, qE, m14, r4, Int.toNat_natCast, Nat.mul_one, Nat.zero_add]
              repeat (with_reducible refine And.intro ?_ ?_; · first | trivial | omega | (intro hg; simp only [Bool.and_eq_true, Bool.or_eq_true, Bool.not_eq_true', Bool.and_eq_false_iff, Bool.or_eq_false_iff, Bool.not_eq_false', decide_eq_true_eq, decide_eq_false_iff_not, XI] at hg; omega) | (simp only [List.length_append, List.length_map, List.length_range, List.length_replicate, List.length_take, List.length_drop, List.length_cons, List.length_nil, List.length_set, List.length_reverse]; omega))
              refine Qk (cs := Zc (tk 5 (signsS.getD (n % 14) []))) (by kernel_rfl) fun k25q9 hk25q9 => ?_
              try have hf_25q9 : h k25q9 = none := by first | assumption | (simp only [AHeap.set_none] at hk25q9; simp only [hk25q9])
              refine XF (es := 5) (zs := (l).map Zc) (xs := [Zc (tk 5 (signsS.getD (n % 14) []))]) (h₀ := B) (b := tb) (by rfl) (by rfl) Tryz.underlying25 Tryz.underlying25 (fun k e => by cases e) Xi by38 ze38 (by rfl) (by decide) (by rfl) g2 g3 tokC_wide (Sub.set (by assumption)) (by rfl) (IsL.own (AHeap.set_same _ _ _) (by simp [Zc]) (by rfl) (by rfl) (.exact 1) (Nat.le_refl _)) (by rfl) (by simp; omega) (by simp; omega) fun tb2 htb2 o1tb2 o2tb2 o3tb2 => ?_
              simp +decide only [qa, ev, putD, Slots.put, Slots.get, Slots.keep, if_true, if_false, true_and, ↓qc, qb]
              change Awp _ _ _ _ _ _ _
              refine Xl [0, 3, 4, 5, 6, 7, 8, 9] (by rfl) ?_
              simp +decide only [qa, ev, qK, qH, putD, Slots.put, Slots.get, Slots.keep, if_true, if_false, true_and, ↓qg, qd, ↓qw, qh, qz, cond_false, qm, Xk, ↓qc, qb]
              try simp (disch := omega) only [wrap_i64]
              try simp only [qR]
              first
              | exact ⟨(i + 1, tb2), rfl, o3tb2, ⟨hi, hi2, o1tb2, by simp only; rw [o2tb2, hst, hq, List.map_append]; rfl⟩, by simp only; omega⟩
              | exact ⟨(i + 1, tb5), rfl, o3tb5, ⟨hi, hi2, o1tb5, by simp only; rw [o2tb5, hst, hq, z3]; simp⟩, by simp only; omega⟩
            · try simp only [decide_eq_false_iff_not] at hb6
              refine awp_rseq [0, 3, 4, 5, 6, 7, 8, 9, 10, 38, 122] (by rfl) fun K hK => ?_
              simp +decide only [qa, ev, qK, qH, putD, Slots.put, Slots.get, Slots.keep, if_true, if_false, true_and, ↓qw, qh, qz, cond_false, qm, Xo, ↓qc, qb]
              apply hK; clear hK K
              refine qM (b := _) rfl (fun hb7 => ?_) (fun hb7 => ?_)
              · try simp only [decide_eq_true_eq] at hb7
                have hq : pieceE p = [tk 6 [46]] := by rw [hpe, if_neg (by omega), if_neg (by omega), if_neg (by omega), if_neg (by omega), if_pos (by omega)]
                refine Xl [0, 3, 4, 5, 6, 7, 8, 9] (by rfl) ?_
                simp +decide only [ev, qK, qH, putD, Slots.put, Slots.get, if_true, if_false, true_and, ↓qg, qd, ↓Qo, ↓Qa, bld38_0_1, evP, List.map_cons, List.map_nil]
                refine Qk (cs := Zc (tk 6 [46])) (by kernel_rfl) fun k27q2 hk27q2 => ?_
                try have hf_27q2 : h k27q2 = none := by first | assumption | (simp only [AHeap.set_none] at hk27q2; simp only [hk27q2])
                refine XF (es := 5) (zs := (l).map Zc) (xs := [Zc (tk 6 [46])]) (h₀ := B) (b := tb) (by rfl) (by rfl) Tryz.underlying25 Tryz.underlying25 (fun k e => by cases e) Xi by38 ze38 (by rfl) (by decide) (by rfl) g2 g3 tokC_wide (Sub.set (by assumption)) (by rfl) (IsL.own (AHeap.set_same _ _ _) (by simp [Zc]) (by rfl) (by rfl) (.exact 1) (Nat.le_refl _)) (by rfl) (by simp; omega) (by simp; omega) fun tb2 htb2 o1tb2 o2tb2 o3tb2 => ?_
                simp +decide only [qa, ev, putD, Slots.put, Slots.get, Slots.keep, if_true, if_false, true_and, ↓qc, qb]
                change Awp _ _ _ _ _ _ _
                refine Xl [0, 3, 4, 5, 6, 7, 8, 9] (by rfl) ?_
                simp +decide only [qa, ev, qK, qH, putD, Slots.put, Slots.get, Slots.keep, if_true, if_false, true_and, ↓qg, qd, ↓qw, qh, qz, cond_false, qm, Xk, ↓qc, qb]
                try simp (disch := omega) only [wrap_i64]
                try simp only [qR]
                first
                | exact ⟨(i + 1, tb2), rfl, o3tb2, ⟨hi, hi2, o1tb2, by simp only; rw [o2tb2, hst, hq, List.map_append]; rfl⟩, by simp only; omega⟩
                | exact ⟨(i + 1, tb5), rfl, o3tb5, ⟨hi, hi2, o1tb5, by simp only; rw [o2tb5, hst, hq, z3]; simp⟩, by simp only; omega⟩
              · try simp only [decide_eq_false_iff_not] at hb7
                refine awp_rseq [0, 3, 4, 5, 6, 7, 8, 9, 10, 128] (by rfl) fun K hK => ?_
                simp +decide only [qa, ev, qK, qH, putD, Slots.put, Slots.get, Slots.keep, if_true, if_false, true_and, ↓qw, qh, qz, cond_false, qm, Xo, ↓qc, qb]
                apply hK; clear hK K
                refine qM (b := _) rfl (fun hb8 => ?_) (fun hb8 => ?_)
                · try simp only [decide_eq_true_eq] at hb8
                  have hq : pieceE p = [tk 7 [61, 61]] := by rw [hpe, if_neg (by omega), if_neg (by omega), if_neg (by omega), if_neg (by omega), if_neg (by omega), if_pos (by omega)]
                  refine Xl [0, 3, 4, 5, 6, 7, 8, 9] (by rfl) ?_
                  simp +decide only [ev, qK, qH, putD, Slots.put, Slots.get, if_true, if_false, true_and, ↓qg, qd, ↓Qo, ↓Qa, bld38_0_1, evP, List.map_cons, List.map_nil]
                  refine Qk (cs := Zc (tk 7 [61, 61])) (by kernel_rfl) fun k29q2 hk29q2 => ?_
                  try have hf_29q2 : h k29q2 = none := by first | assumption | (simp only [AHeap.set_none] at hk29q2; simp only [hk29q2])
                  refine XF (es := 5) (zs := (l).map Zc) (xs := [Zc (tk 7 [61, 61])]) (h₀ := B) (b := tb) (by rfl) (by rfl) Tryz.underlying25 Tryz.underlying25 (fun k e => by cases e) Xi by38 ze38 (by rfl) (by decide) (by rfl) g2 g3 tokC_wide (Sub.set (by assumption)) (by rfl) (IsL.own (AHeap.set_same _ _ _) (by simp [Zc]) (by rfl) (by rfl) (.exact 1) (Nat.le_refl _)) (by rfl) (by simp; omega) (by simp; omega) fun tb2 htb2 o1tb2 o2tb2 o3tb2 => ?_
                  simp +decide only [qa, ev, putD, Slots.put, Slots.get, Slots.keep, if_true, if_false, true_and, ↓qc, qb]
                  change Awp _ _ _ _ _ _ _
                  refine Xl [0, 3, 4, 5, 6, 7, 8, 9] (by rfl) ?_
                  simp +decide only [qa, ev, qK, qH, putD, Slots.put, Slots.get, Slots.keep, if_true, if_false, true_and, ↓qg, qd, ↓qw, qh, qz, cond_false, qm, Xk, ↓qc, qb]
                  try simp (disch := omega) only [wrap_i64]
                  try simp only [qR]
                  first
                  | exact ⟨(i + 1, tb2), rfl, o3tb2, ⟨hi, hi2, o1tb2, by simp only; rw [o2tb2, hst, hq, List.map_append]; rfl⟩, by simp only; omega⟩
                  | exact ⟨(i + 1, tb5), rfl, o3tb5, ⟨hi, hi2, o1tb5, by simp only; rw [o2tb5, hst, hq, z3]; simp⟩, by simp only; omega⟩
                · try simp only [decide_eq_false_iff_not] at hb8
                  refine awp_rseq [0, 3, 4, 5, 6, 7, 8, 9, 10, 11] (by rfl) fun K hK => ?_
                  simp +decide only [qa, ev, putD, Slots.put, Slots.get, Slots.keep, if_true, if_false, true_and, ↓qg, qd, ↓Xw, QH, XH Tryz.underlying64, ↓qw, qh, qP, cond_false, qm, pI_rem, ↓qc, qb, m7]
                  apply hK; clear hK K
                  refine awp_rseq [0, 3, 4, 5, 6, 7, 8, 9, 10, 11] (by rfl) fun K hK => ?_
                  simp +decide only [ev, qK, qH, putD, Slots.put, Slots.get, if_true, if_false, true_and, ↓qg, qd, ↓Qo, ↓Qa, bld38_0_1, evP, List.map_cons, List.map_nil]
                  refine Qk (cs := Zc (tk 1 PIC)) (by kernel_rfl) fun k13q2 hk13q2 => ?_
                  try have hf_13q2 : h k13q2 = none := by first | assumption | (simp only [AHeap.set_none] at hk13q2; simp only [hk13q2])
                  refine XF (es := 5) (zs := (l).map Zc) (xs := [Zc (tk 1 PIC)]) (h₀ := B) (b := tb) (by rfl) (by rfl) Tryz.underlying25 Tryz.underlying25 (fun k e => by cases e) Xi by38 ze38 (by rfl) (by decide) (by rfl) g2 g3 tokC_wide (Sub.set (by assumption)) (by rfl) (IsL.own (AHeap.set_same _ _ _) (by simp [Zc]) (by rfl) (by rfl) (.exact 1) (Nat.le_refl _)) (by rfl) (by simp; omega) (by simp; omega) fun tb3 htb3 o1tb3 o2tb3 o3tb3 => ?_
                  simp +decide only [qa, ev, putD, Slots.put, Slots.get, Slots.keep, if_true, if_false, true_and, ↓qc, qb]
                  apply hK; clear hK K
                  refine qN ?_
                  refine Awp.forget (h' := Xv B tb3) o3tb3 ?_
                  refine awp_rseq [0, 3, 4, 5, 6, 7, 8, 9, 11, 56] (by rfl) fun K hK => ?_
                  simp +decide only [qa, ev, qK, qH, putD, Slots.put, Slots.get, Slots.keep, if_true, if_false, true_and, ↓qg, qd, ↓Xw, QH, XH Tryz.underlying64, ↓qw, qh, qz, cond_false, qm, pI_sub, qP, Xo, ↓Xf, agP, Qm, qI, qG, qV, implies_true, ↓QW, XR, XT, pI_rem, ↓QN, Qw, Qg, Za, pickV_or, m3]
                  try simp (disch := omega) only [wrap_i64]
                  apply hK; clear hK K
                  refine awp_joinT [0, 3, 4, 5, 6, 7, 8, 9, 11] (fun z : Option Buf × List TokC => [(0, .slice lc o ps.length cp), (3, .slice (.own k1q0) 0 12 (.exact 12)), (4, .slice (.own k2q0) 0 8 (.exact 8)), (5, .slice (.own k3q0) 0 8 (.exact 8)), (6, .slice (.own k4q0) 0 14 (.exact 14)), (7, .slice (.own k5q0) 0 7 (.exact 7)), (8, XM 5 z.1), (9, .int .i64 i), (11, .int .i64 (n % 7 : Nat))]) (fun z : Option Buf × List TokC => Xv B z.1) (fun z : Option Buf × List TokC => bufOk B 5 z.1 ∧ bufC z.1 = (z.2.map Zc).flatten ∧ z.2 = l ++ (tk 1 PIC :: if n % 7 = 6 ∨ n % 3 = 0 then [tk 1 IS] else [])) ?_ ?_
                  · refine qM (b := _) rfl (fun hb9 => ?_) (fun hb9 => ?_)
                    · try simp only [decide_eq_true_eq, Bool.or_eq_true] at hb9
                      refine Xl [0, 3, 4, 5, 6, 7, 8, 9, 11] (by rfl) ?_
                      simp +decide only [ev, qK, qH, putD, Slots.put, Slots.get, if_true, if_false, true_and, ↓qg, qd, ↓Qo, ↓Qa, bld38_0_1, evP, List.map_cons, List.map_nil]
                      refine Qk (cs := Zc (tk 1 IS)) (by kernel_rfl) fun k15q2 hk15q2 => ?_
                      try have hf_15q2 : h k15q2 = none := by first | assumption | (simp only [AHeap.set_none] at hk15q2; simp only [hk15q2])
                      refine XF (es := 5) (zs := (l ++ [tk 1 PIC]).map Zc) (xs := [Zc (tk 1 IS)]) (h₀ := B) (b := tb3) (by rfl) (by rfl) Tryz.underlying25 Tryz.underlying25 (fun k e => by cases e) Xi by38 ze38 (by rfl) (by decide) (by rfl) o1tb3 (by rw [o2tb3, List.map_append]; rfl) tokC_wide (Sub.set (by assumption)) (by rfl) (IsL.own (AHeap.set_same _ _ _) (by simp [Zc]) (by rfl) (by rfl) (.exact 1) (Nat.le_refl _)) (by rfl) (by simp; omega) (by simp; omega) fun tb4 htb4 o1tb4 o2tb4 o3tb4 => ?_
                      simp +decide only [qa, ev, putD, Slots.put, Slots.get, Slots.keep, if_true, if_false, true_and, ↓qc, qb]
                      try simp only [qR]
                      first
                      | exact ⟨(tb4, l ++ [tk 1 PIC] ++ [tk 1 IS]), rfl, o3tb4, o1tb4, by rw [o2tb4]; simp, by rw [if_pos (by omega)]; simp⟩
                      | exact ⟨(tb3, l ++ [tk 1 PIC]), rfl, Sub.refl _, o1tb3, by rw [o2tb3, List.map_append]; rfl, by rw [if_neg (by omega)]⟩
                    · try simp only [decide_eq_false_iff_not, Bool.or_eq_false_iff] at hb9
                      refine qZ ?_
                      try simp only [qR]
                      first
                      | exact ⟨(tb4, l ++ [tk 1 PIC] ++ [tk 1 IS]), rfl, o3tb4, o1tb4, by rw [o2tb4]; simp, by rw [if_pos (by omega)]; simp⟩
                      | exact ⟨(tb3, l ++ [tk 1 PIC]), rfl, Sub.refl _, o1tb3, by rw [o2tb3, List.map_append]; rfl, by rw [if_neg (by omega)]⟩
                  · rintro ⟨tbj, lj⟩ ⟨z1, z2, z3⟩
                    simp only at z1 z2 z3 ⊢
                    have r5' := r5 tbj z1
                    have hlj : lj.length ≤ 602 := by rw [z3]; split <;> simp <;> omega
                    have hq : pieceE p = tk 1 PIC :: ((if n % 7 = 6 ∨ n % 3 = 0 then [tk 1 IS] else []) ++ [tk 4 (picturesS.getD (n % 7) [])]) := by rw [hpe, if_neg (by omega), if_neg (by omega), if_neg (by omega), if_neg (by omega), if_neg (by omega), if_neg (by omega)]
                    refine Xl [0, 3, 4, 5, 6, 7, 8, 9] (by rfl) ?_
                    simp +decide only [ev, qK, qH, putD, Slots.put, Slots.get, if_true, if_false, true_and, ↓qg, qd, ↓QT, Qb, Qj Tryz.underlying64 sz9, ↓qJ, qD ag9, ↓Qo, ↓Qa, bld38_0_1, evP, List.map_cons, List.map_nil, Nat.zero_add, qE, Int.toNat_natCast, Nat.mul_one, Nat.zero_add, r5']
                    repeat (with_reducible refine And.intro ?_ ?_; · first | trivial | omega | (intro hg; simp only [Bool.and_eq_true, Bool.or_eq_true, Bool.not_eq_true', Bool.and_eq_false_iff, Bool.or_eq_false_iff, Bool.not_eq_false', decide_eq_true_eq, decide_eq_false_iff_not, XI] at hg; omega) | (simp only [List.length_append, List.length_map, List.length_range, List.length_replicate, List.length_take, List.length_drop, List.length_cons, List.length_nil, List.length_set, List.length_reverse]; omega))
                    refine Qk (cs := Zc (tk 4 (picturesS.getD (n % 7) []))) (by kernel_rfl) fun k16q6 hk16q6 => ?_
                    try have hf_16q6 : h k16q6 = none := by first | assumption | (simp only [AHeap.set_none] at hk16q6; simp only [hk16q6])
                    refine XF (es := 5) (zs := (lj).map Zc) (xs := [Zc (tk 4 (picturesS.getD (n % 7) []))]) (h₀ := B) (b := tbj) (by rfl) (by rfl) Tryz.underlying25 Tryz.underlying25 (fun k e => by cases e) Xi by38 ze38 (by rfl) (by decide) (by rfl) z1 z2 tokC_wide (Sub.set (by assumption)) (by rfl) (IsL.own (AHeap.set_same _ _ _) (by simp [Zc]) (by rfl) (by rfl) (.exact 1) (Nat.le_refl _)) (by rfl) (by simp; omega) (by simp; omega) fun tb5 htb5 o1tb5 o2tb5 o3tb5 => ?_
                    simp +decide only [qa, ev, putD, Slots.put, Slots.get, Slots.keep, if_true, if_false, true_and, ↓qc, qb]
                    change Awp _ _ _ _ _ _ _
                    refine Xl [0, 3, 4, 5, 6, 7, 8, 9] (by rfl) ?_
                    simp +decide only [qa, ev, qK, qH, putD, Slots.put, Slots.get, Slots.keep, if_true, if_false, true_and, ↓qg, qd, ↓qw, qh, qz, cond_false, qm, Xk, ↓qc, qb]
                    try simp (disch := omega) only [wrap_i64]
                    try simp only [qR]
                    first
                    | exact ⟨(i + 1, tb2), rfl, o3tb2, ⟨hi, hi2, o1tb2, by simp only; rw [o2tb2, hst, hq, List.map_append]; rfl⟩, by simp only; omega⟩
                    | exact ⟨(i + 1, tb5), rfl, o3tb5, ⟨hi, hi2, o1tb5, by simp only; rw [o2tb5, hst, hq, z3]; simp⟩, by simp only; omega⟩
  · try simp only [decide_eq_false_iff_not, Bool.and_eq_false_iff] at hb1
    have he : ofE ps = (ps.take i).flatMap pieceE := by
      unfold ofE
      by_cases q : i = 200
      · rw [q]
      · rw [List.take_of_length_le (by omega), List.take_of_length_le (by omega)]
    refine Ze ?_
    change Awp _ _ _ _ _ _ _
    refine awp_rseq [2] (by rfl) fun K hK => ?_
    simp +decide only [qa, ev, putD, Slots.put, Slots.get, Slots.keep, if_true, if_false, true_and, ↓qg, qd, ↓qc, qb]
    apply hK; clear hK K
    refine qU ?_
    refine retA_retE (Qd (Qe)) ?_
    simp +decide only [Slots.get, if_true, QD]
    exact ⟨Xv B tb, Sub.refl _, IsL.buf g2 (by decide) (by rw [he]; exact g3) tokC_wide (Sub.refl _), hSb⟩
end Go.Proofs.YtmadddihphkmoaaGreatDoor

/-
  The law TokensBack.
  Conditions: none.
-/
namespace Go.Proofs.YtmadddihphkmoaaGreatDoor
open Go.AM
open Go.Proofs
open Go.Col
open Go.Tok
open Go.RowKit (Below)
set_option maxRecDepth 100000

/-! ### The tokens of plain data are read again -/
def fitsB (p : List TokC) (t : TokC) : Bool := decide (QJ (Xm t) 0 p = ⟨t.kind, t.text, (Xm t).length, 0⟩) && (decide (0 < (Xm t).length) && (decide (qA (Xm t) 0 ≠ 32) && ((((QM p).1) || !sepB (qA (Xm t) 0)) && ((Xm t).all okB && decide ((Xm t).getLast? ≠ some 32)))))
theorem fits_of {p l : List TokC} {t : TokC} (h : fitsB p t = true) (hl : QM l = QM p) : Fits l t := by
  unfold fitsB at h
  simp only [Bool.and_eq_true, decide_eq_true_eq, Bool.or_eq_true, Bool.not_eq_true'] at h
  obtain ⟨h1, h2, h3, h4, h5, h6⟩ := h
  refine ⟨by rw [next_picE hl]; exact h1, h2, ⟨h3, fun q => ?_⟩, h5, h6⟩
  rw [hl] at q
  exact h4.resolve_left (fun z => by rw [q] at z; cases z)
/-- Behind these tokens no picture follows. -/
structure Plain (l : List TokC) : Prop where
  fits : FitsAll l
  one : wordE l 1 [PIC, PICTURE] = false
  pic : QM l = (false, false)
theorem wordE_snoc (l : List TokC) (t : TokC) (ws : List Str) : wordE (l ++ [t]) 1 ws = (decide (t.kind = 1) && ws.contains t.text) := by
  unfold wordE
  rw [List.reverse_append]
  rfl
theorem wordE_two (l : List TokC) (t : TokC) (ws : List Str) : wordE (l ++ [t]) 2 ws = wordE l 1 ws := by
  unfold wordE
  rw [List.reverse_append]
  rfl
theorem picE_snoc (l : List TokC) (t : TokC) (h : (decide (t.kind = 1) && [PIC, PICTURE].contains t.text) = false) (hl : wordE l 1 [PIC, PICTURE] = false) : QM (l ++ [t]) = (false, false) := by
  unfold QM
  rw [wordE_snoc, h, if_neg (by simp), wordE_two, hl, Bool.and_false]
theorem plain_snoc {l : List TokC} {t : TokC} (hl : Plain l) (h : fitsB [] t = true) (hn : (decide (t.kind = 1) && [PIC, PICTURE].contains t.text) = false) : Plain (l ++ [t]) :=
  ⟨hl.fits.snoc (fits_of h hl.pic), by rw [wordE_snoc]; exact hn, picE_snoc l t hn hl.one⟩
def easyB (t : TokC) : Bool := fitsB [] t && !(decide (t.kind = 1) && [PIC, PICTURE].contains t.text) && decide ((Xm t).length ≤ 25)
theorem easy_snoc {l : List TokC} {t : TokC} (hl : Plain l) (h : easyB t = true) : Plain (l ++ [t]) := by
  unfold easyB at h
  simp only [Bool.and_eq_true, Bool.not_eq_true'] at h
  exact plain_snoc hl h.1.1 h.1.2
theorem getD_all {l : List Str} {q : Str → Bool} (h : l.all q = true) {j : Nat} (hj : j < l.length) : q (l.getD j []) = true := by
  rw [List.all_eq_true] at h
  refine h _ ?_
  rw [List.getD, List.getElem?_eq_getElem hj]
  exact List.getElem_mem hj
theorem words_easy (n : Nat) : easyB (tk 1 (wordsS.getD (n % 12) [])) = true := getD_all (q := fun s => easyB (tk 1 s)) (by decide +kernel) (Nat.mod_lt _ (by decide))
theorem numbers_easy (n : Nat) : easyB (tk 2 (numbersS.getD (n % 8) [])) = true := getD_all (q := fun s => easyB (tk 2 s)) (by decide +kernel) (Nat.mod_lt _ (by decide))
theorem quotes_easy (n : Nat) : easyB (tk 3 (quotesS.getD (n % 8) [])) = true := getD_all (q := fun s => easyB (tk 3 s)) (by decide +kernel) (Nat.mod_lt _ (by decide))
theorem signs_easy (n : Nat) : easyB (tk 5 (signsS.getD (n % 14) [])) = true := getD_all (q := fun s => easyB (tk 5 s)) (by decide +kernel) (Nat.mod_lt _ (by decide))
theorem period_easy : easyB (tk 6 [46]) = true := by decide +kernel
theorem pseudo_easy : easyB (tk 7 [61, 61]) = true := by decide +kernel
theorem pic_fits : fitsB [] (tk 1 PIC) = true := by decide +kernel
theorem is_fits : fitsB [tk 1 PIC] (tk 1 IS) = true := by decide +kernel
theorem pict_is (n : Nat) : fitsB [tk 1 PIC, tk 1 IS] (tk 4 (picturesS.getD (n % 7) [])) = true := getD_all (q := fun s => fitsB [tk 1 PIC, tk 1 IS] (tk 4 s)) (by decide +kernel) (Nat.mod_lt _ (by decide))
theorem pict_fits {n : Nat} (h : n % 7 ≠ 6) : fitsB [tk 1 PIC] (tk 4 (picturesS.getD (n % 7) [])) = true := by
  have key : ∀ k : Fin 7, k.val ≠ 6 → fitsB [tk 1 PIC] (tk 4 (picturesS.getD k.val [])) = true := by decide +kernel
  exact key ⟨n % 7, Nat.mod_lt _ (by decide)⟩ h
theorem pict_small (n : Nat) : (Xm (tk 4 (picturesS.getD (n % 7) []))).length ≤ 25 := of_decide_eq_true (getD_all (q := fun s => decide ((Xm (tk 4 s)).length ≤ 25)) (by decide +kernel) (Nat.mod_lt _ (by decide)))
theorem easy_small {t : TokC} (h : easyB t = true) : (Xm t).length ≤ 25 := by
  unfold easyB at h
  simp only [Bool.and_eq_true, decide_eq_true_eq] at h
  exact h.2
theorem piece_plain {l : List TokC} (hl : Plain l) (p : UInt8 × Nat) : Plain (l ++ pieceE p) := by
  unfold pieceE
  split
  · exact easy_snoc hl (words_easy _)
  split
  · exact easy_snoc hl (numbers_easy _)
  split
  · exact easy_snoc hl (quotes_easy _)
  split
  · exact easy_snoc hl (signs_easy _)
  split
  · exact easy_snoc hl period_easy
  split
  · exact easy_snoc hl pseudo_easy
  have f1 : FitsAll (l ++ [tk 1 PIC]) := hl.fits.snoc (fits_of pic_fits hl.pic)
  have w1 : wordE (l ++ [tk 1 PIC]) 1 [PIC, PICTURE] = true := by rw [wordE_snoc]; decide
  have p1 : QM (l ++ [tk 1 PIC]) = QM [tk 1 PIC] := by
    unfold QM
    rw [w1, if_pos rfl]
    decide
  by_cases hq : p.2 % 7 = 6 ∨ p.2 % 3 = 0
  · rw [if_pos hq]
    have f2 : FitsAll (l ++ [tk 1 PIC] ++ [tk 1 IS]) := f1.snoc (fits_of is_fits p1)
    have w2 : wordE (l ++ [tk 1 PIC] ++ [tk 1 IS]) 1 [PIC, PICTURE] = false := by rw [wordE_snoc]; decide
    have w3 : wordE (l ++ [tk 1 PIC] ++ [tk 1 IS]) 1 [IS] = true := by rw [wordE_snoc]; decide
    have p2 : QM (l ++ [tk 1 PIC] ++ [tk 1 IS]) = QM [tk 1 PIC, tk 1 IS] := by
      unfold QM
      rw [w2, if_neg (by simp), w3, wordE_two, w1]
      decide
    have e : l ++ (tk 1 PIC :: ([tk 1 IS] ++ [tk 4 (picturesS.getD (p.2 % 7) [])])) = l ++ [tk 1 PIC] ++ [tk 1 IS] ++ [tk 4 (picturesS.getD (p.2 % 7) [])] := by simp
    rw [e]
    refine ⟨f2.snoc (fits_of (pict_is _) p2), by rw [wordE_snoc]; rfl, picE_snoc _ _ rfl w2⟩
  · rw [if_neg hq]
    have e : l ++ (tk 1 PIC :: ([] ++ [tk 4 (picturesS.getD (p.2 % 7) [])])) = l ++ [tk 1 PIC] ++ [tk 4 (picturesS.getD (p.2 % 7) [])] := by simp
    rw [e]
    refine ⟨f1.snoc (fits_of (pict_fits (fun z => hq (.inl z))) p1), by rw [wordE_snoc]; rfl, ?_⟩
    unfold QM
    rw [wordE_snoc, wordE_snoc]
    rfl
theorem of_plain : ∀ (ps : List (UInt8 × Nat)) {l : List TokC}, Plain l → Plain (l ++ ps.flatMap pieceE)
  | [], l, h => by rw [List.flatMap_nil, List.append_nil]; exact h
  | p :: ps, l, h => by
    rw [List.flatMap_cons, ← List.append_assoc]
    exact of_plain ps (piece_plain h p)
theorem piece_small (p : UInt8 × Nat) : ∀ t ∈ pieceE p, (Xm t).length ≤ 25 := by
  unfold pieceE
  split
  · intro t ht; rw [List.mem_singleton.1 ht]; exact easy_small (words_easy _)
  split
  · intro t ht; rw [List.mem_singleton.1 ht]; exact easy_small (numbers_easy _)
  split
  · intro t ht; rw [List.mem_singleton.1 ht]; exact easy_small (quotes_easy _)
  split
  · intro t ht; rw [List.mem_singleton.1 ht]; exact easy_small (signs_easy _)
  split
  · intro t ht; rw [List.mem_singleton.1 ht]; exact easy_small period_easy
  split
  · intro t ht; rw [List.mem_singleton.1 ht]; exact easy_small pseudo_easy
  intro t ht
  rw [List.mem_cons, List.mem_append, List.mem_singleton] at ht
  rcases ht with rfl | ht | rfl
  · decide
  · split at ht
    · rw [List.mem_singleton.1 ht]; decide
    · cases ht
  · exact pict_small _
theorem sumT_le : ∀ {l : List TokC}, (∀ t ∈ l, (Xm t).length ≤ 25) → sumT l ≤ 26 * l.length
  | [], _ => Nat.zero_le _
  | t :: l, h => by
    have h1 := h t (by simp)
    have h2 := sumT_le (l := l) fun x hx => h x (by simp [hx])
    have e : sumT (t :: l) = ((Xm t).length + 1) + sumT l := by unfold sumT; rw [List.map_cons, List.sum_cons]
    rw [e, List.length_cons]
    omega
theorem of_fits (ps : List (UInt8 × Nat)) : FitsAll (ofE ps) ∧ (ofE ps).length ≤ 600 ∧ sumT (ofE ps) ≤ 36000 := by
  have h1 := of_plain (ps.take 200) (l := []) ⟨.nil, rfl, rfl⟩
  rw [List.nil_append] at h1
  have h2 := of_len (ps.take 200)
  rw [List.length_take] at h2
  have h3 : sumT (ofE ps) ≤ 26 * (ofE ps).length := sumT_le fun t ht => by
    obtain ⟨p, _, hp⟩ := List.mem_flatMap.1 ht
    exact piece_small p t hp
  have h4 : (ofE ps).length ≤ 600 := by unfold ofE; omega
  exact ⟨h1.fits, h4, by omega⟩
theorem fits_text {l : List TokC} {t : TokC} (h : Fits l t) : t.text.length ≤ (Xm t).length + 2 := by
  have h1 := next_text (Xm t) 0 l h.pos
  rw [h.next] at h1
  exact h1
theorem fits_small {l : List TokC} (h : FitsAll l) : ∀ t ∈ l, t.text.length ≤ sumT l + 2 := by
  induction h with
  | nil => intro t ht; cases ht
  | @snoc l t hl ht ih =>
    intro x hx
    rw [sumT_snoc]
    rw [List.mem_append, List.mem_singleton] at hx
    rcases hx with hx | rfl
    · have := ih x hx; omega
    · have := fits_text ht; omega
theorem laid_law {l : List TokC} (h : FitsAll l) (hn : l.length ≤ 65536) (h0 : l ≠ []) (hs : sumT l ≤ 36000) (left : Bool) : ∃ S, writeE [(left, textE l)] = (S, 0) ∧ S.length ≤ 100000 ∧ (XP S false).2 = okF ∧ (XP S false).1.map kt = l.map kt ∧ ∃ t r, (XP S false).1 = t :: r ∧ t.left = left := by
  have hb := text_back h hn h0
  have hl := text_len h
  obtain ⟨S, ls, cs, W⟩ := write_long (left := left) (back_right hb) (by omega)
  obtain ⟨b1, b2, b3⟩ := back_law hb W
  exact ⟨S, W.write, W.len, b1, b2, b3⟩
set_option maxHeartbeats 2000000 in
theorem c_Laid (w₀ : World) (hm : MaxL w₀) (ht10 : Tab10 w₀) (h : AHeap) (v : AVal) (l : List TokC) (hv : IsL w₀ h 5 v (l.map Zc)) (hf : FitsAll l) (hn : l.length ≤ 65536) (hs : sumT l ≤ 36000) (left : Bool) :
    ACall Tryz.prog w₀ 10 [v, .bool left] h (fun r h' => r = .str (writeE [(left, textE l)]).1 ∧ h' = h) := by
  have hsm := fits_small hf
  have hlen := text_len hf
  have hlv := hv.live
  refine qY (n := 17) (rs := [.tmp 4]) Tryz.func10 rfl rfl rfl rfl (Nat.le_of_ble_eq_true rfl) ?_
  simp only [Qf]
  refine awp_rseq [0, 1] (by rfl) fun K hK => ?_
  simp +decide only [qa, ev, qK, qH, putD, Slots.put, Slots.keep, if_true, if_false, true_and, ↓qc, qb, Nat.zero_add]
  apply hK; clear hK K
  refine awp_rseq [5] (by rfl) fun K hK => ?_
  simp +decide only [ev, putD, Slots.put, Slots.get, if_true, if_false, true_and, ↓qg, qd]
  refine qL (V := .str (textE l)) (by rfl) (by rfl) (c_Text w₀ hm _ v l (hv.mono (by repeat (first | exact Sub.refl _ | assumption | refine Sub.set_both ?_ _ _ | refine Sub.trans_set ?_ (by repeat (first | assumption | refine (AHeap.set_ne _ _ (by first | assumption | exact Ne.symm (by assumption))).trans ?_))))) hn (fun t ht => by have := hsm t ht; omega)) ?_
  simp +decide only [ev, qK, qH, putD, Slots.put, Slots.get, if_true, if_false, true_and, ↓Qo, ↓Qa, bld61_0_1, evP, List.map_cons, List.map_nil]
  refine Qk (cs := [.bool left, .str (textE l)]) (by kernel_rfl) fun k1q4 hk1q4 => ?_
  try have hf_1q4 : h k1q4 = none := by first | assumption | (simp only [AHeap.set_none] at hk1q4; simp only [hk1q4])
  refine Xp (by rfl) (by rfl) (c_Write w₀ ht10 _ [(left, textE l)] (.own k1q4) 0 (.exact 1) (isLines (ls := [(left, textE l)]) (AHeap.set_same _ _ _) _ rfl) (by simp) (by intro x hx; simp at hx; subst hx; simp only; omega)) fun x1q5 h1q5 hx1q5 => ?_
  obtain ⟨rfl, hs1⟩ := hx1q5
  have hs_h1q5 : Sub h h1q5 := Sub.trans (by repeat (first | exact Sub.refl _ | assumption | refine Sub.trans_set ?_ (by assumption))) hs1
  have hr_h1q5 := hs_h1q5
  have eb_1q4 := hs1 k1q4 _ (by repeat (first | exact AHeap.set_same _ _ _ | assumption | refine (AHeap.set_ne _ _ (by first | assumption | exact Ne.symm (by assumption))).trans ?_))
  simp +decide only [qa, ev, putD, Slots.put, Slots.get, Slots.keep, if_true, if_false, true_and, ↓qg, qd, ↓QU, QB, QL, List.length_cons, List.length_nil, List.getD_cons_zero, List.getD_cons_succ, ↓qc, qb, List.getD_cons_zero, List.getD_cons_succ, Nat.zero_add, Nat.reduceAdd]
  apply hK; clear hK K
  refine awp_rseq [4] (by rfl) fun K hK => ?_
  simp +decide only [qa, ev, putD, Slots.put, Slots.get, Slots.keep, if_true, if_false, true_and, ↓qg, qd, ↓qc, qb]
  apply hK; clear hK K
  refine qU ?_
  refine qO h (by repeat (first | exact Sub.refl _ | assumption | refine Sub.trans_set ?_ (by assumption))) (Qd (Qe)) ?_
  simp +decide only [Slots.get, if_true, and_true, QD]
  all_goals first | rfl | exact ⟨rfl, rfl⟩ | (simp +decide only [if_true, if_false, *]; done) | (trace_state; fail)
set_option maxHeartbeats 8000000 in
theorem l_TokensBack (w₀ : World) (hm : MaxL w₀) (ht10 : Tab10 w₀) (h : AHeap) (v : AVal) (ps : List (UInt8 × Nat)) (hv : IsL w₀ h 2 v (ps.map pieceC)) (hpl : ps.length ≤ 9223372036854775807) (hpn : ∀ p ∈ ps, p.2 ≤ 65535) (text : Str) (hl : text.length ≤ 9223372036854775807) (left : Bool) :
    ACall Tryz.prog w₀ 3 [v, .str text, .bool left] h (fun x _ => x = .bool true) := by
  refine ACall.mono (R := fun x h' => x = .bool true ∧ h' = h) ?_ fun x h' hx => hx.1
  have hlv := hv.live
  obtain ⟨a1, a2, a3⟩ := of_fits ps
  obtain ⟨l, hl0⟩ : ∃ l, l = ofE ps := ⟨_, rfl⟩
  rw [← hl0] at a1 a2 a3
  obtain ⟨b1, b2⟩ := source_fits text false
  obtain ⟨b3, _⟩ := source_small text false
  obtain ⟨KS, hK0⟩ : ∃ KS, KS = XP text false := ⟨_, rfl⟩
  rw [← hK0] at b1 b2 b3
  refine qY (n := 86) (rs := [.tmp 6]) Tryz.func3 rfl rfl rfl rfl (Nat.le_of_ble_eq_true rfl) ?_
  simp only [Qf]
  refine awp_rseq [0, 1, 2] (by rfl) fun K hK => ?_
  simp +decide only [qa, ev, qK, qH, putD, Slots.put, Slots.keep, if_true, if_false, true_and, ↓qc, qb, Nat.zero_add, Nat.reduceAdd]
  apply hK; clear hK K
  refine qN ?_
  refine awp_rseq [0, 1, 2, 16] (by rfl) fun K hK => ?_
  simp +decide only [qa, ev, qK, qH, putD, Slots.put, Slots.get, Slots.keep, if_true, if_false, true_and, ↓qg, qd, ↓Xw, QH, Zk Tryz.underlying9, ↓qw, qh, qz, cond_false, qm, pI_gtr]
  apply hK; clear hK K
  refine qM (b := _) rfl (fun hb1 => ?_) (fun hb1 => ?_)
  · try simp only [decide_eq_true_eq] at hb1
    refine awp_rseq [6] (by rfl) fun K hK => ?_
    refine qL (V := .bool true) (by rfl) (by rfl) (c_lives03 w₀ hm _) ?_
    simp +decide only [qa, ev, putD, Slots.put, Slots.get, Slots.keep, if_true, if_false, true_and, ↓qc, qb]
    apply hK; clear hK K
    refine qU ?_
    try simp only [Ql]
    refine qO h (by repeat (first | exact Sub.refl _ | assumption | refine Sub.trans_set ?_ (by assumption))) (Qd (Qe)) ?_
    simp +decide only [Slots.get, if_true, and_true, QD]
    all_goals first | rfl | exact ⟨rfl, rfl⟩ | (simp +decide only [if_true, if_false, *]; done) | (trace_state; fail)
  · try simp only [decide_eq_false_iff_not] at hb1
    have htl : text.length ≤ 2000 := by omega
    refine qZ ?_
    change Awp _ _ _ _ _ _ _
    refine awp_rseq [1, 2, 7] (by rfl) fun K hK => ?_
    simp +decide only [ev, putD, Slots.put, Slots.get, if_true, if_false, true_and, ↓qg, qd]
    refine Xp (by rfl) (by rfl) (c_Of w₀ _ v ps (hv.mono (by repeat (first | exact Sub.refl _ | assumption | refine Sub.set_both ?_ _ _ | refine Sub.trans_set ?_ (by repeat (first | assumption | refine (AHeap.set_ne _ _ (by first | assumption | exact Ne.symm (by assumption))).trans ?_))))) hpl hpn) fun x3q1 h3q1 hx3q1 => ?_
    obtain ⟨hof, hs3⟩ := hx3q1
    rw [← hl0] at hof
    have hll := hof.live
    have hln := tok_len hof
    have hs_h3q1 : Sub h h3q1 := Sub.trans (by repeat (first | exact Sub.refl _ | assumption | refine Sub.trans_set ?_ (by assumption))) hs3
    have hr_h3q1 := hs_h3q1
    simp +decide only [qa, ev, putD, Slots.put, Slots.get, Slots.keep, if_true, if_false, true_and, ↓qc, qb]
    apply hK; clear hK K
    refine qN ?_
    refine awp_rseq [1, 2, 7, 22] (by rfl) fun K hK => ?_
    simp +decide only [qa, ev, qK, qH, putD, Slots.put, Slots.get, Slots.keep, if_true, if_false, true_and, ↓qg, qd, ↓Xw, QH, ↓qw, qh, qz, cond_false, qm, pI_gtr, hln]
    apply hK; clear hK K
    refine awp_joinT [1, 2] (fun z : Unit => [(1, .str text), (2, .bool left)]) (fun z : Unit => h) (fun z : Unit => True) ?_ ?_
    · refine qM (b := _) rfl (fun hb2 => ?_) (fun hb2 => ?_)
      · try simp only [decide_eq_true_eq] at hb2
        have hlne : l ≠ [] := fun e => by rw [e] at hb2; simp at hb2
        obtain ⟨S1, w1, w2, w3, w4, t1, r1, w5, w6⟩ := laid_law a1 (by omega) hlne a3 left
        obtain ⟨A, hA⟩ : ∃ A, A = XP S1 false := ⟨_, rfl⟩
        rw [← hA] at w3 w4 w5
        have w7 : sameE A.1 l = true := sameE_kt w4
        have hA1 : A.1.length ≤ 65536 := by rw [hA]; exact (source_small S1 false).1
        refine awp_rseq [1, 2, 7, 8, 9] (by rfl) fun K hK => ?_
        simp +decide only [ev, putD, Slots.put, Slots.get, if_true, if_false, true_and, ↓qg, qd]
        refine qL (V := .str S1) (by rfl) (by rfl) (ACall.mono (c_Laid w₀ hm ht10 _ _ l (hof.mono (by repeat (first | exact Sub.refl _ | assumption | refine Sub.set_both ?_ _ _ | refine Sub.trans_set ?_ (by repeat (first | assumption | refine (AHeap.set_ne _ _ (by first | assumption | exact Ne.symm (by assumption))).trans ?_))))) a1 (by omega) a3 left) (fun r h' q => ⟨by rw [q.1, w1], q.2⟩)) ?_
        refine Xp (by rfl) (by rfl) (c_Source w₀ hm _ S1 false (by omega)) fun x5q3 h5q3 hx5q3 => ?_
        obtain ⟨tv5, hv5, ht5, hs5⟩ := hx5q3.toks (w₀ := w₀)
        obtain ⟨v5, hv5'⟩ : ∃ v, v = capL tv5 := ⟨_, rfl⟩
        rw [← hA, ← hv5'] at hv5 ht5
        rw [w3] at hv5
        have hl5 := ht5.live
        have hn5 := tok_len ht5
        rw [hv5]
        have hs_h5q3 : Sub h h5q3 := Sub.trans (by repeat (first | exact Sub.refl _ | assumption | refine Sub.trans_set ?_ (by assumption))) hs5
        have hr_h5q3 : Sub h3q1 h5q3 := Sub.trans (by repeat (first | exact Sub.refl _ | assumption | refine Sub.trans_set ?_ (by assumption))) hs5
        simp +decide only [ev, putD, Slots.put, Slots.get, if_true, if_false, true_and, ↓qg, qd, ↓QU, QB, QL, List.length_cons, List.length_nil, List.getD_cons_zero, List.getD_cons_succ, List.getD_cons_zero, List.getD_cons_succ, Nat.zero_add, Nat.reduceAdd, QE]
        refine Qh ze31 (cs := [.int .i64 0, .int .i64 0, .int .i64 0]) (by rfl) fun k5q7 hk5q7 => ?_
        have hn_5q7 : h5q3 k5q7 = none := by first | assumption | (simp only [AHeap.set_none] at hk5q7; simp only [hk5q7])
        have hf_5q7 : h k5q7 = none := Sub.none hs_h5q3 hn_5q7
        simp +decide only [ev, putD, Slots.put, Slots.get, if_true, if_false, true_and, ↓qc, qb]
        refine qp (by rfl) (by rfl) (by repeat (first | exact AHeap.set_same _ _ _ | assumption | refine (AHeap.set_ne _ _ (by first | assumption | exact Ne.symm (by assumption))).trans ?_)) QR (by rfl) (by rfl) (by first | exact Nat.le_refl _ | decide | (simp; done) | (simp; omega)) (Nat.zero_le _) (by rfl) ?_
        simp only [AHeap.set_set, AVal.cells]
        simp +decide only [qa, ev, putD, Slots.get, Slots.keep, if_true, if_false, setAt, List.set_cons_zero, List.set_cons_succ, Nat.zero_add, Nat.reduceAdd]
        apply hK; clear hK K
        clear hv5'
        obtain ⟨lc, o, cp, rfl⟩ := tok_open ht5 (by rw [w5]; simp)
        have hS5 : Sub h5q3 (h5q3.set k5q7 ⟨[.int .i64 okF.e, .int .i64 okF.line, .int .i64 okF.col], 0⟩) := Sub.set hn_5q7
        obtain ⟨_, _, _, _, e4⟩ := tok_at (ht5.mono hS5) (i := 0) (by rw [w5]; simp)
        have hleft : (A.1.getD 0 badT).left = left := by rw [w5]; exact w6
        have hA0 : (0 : Int) < (A.1.length : Int) := by rw [w5]; simp
        rw [hleft, Nat.zero_mul, Nat.add_zero] at e4
        refine awp_rseq [1, 2, 46] (by rfl) fun K hK => ?_
        simp +decide only [ev, qK, qH, putD, Slots.put, Slots.get, if_true, if_false, true_and, ↓qJ, Qb, qi XL QR, ↓Qo, ↓Qa, bld31_, evP, List.map_nil, ↓qw, qh, qP, cond_false, pBinX_agg, ne31, ↓qg, qd, ↓Xf, agP, Qm, qI, qG, qV, implies_true, decide_true, Bool.not_false, Bool.not_true, Qs, Bool.and_true, Xa, qf, List.getD_cons_zero, List.getD_cons_succ, Nat.zero_add, Nat.reduceAdd, qj, allLive, Bool.and_true]
        (refine aOps_yes (by rfl) ?_; refine qL (V := .bool true) (by rfl) (by rfl) (ACall.mono (c_Same w₀ _ _ _ A.1 l (ht5.mono (by repeat (first | exact Sub.refl _ | assumption | refine Sub.set_both ?_ _ _ | refine Sub.trans_set ?_ (by repeat (first | assumption | refine (AHeap.set_ne _ _ (by first | assumption | exact Ne.symm (by assumption))).trans ?_))))) ((hof.mono hr_h5q3).mono (by repeat (first | exact Sub.refl _ | assumption | refine Sub.set_both ?_ _ _ | refine Sub.trans_set ?_ (by repeat (first | assumption | refine (AHeap.set_ne _ _ (by first | assumption | exact Ne.symm (by assumption))).trans ?_))))) (by omega)) (fun r h' q => ⟨by rw [q.1, w7], q.2⟩)) ?_)
        simp +decide only [qa, ev, qK, qH, putD, Slots.put, Slots.get, Slots.keep, if_true, if_false, true_and, qI, qV, ↓ag_unOp, pop_unOp, agP, Qm, qG, implies_true, Bool.not_false, Bool.not_true, Qs, forall_const, Bool.and_true, Bool.false_or, pU_not, ↓QN, Qw, Qg, Xj, pickV_or, ↓qg, qd, ↓Xf, ↓ag_indexAddrL, XY, agL_mk, Qj Tryz.underlying25 Xi, ↓XE, qo, fa38_3, ↓Zm, qD ag4, ↓QW, qh, qP, cond_false, pBinX_bne, Tryz.underlying4, qC, Bool.and_true, e4, Int.toNat_zero, Nat.zero_mul, Nat.add_zero]
        repeat (with_reducible refine And.intro ?_ ?_; · first | trivial | omega | (intro hg; simp only [Bool.and_eq_true, Bool.or_eq_true, Bool.not_eq_true', Bool.and_eq_false_iff, Bool.or_eq_false_iff, Bool.not_eq_false', decide_eq_true_eq, decide_eq_false_iff_not, XI] at hg; omega) | (simp only [List.length_append, List.length_map, List.length_range, List.length_replicate, List.length_take, List.length_drop, List.length_cons, List.length_nil, List.length_set, List.length_reverse]; omega))
        apply hK; clear hK K
        refine qM (b := _) rfl (fun hb3 => ?_) (fun hb3 => ?_)
        · exact absurd hb3 (by cases left <;> decide)
        · try simp only [Bool.not_eq_false'] at hb3
          refine qZ ?_
          try simp only [qR]
          exact ⟨(), rfl, (by repeat (first | exact Sub.refl _ | assumption | refine Sub.set_both ?_ _ _ | refine Sub.trans_set ?_ (by repeat (first | assumption | refine (AHeap.set_ne _ _ (by first | assumption | exact Ne.symm (by assumption))).trans ?_)))), trivial⟩
      · try simp only [decide_eq_false_iff_not] at hb2
        refine qZ ?_
        try simp only [qR]
        exact ⟨(), rfl, (by repeat (first | exact Sub.refl _ | assumption | refine Sub.set_both ?_ _ _ | refine Sub.trans_set ?_ (by repeat (first | assumption | refine (AHeap.set_ne _ _ (by first | assumption | exact Ne.symm (by assumption))).trans ?_)))), trivial⟩
    · intro g hg
      skip
      refine awp_rseq [2, 10, 11] (by rfl) fun K hK => ?_
      simp +decide only [ev, putD, Slots.put, Slots.get, if_true, if_false, true_and, ↓qg, qd]
      refine Xp (by rfl) (by rfl) (c_Source w₀ hm _ text false hl) fun x8q1 h8q1 hx8q1 => ?_
      obtain ⟨tv8, hv8, ht8, hs8⟩ := hx8q1.toks (w₀ := w₀)
      obtain ⟨v8, hv8'⟩ : ∃ v, v = capL tv8 := ⟨_, rfl⟩
      rw [← hK0, ← hv8'] at hv8 ht8
      have hl8 := ht8.live
      have hn8 := tok_len ht8
      rw [hv8]
      have hs_h8q1 : Sub h h8q1 := Sub.trans (by repeat (first | exact Sub.refl _ | assumption | refine Sub.trans_set ?_ (by assumption))) hs8
      have hr_h8q1 := hs_h8q1
      simp +decide only [ev, putD, Slots.put, Slots.get, if_true, if_false, true_and, ↓qg, qd, ↓QU, QB, QL, List.length_cons, List.length_nil, List.getD_cons_zero, List.getD_cons_succ, List.getD_cons_zero, List.getD_cons_succ, Nat.zero_add, Nat.reduceAdd, QE]
      refine Qh ze31 (cs := [.int .i64 0, .int .i64 0, .int .i64 0]) (by rfl) fun k8q5 hk8q5 => ?_
      have hn_8q5 : h8q1 k8q5 = none := by first | assumption | (simp only [AHeap.set_none] at hk8q5; simp only [hk8q5])
      have hf_8q5 : h k8q5 = none := Sub.none hs_h8q1 hn_8q5
      simp +decide only [ev, putD, Slots.put, Slots.get, if_true, if_false, true_and, ↓qc, qb]
      refine qp (by rfl) (by rfl) (by repeat (first | exact AHeap.set_same _ _ _ | assumption | refine (AHeap.set_ne _ _ (by first | assumption | exact Ne.symm (by assumption))).trans ?_)) QR (by rfl) (by rfl) (by first | exact Nat.le_refl _ | decide | (simp; done) | (simp; omega)) (Nat.zero_le _) (by rfl) ?_
      simp only [AHeap.set_set, AVal.cells]
      simp +decide only [qa, ev, putD, Slots.get, Slots.keep, if_true, if_false, setAt, List.set_cons_zero, List.set_cons_succ, Nat.zero_add, Nat.reduceAdd]
      apply hK; clear hK K
      refine qN ?_
      refine awp_rseq [2, 10, 59] (by rfl) fun K hK => ?_
      simp +decide only [qa, ev, qK, qH, putD, Slots.put, Slots.get, Slots.keep, if_true, if_false, true_and, ↓qJ, Qb, qi XL QR, ↓Qo, ↓Qa, bld31_, evP, List.map_nil, ↓qw, qh, qP, cond_false, pBinX_agg, ne31, ↓qg, qd, ↓Xf, agP, Qm, qI, qG, qV, implies_true, Bool.not_not, Bool.and_true, ↓ag_len, QH, cv_len, cp_len, ↓QW, qz, XR, XT, qm, Xo, ↓QN, Qw, Qg, pickV_cond_rn, pickV_or, Xa, qf, List.getD_cons_zero, List.getD_cons_succ, Nat.zero_add, Nat.reduceAdd, qj, allLive, Bool.and_true, hn8, faultA_eq]
      apply hK; clear hK K
      refine qM (b := _) rfl (fun hb4 => ?_) (fun hb4 => ?_)
      · try simp only [decide_eq_true_eq, decide_eq_false_iff_not, Bool.not_eq_true', Bool.or_eq_true] at hb4
        refine awp_rseq [6] (by rfl) fun K hK => ?_
        refine qL (V := .bool true) (by rfl) (by rfl) (c_lives03 w₀ hm _) ?_
        simp +decide only [qa, ev, putD, Slots.put, Slots.get, Slots.keep, if_true, if_false, true_and, ↓qc, qb]
        apply hK; clear hK K
        refine qU ?_
        try simp only [Ql]
        refine qO h (by repeat (first | exact Sub.refl _ | assumption | refine Sub.trans_set ?_ (by assumption))) (Qd (Qe)) ?_
        simp +decide only [Slots.get, if_true, and_true, QD]
        all_goals first | rfl | exact ⟨rfl, rfl⟩ | (simp +decide only [if_true, if_false, *]; done) | (trace_state; fail)
      · try simp only [decide_eq_true_eq, decide_eq_false_iff_not, Bool.not_eq_false', Bool.or_eq_false_iff] at hb4
        have hKe : KS.2 = okF := hb4.1
        have hKne : KS.1 ≠ [] := fun e => by rw [e] at hb4; simp at hb4
        obtain ⟨S2, w1, w2, w3, w4, t1, r1, w5, w6⟩ := laid_law b1 b3 hKne (by omega) left
        obtain ⟨A, hA⟩ : ∃ A, A = XP S2 false := ⟨_, rfl⟩
        rw [← hA] at w3 w4 w5
        have w7 : sameE A.1 KS.1 = true := sameE_kt w4
        have w8 : A.1.length = KS.1.length := by have := congrArg List.length w4; simpa using this
        refine qZ ?_
        change Awp _ _ _ _ _ _ _
        refine awp_rseq [10, 12, 13] (by rfl) fun K hK => ?_
        simp +decide only [ev, putD, Slots.put, Slots.get, if_true, if_false, true_and, ↓qg, qd]
        refine qL (V := .str S2) (by rfl) (by rfl) (ACall.mono (c_Laid w₀ hm ht10 _ _ KS.1 (ht8.mono (by repeat (first | exact Sub.refl _ | assumption | refine Sub.set_both ?_ _ _ | refine Sub.trans_set ?_ (by repeat (first | assumption | refine (AHeap.set_ne _ _ (by first | assumption | exact Ne.symm (by assumption))).trans ?_))))) b1 b3 (by omega) left) (fun r h' q => ⟨by rw [q.1, w1], q.2⟩)) ?_
        refine Xp (by rfl) (by rfl) (c_Source w₀ hm _ S2 false (by omega)) fun x11q3 h11q3 hx11q3 => ?_
        obtain ⟨tv11, hv11, ht11, hs11⟩ := hx11q3.toks (w₀ := w₀)
        rw [← hA] at hv11 ht11
        rw [w3] at hv11
        have hl11 := ht11.live
        have hn11 := tok_len ht11
        rw [w8] at hn11
        rw [hv11]
        have hs_h11q3 : Sub h h11q3 := Sub.trans (by repeat (first | exact Sub.refl _ | assumption | refine Sub.trans_set ?_ (by assumption))) hs11
        have hr_h11q3 : Sub h8q1 h11q3 := Sub.trans (by repeat (first | exact Sub.refl _ | assumption | refine Sub.trans_set ?_ (by assumption))) hs11
        have eb_8q5 := hs11 k8q5 _ (by repeat (first | exact AHeap.set_same _ _ _ | assumption | refine (AHeap.set_ne _ _ (by first | assumption | exact Ne.symm (by assumption))).trans ?_))
        simp +decide only [ev, putD, Slots.put, Slots.get, if_true, if_false, true_and, ↓qg, qd, ↓QU, QB, QL, List.length_cons, List.length_nil, List.getD_cons_zero, List.getD_cons_succ, List.getD_cons_zero, List.getD_cons_succ, Nat.zero_add, Nat.reduceAdd, QE]
        refine Qh ze31 (cs := [.int .i64 0, .int .i64 0, .int .i64 0]) (by rfl) fun k11q7 hk11q7 => ?_
        have hn_11q7 : h11q3 k11q7 = none := by first | assumption | (simp only [AHeap.set_none] at hk11q7; simp only [hk11q7])
        have hf_11q7 : h k11q7 = none := Sub.none hs_h11q3 hn_11q7
        have ne_11q7_8q5 : k11q7 ≠ k8q5 := AHeap.ne_some hn_11q7 eb_8q5
        simp +decide only [ev, putD, Slots.put, Slots.get, if_true, if_false, true_and, ↓qc, qb]
        refine qp (by rfl) (by rfl) (by repeat (first | exact AHeap.set_same _ _ _ | assumption | refine (AHeap.set_ne _ _ (by first | assumption | exact Ne.symm (by assumption))).trans ?_)) QR (by rfl) (by rfl) (by first | exact Nat.le_refl _ | decide | (simp; done) | (simp; omega)) (Nat.zero_le _) (by rfl) ?_
        simp only [AHeap.set_set, AVal.cells]
        simp +decide only [qa, ev, putD, Slots.get, Slots.keep, if_true, if_false, setAt, List.set_cons_zero, List.set_cons_succ, Nat.zero_add, Nat.reduceAdd]
        apply hK; clear hK K
        refine awp_rseq [6] (by rfl) fun K hK => ?_
        simp +decide only [ev, qK, qH, putD, Slots.put, Slots.get, if_true, if_false, true_and, ↓qJ, Qb, qi XL QR, ↓Qo, ↓Qa, bld31_, evP, List.map_nil, ↓qw, qh, qP, cond_false, pBinX_agg, eq31, ↓qg, qd, ↓Xf, agP, Qm, qI, qG, qy, implies_true, decide_true, Qs, Bool.and_true, Xa, qf, List.getD_cons_zero, List.getD_cons_succ, Nat.zero_add, Nat.reduceAdd, qj, allLive, Bool.and_true]
        (refine aOps_yes (by rfl) ?_; refine qL (V := .bool true) (by rfl) (by rfl) (ACall.mono (c_Same w₀ _ _ _ A.1 KS.1 (ht11.mono (by repeat (first | exact Sub.refl _ | assumption | refine Sub.set_both ?_ _ _ | refine Sub.trans_set ?_ (by repeat (first | assumption | refine (AHeap.set_ne _ _ (by first | assumption | exact Ne.symm (by assumption))).trans ?_))))) ((ht8.mono hr_h11q3).mono (by repeat (first | exact Sub.refl _ | assumption | refine Sub.set_both ?_ _ _ | refine Sub.trans_set ?_ (by repeat (first | assumption | refine (AHeap.set_ne _ _ (by first | assumption | exact Ne.symm (by assumption))).trans ?_))))) (by omega)) (fun r h' q => ⟨by rw [q.1, w7], q.2⟩)) ?_)
        simp +decide only [ev, qK, qH, putD, Slots.put, Slots.get, if_true, if_false, true_and, qI, qy, ↓QN, Qw, Qg, Xj, ↓qg, qd, ↓Xf, agP, Qm, qG, implies_true, decide_true, Qs, Bool.and_true, ↓ag_len, QH, ↓QW, qh, qP, cond_false, qm, Xo, Bool.and_true, hn8, hn11]
        (refine aOps_yes (by rfl) ?_; refine qL (V := .bool true) (by rfl) (by rfl) (c_lives03 w₀ hm _) ?_)
        simp +decide only [qa, ev, qK, qH, putD, Slots.put, Slots.get, Slots.keep, if_true, if_false, true_and, ↓QN, Qw, Qg, Xj, ↓qc, qb, Bool.and_true]
        apply hK; clear hK K
        refine qU ?_
        refine qO h (by repeat (first | exact Sub.refl _ | assumption | refine Sub.trans_set ?_ (by assumption))) (Qd (Qe)) ?_
        simp +decide only [Slots.get, if_true, and_true, QD]
        skip
end Go.Proofs.YtmadddihphkmoaaGreatDoor

/-
  The arguments of the statements, opened: booleans, texts, integers, pairs of bytes; the wrap that hands on the world's shape.
  Conditions: none.
-/
namespace Go.Proofs.YtmadddihphkmoaaGreatDoor
open Go.AM
open Go.ChangeShapes Go.WideShapes Go.ChangeAt Go.RowKit
set_option maxRecDepth 100000

section
variable {H : Type} {enc : TypeId × Value → H} {W : World} {base : Nat} {v : Value} {x : DataW H × List MemPlace}
theorem u8_of {n : Int} (h : (Lit.int .u8 n).wf = true) : ∃ b : UInt8, (b.toNat : Int) = n := by
  have := wf_u8 h
  exact ⟨UInt8.ofNat n.toNat, by rw [UInt8.toNat_ofNat']; omega⟩

theorem arg_bool {t : TypeId} (ht : Tryz.prog.underlying t = some .bool) (hv : Value.okWide Tryz.prog W .any base t v) : ∃ b : Bool, VR (fun _ => none) (.bool b) v := by
  obtain ⟨b, rfl⟩ := okWide_bool ht hv
  exact ⟨b, by simp only [VR]⟩
theorem arg_str {t : TypeId} (ht : Tryz.prog.underlying t = some .string) (h : ∃ fuel, DataW.trod enc Tryz.prog W 0 (fun _ => true) true fuel t v.cells.toList = some x) (hv : Value.okWide Tryz.prog W .any base t v) :
    ∃ s : List UInt8, VR (fun _ => none) (.str s) v ∧ s.length ≤ 9223372036854775807 := by
  obtain ⟨fuel, hf⟩ := h
  obtain ⟨s, rfl⟩ := okWide_string ht hv
  obtain ⟨s', h, hx, hs⟩ := DataW.trod_string ht hf
  simp [Value.cells] at h
  subst h
  exact ⟨s.data.toList, VR_strArg _ s, str_le hs⟩
end

/-- The plain wrap of a row with listed variables, the world's shape handed on. -/
theorem returns_and_shaped {H : Type} {enc : TypeId × Value → H} {a : Assume} {C : Checked} {os : Os} {f : FuncId} {fn : Func} {s : ChangeSpec} {conds : List PathCond} {apart fresh handsOn again : Bool} {X : World → Array Value → Prop}
    (hX : ∀ (w w' : World) (args : Array Value), w.heap = w'.heap → X w args → X w' args)
    (own : ownKnob C.prog.godebug = none) (started : os.Started) (noInit : C.prog.inits.idxOf? f = none) (hfn : C.prog.funcs[f]? = some fn)
    (witness : ∃ (w : World) (tape : Tape) (i : Input), w.os = os ∧ (w.forCall tape i).Shaped C.prog ∧ i.vars = [] ∧ Input.okWide C.prog (w.forCall tape i) .any w.heap.size f i ∧
      ((s.pre enc C.prog fn conds apart (w.forCall tape i).memory i.args ∧ X (w.forCall tape i).memory i.args) ∧ sizedMet enc C.prog fn (OpenSpec.ofChange s) apart (w.forCall tape i).memory i.args) ∧ a.holds C.prog (lone (Frame.enter C.prog f i.args .normal) [] (w.forCall tape i)))
    (contract : ∀ (W : World) (base : Nat) (args : Array Value) (ds gs : List (DataW H)) (before : List MemPlace), W.ShapedOpen C.prog →
      (∀ (j : Nat) t v, fn.params[j]? = some t → args[j]? = some v → Value.okWide C.prog W .any base t v) →
      DataW.Whole enc C.prog fn.params.toList s.vars apart W args.toList ds gs before →
      conds.all (PathCond.test C.prog ⟨fn.params.toList, ds, s.plain.varTypes C.prog, gs⟩) = true →
      (DataW.weightsEach C.prog (fn.params.toList ++ s.plain.varTypes C.prog) (ds ++ gs)).all (· ≤ reachBytes) = true → X W args →
      a.holds C.prog (lone (Frame.enter C.prog f args .normal) [] W) →
      Calls C.prog f args W fun e W' => ∃ v, e = .returned v ∧ s.post enc C.prog fn apart fresh handsOn again W args v W') :
    ReturnsInHanded a C os f .any (fun w args => (s.pre enc C.prog fn conds apart w args ∧ X w args) ∧ sizedMet enc C.prog fn (OpenSpec.ofChange s) apart w args) (s.post enc C.prog fn apart fresh handsOn again) := by
  refine returnsInHanded_of_calls own started noInit witness ?_
  intro w tape i _ hsh _ hok hpre hholds
  obtain ⟨_, _, _, fn', hfn', _, _, _, _, hval⟩ := hok
  have e : fn' = fn := Option.some.inj (hfn'.symm.trans hfn)
  subst e
  obtain ⟨⟨⟨ds, gs, before, hw, hc⟩, hx⟩, hz⟩ := hpre
  have hw' := DataW.Whole.of_heap (w' := w.forCall tape i) (by rfl) hw
  refine (contract (w.forCall tape i) w.heap.size i.args ds gs before hsh hval hw' hc (hz.weights hw) (hX _ _ _ (by rfl) hx) hholds).mono fun e W' ⟨v, he, hp⟩ => ?_
  subst he
  exact ChangeSpec.post_blind hp
end Go.Proofs.YtmadddihphkmoaaGreatDoor

/-
  What the world of a statement about columns gives: the listed table, the cell of the longest text.
  Conditions: none.
-/
namespace Go.Proofs.YtmadddihphkmoaaGreatDoor
open Go.AM
open Go.ChangeShapes Go.WideShapes Go.ChangeAt Go.RowKit
set_option maxRecDepth 100000
/-- The listed table of powers of ten. -/
theorem tab_of {W : World} {rest : List (String × DataW Unit)} (h : laidMet Tryz.prog (("internal/strconv.uint64pow10", Rows.laid_internal_strconv_uint64pow10) :: rest) W) : Tab10 W :=
  Lib.tabIs_of_head (g := 3) (by kernel_rfl) (by kernel_rfl) (show Tryz.prog.underlying 181 = _ from Tryz.underlying181) Tryz.underlying128 (by kernel_rfl) (by kernel_rfl) h
theorem maxl_of {W : World} (h : W.ShapedOpen Tryz.prog) : MaxL W :=
  cell_of_shapedOpen_int (t := 3) (zero := #[.int .i64 0]) h (of_decide_eq_true (by kernel_rfl)) (by kernel_rfl) rfl (by kernel_rfl) (by kernel_rfl) Tryz.underlying3
end Go.Proofs.YtmadddihphkmoaaGreatDoor

/-
  The arguments of the statements, opened: tokens as plain data.
  Conditions: none.
-/
namespace Go.Proofs.YtmadddihphkmoaaGreatDoor
open Go.AM
open Go.Col
open Go.Tok
open Go.ChangeShapes Go.WideShapes Go.ChangeAt Go.RowKit
set_option maxRecDepth 100000

section
variable {H : Type} {enc : TypeId × Value → H} {W : World} {base : Nat} {v : Value} {x : DataW H × List MemPlace}

def pieceVs (m : UInt8 × Nat) : List Value := [.int .u8 m.1.toNat, .int .u16 m.2]
theorem pieceC_wide {l : List (UInt8 × Nat)} : ∀ x ∈ l.map pieceC, x.length = 2 := fun x hx => by obtain ⟨y, _, rfl⟩ := List.mem_map.1 hx; rfl
theorem wf_u16 {n : Int} (h : (Lit.int .u16 n).wf = true) : 0 ≤ n ∧ n ≤ 65535 := by
  have e1 : IntKind.u16.min = 0 := by decide
  have e2 : IntKind.u16.max = 65535 := by decide
  simpa [Lit.wf, e1, e2] using h
theorem piece_cells {n : Nat} {cs : List Value} {y : DataW H × List MemPlace} (h : DataW.trod enc Tryz.prog W 0 (fun _ => true) true n 67 cs = some y) :
    ∃ m : UInt8 × Nat, cs = pieceVs m ∧ m.2 ≤ 65535 := by
  obtain ⟨y0, y1, n', _, hl, h0, h1⟩ := trod_struct2 Tryz.underlying67 h
  rw [show Tryz.prog.cellsOf 67 = 2 by kernel_rfl] at hl
  match cs, hl with
  | [c0, c1], _ =>
    simp only [show Tryz.prog.cellsOf 5 = 1 by kernel_rfl, show Tryz.prog.cellsOf 65 = 1 by kernel_rfl, List.drop_zero, List.drop_succ_cons, List.take_succ_cons, List.take_zero] at h0 h1
    obtain ⟨a, e0, _, ha⟩ := DataW.trod_int Tryz.underlying5 h0
    obtain ⟨b, e1, _, hb⟩ := DataW.trod_int Tryz.underlying65 h1
    simp only [List.cons.injEq, and_true] at e0 e1
    subst e0 e1
    obtain ⟨a', rfl⟩ := u8_of ha
    obtain ⟨b0, b1⟩ := wf_u16 hb
    refine ⟨(a', b.toNat), ?_, by simp only; omega⟩
    unfold pieceVs
    rw [show ((b.toNat : Nat) : Int) = b by omega]
theorem pieces_row {a : Addr} {len : Nat} (h : ∀ i, i < len → ∃ m : (UInt8 × Nat), m.2 ≤ 65535 ∧ ∀ j, j < 2 → W.cell? (a.add (i * 2 + j)) = (pieceVs m)[j]?) :
    ∃ ms : List (UInt8 × Nat), ms.length = len ∧ (∀ m ∈ ms, m.2 ≤ 65535) ∧ ∀ i, i < len → ∀ j, j < 2 → W.cell? (a.add (i * 2 + j)) = (pieceVs (ms.getD i (0, 0)))[j]? := by
  induction len with
  | zero => exact ⟨[], rfl, by simp, fun i hi => by omega⟩
  | succ n ih =>
    obtain ⟨ms, h1, h3, h2⟩ := ih fun i hi => h i (by omega)
    obtain ⟨m, hm3, hm⟩ := h n (by omega)
    refine ⟨ms ++ [m], by simp [h1], ?_, fun i hi j hj => ?_⟩
    · intro x hx
      rw [List.mem_append, List.mem_singleton] at hx
      rcases hx with hx | rfl
      · exact h3 x hx
      · exact hm3
    by_cases hin : i < n
    · have : (ms ++ [m]).getD i (0, 0) = ms.getD i (0, 0) := by simp only [List.getD, List.getElem?_append_left (show i < ms.length by omega)]
      rw [this]
      exact h2 i hin j hj
    · have hin' : i = n := by omega
      subst hin'
      have : (ms ++ [m]).getD i (0, 0) = m := by simp [List.getD, h1]
      rw [this]
      exact hm j hj
theorem isL_pieces {w : World} {b o len cap : Nat} {ms : List (UInt8 × Nat)} (h1 : ms.length = len) (hcap : len ≤ cap) (h2 : ∀ i, i < len → ∀ j, j < 2 → w.cell? ((⟨b, o, none⟩ : Addr).add (i * 2 + j)) = (pieceVs (ms.getD i (0, 0)))[j]?) :
    IsL w (fun _ => none) 2 (.slice (.base b) o len (.exact cap)) (ms.map pieceC) := by
  refine .mk _ _ _ _ _ (by rw [List.length_map, h1]) pieceC_wide ?_ (allLive_flatten.2 fun x hx => by obtain ⟨y, _, rfl⟩ := List.mem_map.1 hx; rfl) hcap
  apply List.ext_getElem?
  intro q
  by_cases hq : q < len * 2
  · rw [cellsAt_get _ _ _ _ _ _ hq]
    obtain ⟨i, hi⟩ : ∃ i, i = q / 2 := ⟨_, rfl⟩
    obtain ⟨j, hj⟩ : ∃ j, j = q % 2 := ⟨_, rfl⟩
    have hqe : q = i * 2 + j := by omega
    have hi' : i < len := by omega
    have hj' : j < 2 := by omega
    have hcell := h2 i hi' j hj'
    have ea : (⟨b, o, none⟩ : Addr).add (i * 2 + j) = ⟨b, o + (i * 2 + j), none⟩ := by by_cases e : i * 2 + j = 0 <;> simp [Addr.add, e] <;> omega
    rw [ea] at hcell
    rw [hqe, flatten_get pieceC_wide (by rw [List.length_map]; omega) hj', getD_map (0, 0) (by omega)]
    have fin : ∀ z : Value, w.cell? ⟨b, o + (i * 2 + j), none⟩ = some z → AM.rd w (fun _ => none) (.base b) (o + (i * 2 + j)) = qH z := fun z hz => by
      have hlt : b < w.heap.size := cell_lt hz
      simp only [AM.rd, hlt, if_true, hz]
    match j, hj' with
    | 0, _ => rw [fin _ hcell]; rfl
    | 1, _ => rw [fin _ hcell]; rfl
  · rw [List.getElem?_eq_none (by rw [cellsAt_length]; omega), List.getElem?_eq_none (by rw [flatten_len pieceC_wide, List.length_map, h1]; omega)]
theorem arg_S (h : ∃ fuel, DataW.trod enc Tryz.prog W 0 (fun _ => true) true fuel 23 v.cells.toList = some x) (hv : Value.okWide Tryz.prog W .any base 23 v) :
    ∃ (l : List (UInt8 × Nat)) (y : AVal), VR (fun _ => none) y v ∧ IsL W (fun _ => none) 2 y (l.map pieceC) ∧ l.length ≤ 9223372036854775807 ∧ ∀ t ∈ l, t.2 ≤ 65535 := by
  obtain ⟨fuel, h2⟩ := h
  obtain ⟨a0, len0, cap0, rfl⟩ := okWide_slice Tryz.underlying23 hv
  have h2' : DataW.trod enc Tryz.prog W 0 (fun _ => true) true fuel 23 [.slice a0 len0 cap0] = some x := h2
  have fin : ∀ (y : AVal) (ms : List (UInt8 × Nat)), VR (fun _ => none) y (.slice a0 len0 cap0) → IsL W (fun _ => none) 2 y (ms.map pieceC) → ms.length ≤ 9223372036854775807 → (∀ m ∈ ms, m.2 ≤ 65535) → ∃ (l : List (UInt8 × Nat)) (y : AVal), VR (fun _ => none) y (.slice a0 len0 cap0) ∧ IsL W (fun _ => none) 2 y (l.map pieceC) ∧ l.length ≤ 9223372036854775807 ∧ ∀ t ∈ l, t.2 ≤ 65535 :=
    fun y ms q1 q2 q3 q4 => ⟨ms, y, q1, q2, q3, q4⟩
  rcases DataW.trod_slice Tryz.underlying23 h2' with ⟨hcs, _⟩ | ⟨a, len, cap, elems, rest, n', _, hcs, _, _, hlc, hcm, hel, hcell, hspare, _⟩
  · simp only [List.cons.injEq, and_true] at hcs
    rw [hcs] at fin ⊢
    exact fin .nilSlice [] (by simp [VR]) .nil (by simp) (by simp)
  · simp only [List.cons.injEq, and_true] at hcs
    rw [hcs] at fin ⊢
    have hlen : len ≤ 9223372036854775807 := Nat.le_trans hlc hcm
    obtain ⟨ms, m1, m3, m2⟩ := pieces_row (W := W) (a := a) (len := len) fun i hi => by
      have he := hcell i hi
      rw [List.getElem?_eq_getElem (by omega), Option.bind_eq_some_iff] at he
      obtain ⟨cs', hcs', hy⟩ := he
      obtain ⟨m, rfl, hmt⟩ := piece_cells hy
      rw [show Tryz.prog.cellsOf 67 = 2 by kernel_rfl] at hcs'
      refine ⟨m, hmt, fun j hj => ?_⟩
      have := (World.cells?_some hcs').2.2 j hj
      rw [← this]
      congr 1
      obtain ⟨ab, ao, asp⟩ := a
      by_cases e1 : i * 2 = 0 <;> by_cases e2 : j = 0 <;> simp [Addr.add, e1, e2, Nat.add_assoc]
    obtain ⟨ab, ao, asp⟩ := a
    rcases Nat.eq_zero_or_pos len with e | e
    · have hms : ms = [] := List.eq_nil_of_length_eq_zero (by omega)
      subst hms
      subst e
      refine fin (.slice (.base ab) ao 0 (.exact cap)) [] ?_ (isL_pieces rfl (Nat.zero_le _) fun i hi => by omega) (by simp) (by simp)
      simp only [VR]
      refine ⟨_, rfl, fun hc => ?_⟩
      have hc : 0 < cap := by omega
      obtain ⟨r1, r2⟩ := hspare rfl
      have hr := r2 0 (by omega)
      rw [List.getElem?_eq_getElem (by omega), Option.bind_eq_some_iff] at hr
      obtain ⟨cs', hcs', hy⟩ := hr
      obtain ⟨m, rfl, hmt⟩ := piece_cells hy
      rw [show Tryz.prog.cellsOf 67 = 2 by kernel_rfl] at hcs'
      have h3 := (World.cells?_some hcs').2.2 0 (by omega)
      have := World.cell?_spot (h3.trans rfl)
      simp only [Addr.add] at this
      simp at this
      subst this
      rfl
    · have hs : asp = none := by
        have := World.cell?_spot (m2 0 (by omega) 0 (by omega))
        simpa [Addr.add] using this
      subst hs
      refine fin (.slice (.base ab) ao len (.exact cap)) ms ?_ (isL_pieces m1 hlc m2) (by omega) m3
      simp only [VR]
      exact ⟨_, rfl, fun _ => rfl⟩
end
end Go.Proofs.YtmadddihphkmoaaGreatDoor

