/-
  Texts of this proof, joined: LnJ, LwO, LwP, LwQ.
  Conditions: none.
-/
import Derived.Test.YthiiakghjoeikaaGreatDoorQf
import Derived.Test.YthiiakghjoeikaaGreatDoorQc
import Derived.Test.YthiiakghjoeikaaGreatDoorRows
import Derived.WalkKit
import Derived.ProofKit
import Derived.OpenShut
import Derived.ShutString
import Derived.ChangeOld
import Derived.Below
import Derived.Deep.Strs
import Derived.Lib.LaidTab
import Derived.MakeChecks
import Derived.Test.YthiiakghjoeikaaGreatDoorQd
import Derived.Stop.LaidErr
import Derived.FnData
set_option linter.unusedSimpArgs false
set_option linter.unnecessarySimpa false
set_option linter.unusedVariables false
/-
  The statement DecimalsQuotients, walked.
  Conditions: none.
-/
namespace Go.Proofs.YthiiakghjoeikaaGreatDoor
open Go.AM
open Go.Proofs
open Go.Dec
open Go.Lib (decDigits)
set_option maxRecDepth 100000

theorem HoldsZ.src {h : AHeap} {w₀ : World} {z : AVal} {zs : List Int} (hz : HoldsZ h z zs) : srcLen z = some zs.length ∧ srcPre w₀ h 1 zs.length z ∧ srcCells w₀ h 1 zs.length z = intCells zs := by
  rcases hz with ⟨rfl, rfl⟩ | ⟨k, c, rfl, hk⟩
  · exact ⟨rfl, trivial, rfl⟩
  · have e : cellsAt w₀ h (.own k) 0 (zs.length * 1) = intCells zs := by
      rw [cellsAt_own hk 0 _ (by simp [intCells_length]), List.drop_zero, List.take_of_length_le (by simp [intCells_length])]
    refine ⟨rfl, ?_, e⟩
    show allLive (cellsAt w₀ h (.own k) 0 (zs.length * 1)) = true
    rw [e]
    exact allLive_intCells zs
/-- A number ahead of a row of numbers. -/
theorem aOps_consInts {w₀ : World} {ops rest : List Oper} {s : Slots} {h : AHeap} {K : Slots → AHeap → Prop} {dst : Option Tmp} {ty : TypeId} {pos : String} {af : Array Edge} {x y : Operand} {kb : Nat} {v : AVal} {zs : List Int} {z : Int}
    (hx : ev s x = .slice (.own kb) 0 1 (.exact 1)) (hkb : h kb = some ⟨intCells [z], 0⟩) (hy : ev s y = v) (hz : HoldsZ h v zs) (hl : zs.length ≤ 100000)
    (hk : ∀ z' h', HoldsZ h' z' (z :: zs) → Sub h h' → aOps Tryz.prog w₀ ops rest (putD s dst z') h' K) :
    aOps Tryz.prog w₀ ops (⟨dst, .call ⟨.builtin .append, [x, y].toArray, [38, 38].toArray⟩, ty, pos, af, none⟩ :: rest) s h K := by
  obtain ⟨s1, s2, s3⟩ := hz.src (w₀ := w₀)
  have e1 : cellsAt w₀ h (.own kb) 0 (1 * 1) = intCells [z] := by
    rw [cellsAt_own hkb 0 1 (by simp [intCells])]
    rfl
  rw [aOps_e]
  have t0 : ([38, 38].toArray)[0]? = some 38 := rfl
  have t1 : ([38, 38].toArray)[1]? = some 38 := rfl
  simp only [eop, evs, List.map_cons, List.map_nil, hx, hy, eAppend, t0, t1, Tryz.underlying38, sz3, by3, ze3, s1]
  refine ⟨fun k e => (by cases e), ⟨by decide, rfl⟩, s2, fun hle => ?_, fun hlt => ⟨⟨by rw [e1]; rfl, by omega, by omega⟩, fun k hk0 _ => ?_⟩⟩
  · have h0 : zs.length = 0 := by omega
    refine .inl ⟨h0, hk _ h (.inr ⟨kb, .exact 1, ?_, ?_⟩) (Sub.refl _)⟩
    · rw [List.length_eq_zero_iff.1 h0]; rfl
    · rw [List.length_eq_zero_iff.1 h0]; exact hkb
  · rw [e1, s3]
    refine hk _ _ (.inr ⟨k, .grow 1, ?_, ?_⟩) (Sub.set hk0)
    · rw [List.length_cons, Nat.add_comm]
    · exact AHeap.set_same _ _ _
theorem quo_lt {x y : D} (xv : checkE x = 0) (yv : checkE y = 0) (hy : natOf y.dig ≠ 0) (hl : 62 < long (canon (x.neg != y.neg) (quoN x y) 30)) : 62 < long x + long y + 30 := by
  obtain ⟨sx, dx, _, _⟩ := Small_of_check xv
  obtain ⟨sy, dy, _, _⟩ := Small_of_check yv
  have x0 := sx.s0
  have y0 := sy.s0
  have hlx : (x.dig.length : Int) ≤ long x ∧ x.scale ≤ long x := ⟨by unfold long; omega, by unfold long; omega⟩
  have hly : (y.dig.length : Int) ≤ long y ∧ y.scale ≤ long y := ⟨by unfold long; omega, by unfold long; omega⟩
  refine Classical.byContradiction fun hn => ?_
  have hq : quoN x y < 10 ^ 62 := by
    refine Nat.lt_of_le_of_lt (Nat.div_le_self _ _) ?_
    refine Nat.lt_of_lt_of_le (Nat.mul_lt_mul_of_pos_right (natOf_lt _ dx) (Nat.pow_pos (by decide))) ?_
    rw [← Nat.pow_add]
    exact Nat.pow_le_pow_right (by decide) (by omega)
  have := long_canon (x.neg != y.neg) (quoN x y) 30 hq (by decide)
  omega
/-- The quotient's place between two multiples, all at the scale S. -/
theorem quo_law {x y : D} (x0 : 0 ≤ x.scale) (y0 : 0 ≤ y.scale) (hy : natOf y.dig ≠ 0) {S : Int} (hx : x.scale ≤ S) (hs : 30 + y.scale ≤ S) (hm : S = x.scale ∨ S = 30 + y.scale) :
    quoN x y * natOf y.dig * 10 ^ (S - (30 + y.scale)).toNat ≤ natOf x.dig * 10 ^ (S - x.scale).toNat ∧ natOf x.dig * 10 ^ (S - x.scale).toNat < quoN x y * natOf y.dig * 10 ^ (S - (30 + y.scale)).toNat + natOf y.dig * 10 ^ (S - (30 + y.scale)).toNat := by
  have e1 : (30 - x.scale + y.scale).toNat = (S - x.scale).toNat := by omega
  have e2 : (-(30 - x.scale + y.scale)).toNat = (S - (30 + y.scale)).toNat := by omega
  unfold quoN
  rw [e1, e2]
  generalize natOf x.dig * 10 ^ (S - x.scale).toNat = A
  have hB : 0 < natOf y.dig * 10 ^ (S - (30 + y.scale)).toNat := Nat.mul_pos (Nat.pos_of_ne_zero hy) (Nat.pow_pos (by decide))
  rw [Nat.mul_assoc]
  generalize natOf y.dig * 10 ^ (S - (30 + y.scale)).toNat = B at hB
  have h1 := Nat.div_add_mod A B
  have h2 := Nat.mod_lt A hB
  rw [Nat.mul_comm] at h1
  omega
theorem HoldsZ.cells {h : AHeap} {z : AVal} {zs : List Int} (hz : HoldsZ h z zs) : z.cells = [z] := by
  rcases hz with ⟨rfl, rfl⟩ | ⟨k, c, rfl, _⟩ <;> rfl
theorem sgV_eq {n : Bool} {a s : Int} (h : sgV n a = s) (ha : 0 ≤ a) (hs : 0 ≤ s) : a = s := by
  unfold sgV at h
  split at h <;> omega
structure QuoG where
  j : Nat
  zm : AVal
  om : List Int
  zs : AVal
  os : List Int
  H : AHeap
structure QuoOk (h : AHeap) (zp : AVal) (op : List Int) (np nm ns : Bool) (M B d : Nat) (kp km ks : Nat) (g : QuoG) : Prop where
  le : g.j ≤ d
  hp : HoldsZ g.H zp op
  hm : HoldsZ g.H g.zm g.om
  hs : HoldsZ g.H g.zs g.os
  dm : digZ g.om
  ds : digZ g.os
  vm : leV g.om = ((M * 10 ^ g.j : Nat) : Int)
  vs : leV g.os = ((B * 10 ^ g.j : Nat) : Int)
  lm : g.om.length ≤ 1000 + g.j
  ls : g.os.length ≤ 1000 + g.j
  sub : Sub h g.H
  ep : g.H kp = some ⟨[.bool np, zp], 0⟩
  em : g.H km = some ⟨[.bool nm, g.zm], 0⟩
  es : g.H ks = some ⟨[.bool ns, g.zs], 0⟩
theorem digZ.cons {o : List Int} (h : digZ o) : digZ (0 :: o) := by
  intro x hx
  rcases List.mem_cons.1 hx with rfl | hx
  · exact ⟨by decide, by decide⟩
  · exact h x hx
theorem leV_next {o : List Int} {M j : Nat} (h : leV o = ((M * 10 ^ j : Nat) : Int)) : leV (0 :: o) = ((M * 10 ^ (j + 1) : Nat) : Int) := by
  rw [leV_cons, h, Nat.pow_succ, ← Nat.mul_assoc]
  omega
set_option maxHeartbeats 2000000 in
theorem quoC (w₀ : World) (ht : Tab10 w₀) (he : Errs w₀) (h G : AHeap) (hs_G : Sub h G) (k6 k10 k11 k12 : Nat) (yn : Bool) (yd : List UInt8) (ys : Int) (np nm ns : Bool) (zp zm0 zs0 : AVal) (op om0 os0 : List Int) (S : Int) (P M B : Nat)
    (eb_6 : G k6 = some ⟨[.bool yn, .str yd, .int .i64 ys], 0⟩) (eb_10 : G k10 = some ⟨[.bool np, zp], 0⟩) (eb_11 : G k11 = some ⟨[.bool nm, zm0], 0⟩) (eb_12 : G k12 = some ⟨[.bool ns, zs0], 0⟩)
    (hf_11 : h k11 = none) (hf_12 : h k12 = none) (ne_11_10 : k11 ≠ k10) (ne_12_10 : k12 ≠ k10) (ne_12_11 : k12 ≠ k11)
    (hp0 : HoldsZ G zp op) (hm0 : HoldsZ G zm0 om0) (hs0 : HoldsZ G zs0 os0) (dp : digZ op) (dm0 : digZ om0) (ds0 : digZ os0) (vp : leV op = (P : Int)) (vm0 : leV om0 = (M : Int)) (vs0 : leV os0 = (B : Int))
    (lp : op.length ≤ 1000) (lm0 : om0.length ≤ 1000) (ls0 : os0.length ≤ 1000) (y0 : 0 ≤ ys) (y1 : ys ≤ 62) (sy : 30 + ys ≤ S) (s92 : S ≤ 92)
    (w1 : M * 10 ^ (S - (30 + ys)).toNat ≤ P) (w2 : P < M * 10 ^ (S - (30 + ys)).toNat + B * 10 ^ (S - (30 + ys)).toNat) :
    Awp Tryz.prog w₀ 135 (dropSeq 11 (bodyOf Tryz.f5)) (retA Tryz.prog w₀ [.tmp 4] (fun x _ => x = .bool true)) [(6, .ptr (.own k6) 0), (9, .int .i64 S), (10, .ptr (.own k10) 0), (11, .ptr (.own k11) 0), (12, .ptr (.own k12) 0)] (G) := by
  have lp4 := hp0.live
  have ew30 : IntKind.i64.wrap (30 + ys) = 30 + ys := wrap_i64 (by omega) (by omega)
  change Awp _ _ _ (Code.seq _ _) _ _ _
  refine awp_seq ?_
  -- region 14  law.go:313
  refine awp_rseq [9, 10, 11, 12, 13] (by rfl) fun K hK => ?_
  simp (decide := true) only [aOps_nil, ev, absV, absS, putD, Slots.put, Slots.get, Slots.keep, if_true, if_false, true_and, ↓ap_fieldAddr, pop_fieldAddr, fa27_2, ↓ap_loadL, apL_mk, pLoad_one ag3, ↓ap_binOp, pop_binOp, isNilC_tmp, cond_false, pBinX_int, pI_add, ↓ap_assign, pop_assign, rd_own w₀ eb_6, List.getD_cons_zero, List.getD_cons_succ, Nat.zero_add, lv_int, ew30]
  try simp (disch := omega) only [wrap_i64, wrap_u8]
  repeat (with_reducible refine And.intro ?_ ?_; · first | trivial | omega | (intro hg; simp only [Bool.and_eq_true, Bool.or_eq_true, Bool.not_eq_true', Bool.and_eq_false_iff, Bool.or_eq_false_iff, Bool.not_eq_false', decide_eq_true_eq, decide_eq_false_iff_not, eqNil] at hg; omega) )
  apply hK; clear hK K
  refine awp_block ?_
  refine awp_loopG [9, 10, 11, 12, 13] (fun g : QuoG => [(9, .int .i64 S), (10, .ptr (.own k10) 0), (11, .ptr (.own k11) 0), (12, .ptr (.own k12) 0), (13, .int .i64 (30 + ys + g.j))]) (fun g : QuoG => g.H) (fun g : QuoG => QuoOk h zp op np nm ns M B (S - (30 + ys)).toNat k10 k11 k12 g) (fun g : QuoG => (S - (30 + ys)).toNat - g.j) ⟨0, zm0, om0, zs0, os0, G⟩ (by simp [Slots.keep]) (Sub.refl _) ⟨Nat.zero_le _, hp0, hm0, hs0, dm0, ds0, by rw [vm0]; simp, by rw [vs0]; simp, lm0, ls0, hs_G, eb_10, eb_11, eb_12⟩ ?_
  clear hp0 hm0 hs0 vm0 vs0 dm0 ds0 lm0 ls0
  rintro ⟨j, zm, om, zs, os, H⟩ ⟨le, hp, hm, hs, dm, ds, vm, vs, lm, ls, hs_H, eb_10, eb_11, eb_12⟩
  dsimp only at le hp hm hs dm ds vm vs lm ls hs_H eb_10 eb_11 eb_12 ⊢
  have lm1 := hm.live
  have ls1 := hs.live
  refine awp_seq ?_
  -- region 15  law.go:313
  refine awp_rseq [9, 10, 11, 12, 13, 106] (by rfl) fun K hK => ?_
  simp (decide := true) only [aOps_nil, ev, putD, Slots.put, Slots.get, Slots.keep, if_true, if_false, true_and, ↓ap_move, pop_move, ↓ap_binOp, pop_binOp, isNilC_tmp, cond_false, pBinX_int, pI_lss]
  repeat (with_reducible refine And.intro ?_ ?_; · first | trivial | omega | (intro hg; simp only [Bool.and_eq_true, Bool.or_eq_true, Bool.not_eq_true', Bool.and_eq_false_iff, Bool.or_eq_false_iff, Bool.not_eq_false', decide_eq_true_eq, decide_eq_false_iff_not, eqNil] at hg; omega) )
  apply hK; clear hK K
  refine awp_cond (b := _) rfl (fun hb1 => ?_) (fun hb1 => ?_)
  · try simp only [decide_eq_true_eq] at hb1
    refine awp_skip ?_
    change Awp _ _ _ _ _ _ _
    refine awp_seq ?_
    refine awp_block ?_
    -- region 17  law.go:314
    refine awp_rseq [9, 10, 11, 12, 13] (by rfl) fun K hK => ?_
    refine aOps_buildSlice (cs := [.int .i64 0]) (by kernel_rfl) fun k17q0 hk17q0 => ?_
    have hn_17q0 : H k17q0 = none := by first | assumption | (simp only [AHeap.set_none] at hk17q0; simp only [hk17q0])
    have hf_17q0 : h k17q0 = none := Sub.none hs_H hn_17q0
    have ne_17q0_10 : k17q0 ≠ k10 := AHeap.ne_some hn_17q0 eb_10
    have ne_17q0_11 : k17q0 ≠ k11 := AHeap.ne_some hn_17q0 eb_11
    have ne_17q0_12 : k17q0 ≠ k12 := AHeap.ne_some hn_17q0 eb_12
    simp (decide := true) only [ev, putD, Slots.put, Slots.get, if_true, if_false, true_and, ↓ap_fieldAddr, pop_fieldAddr, fa40_1, ↓ap_loadL, apL_mk, pLoad_one ag38, rd_ne', ne_eq, not_false_eq_true, ne_17q0_11.symm, rd_own w₀ eb_11, List.getD_cons_zero, List.getD_cons_succ, Nat.zero_add, lm1]
    repeat (with_reducible refine And.intro ?_ ?_; · first | trivial | omega | (intro hg; simp only [Bool.and_eq_true, Bool.or_eq_true, Bool.not_eq_true', Bool.and_eq_false_iff, Bool.or_eq_false_iff, Bool.not_eq_false', decide_eq_true_eq, decide_eq_false_iff_not, eqNil] at hg; omega) )
    refine aOps_consInts (by rfl) (AHeap.set_same _ _ _) (by rfl) (hm.sub (Sub.set hk17q0)) (by omega) fun z17 h17q3 hz17 hs17 => ?_
    have l17 := hz17.live
    have hs_h17q3 : Sub h h17q3 := Sub.trans (by repeat (first | exact Sub.refl _ | assumption | refine Sub.trans_set ?_ (by assumption))) hs17
    have hr_h17q3 : Sub H h17q3 := Sub.trans (by repeat (first | exact Sub.refl _ | assumption | refine Sub.trans_set ?_ (by assumption))) hs17
    have eb_17q0 := hs17 k17q0 _ (by repeat (first | exact AHeap.set_same _ _ _ | assumption | refine (AHeap.set_ne _ _ (by first | assumption | exact Ne.symm (by assumption))).trans ?_))
    have eb_10 := hs17 k10 _ (by repeat (first | exact AHeap.set_same _ _ _ | assumption | refine (AHeap.set_ne _ _ (by first | assumption | exact Ne.symm (by assumption))).trans ?_))
    have eb_11 := hs17 k11 _ (by repeat (first | exact AHeap.set_same _ _ _ | assumption | refine (AHeap.set_ne _ _ (by first | assumption | exact Ne.symm (by assumption))).trans ?_))
    have eb_12 := hs17 k12 _ (by repeat (first | exact AHeap.set_same _ _ _ | assumption | refine (AHeap.set_ne _ _ (by first | assumption | exact Ne.symm (by assumption))).trans ?_))
    simp (decide := true) only [ev, putD, Slots.put, Slots.get, if_true, if_false, true_and, ↓ap_fieldAddr, pop_fieldAddr, fa40_1, Nat.zero_add]
    repeat (with_reducible refine And.intro ?_ ?_; · first | trivial | omega | (intro hg; simp only [Bool.and_eq_true, Bool.or_eq_true, Bool.not_eq_true', Bool.and_eq_false_iff, Bool.or_eq_false_iff, Bool.not_eq_false', decide_eq_true_eq, decide_eq_false_iff_not, eqNil] at hg; omega) )
    refine aOps_store (v := z17) (by rfl) (by rfl) eb_11 sz38 l17 (by rw [hz17.cells]; rfl) (by simp) (Nat.zero_le _) (by rw [hz17.cells]; simp [allScal, hz17.scal]) ?_
    rw [hz17.cells]
    simp only [setAt, List.set_cons_succ, List.set_cons_zero]
    have hm2 := hz17.set_bool eb_11 ⟨[.bool nm, z17], 0⟩
    have hs2 := (hs.sub hr_h17q3).set_bool eb_11 ⟨[.bool nm, z17], 0⟩
    have hp2 := (hp.sub hr_h17q3).set_bool eb_11 ⟨[.bool nm, z17], 0⟩
    simp (decide := true) only [aOps_nil, putD, Slots.keep, if_true, if_false]
    repeat (with_reducible refine And.intro ?_ ?_; · first | trivial | omega | (intro hg; simp only [Bool.and_eq_true, Bool.or_eq_true, Bool.not_eq_true', Bool.and_eq_false_iff, Bool.or_eq_false_iff, Bool.not_eq_false', decide_eq_true_eq, decide_eq_false_iff_not, eqNil] at hg; omega) )
    apply hK; clear hK K
    -- region 18  law.go:315
    refine awp_r [9, 10, 11, 12, 13] (by rfl) ?_
    refine aOps_buildSlice (cs := [.int .i64 0]) (by kernel_rfl) fun k18q0 hk18q0 => ?_
    have hn_18q0 : h17q3 k18q0 = none := by first | assumption | (simp only [AHeap.set_none] at hk18q0; simp only [hk18q0])
    have hf_18q0 : h k18q0 = none := Sub.none hs_h17q3 hn_18q0
    have ne_18q0_10 : k18q0 ≠ k10 := AHeap.ne_some hn_18q0 eb_10
    have ne_18q0_11 : k18q0 ≠ k11 := AHeap.ne_some hn_18q0 eb_11
    have ne_18q0_12 : k18q0 ≠ k12 := AHeap.ne_some hn_18q0 eb_12
    have ne_18q0_17q0 : k18q0 ≠ k17q0 := AHeap.ne_some hn_18q0 eb_17q0
    simp (decide := true) only [ev, putD, Slots.put, Slots.get, if_true, if_false, true_and, ↓ap_fieldAddr, pop_fieldAddr, fa40_1, ↓ap_loadL, apL_mk, pLoad_one ag38, rd_ne', ne_eq, not_false_eq_true, ne_18q0_12.symm, rd_own w₀ eb_12, ne_12_11, List.getD_cons_zero, List.getD_cons_succ, Nat.zero_add, ls1]
    repeat (with_reducible refine And.intro ?_ ?_; · first | trivial | omega | (intro hg; simp only [Bool.and_eq_true, Bool.or_eq_true, Bool.not_eq_true', Bool.and_eq_false_iff, Bool.or_eq_false_iff, Bool.not_eq_false', decide_eq_true_eq, decide_eq_false_iff_not, eqNil] at hg; omega) )
    refine aOps_consInts (by rfl) (AHeap.set_same _ _ _) (by rfl) (hs2.sub (Sub.set hk18q0)) (by omega) fun z18 h18q3 hz18 hs18 => ?_
    have l18 := hz18.live
    have hs_h18q3 : Sub h h18q3 := Sub.trans (by repeat (first | exact Sub.refl _ | assumption | refine Sub.trans_set ?_ (by assumption))) hs18
    have eb_18q0 := hs18 k18q0 _ (by repeat (first | exact AHeap.set_same _ _ _ | assumption | refine (AHeap.set_ne _ _ (by first | assumption | exact Ne.symm (by assumption))).trans ?_))
    have eb_10 := hs18 k10 _ (by repeat (first | exact AHeap.set_same _ _ _ | assumption | refine (AHeap.set_ne _ _ (by first | assumption | exact Ne.symm (by assumption))).trans ?_))
    have eb_11 := hs18 k11 _ (by repeat (first | exact AHeap.set_same _ _ _ | assumption | refine (AHeap.set_ne _ _ (by first | assumption | exact Ne.symm (by assumption))).trans ?_))
    have eb_12 := hs18 k12 _ (by repeat (first | exact AHeap.set_same _ _ _ | assumption | refine (AHeap.set_ne _ _ (by first | assumption | exact Ne.symm (by assumption))).trans ?_))
    have eb_17q0 := hs18 k17q0 _ (by repeat (first | exact AHeap.set_same _ _ _ | assumption | refine (AHeap.set_ne _ _ (by first | assumption | exact Ne.symm (by assumption))).trans ?_))
    simp (decide := true) only [ev, putD, Slots.put, Slots.get, if_true, if_false, true_and, ↓ap_fieldAddr, pop_fieldAddr, fa40_1, Nat.zero_add]
    repeat (with_reducible refine And.intro ?_ ?_; · first | trivial | omega | (intro hg; simp only [Bool.and_eq_true, Bool.or_eq_true, Bool.not_eq_true', Bool.and_eq_false_iff, Bool.or_eq_false_iff, Bool.not_eq_false', decide_eq_true_eq, decide_eq_false_iff_not, eqNil] at hg; omega) )
    have hm3 := hm2.sub (Sub.trans (Sub.set hk18q0) hs18)
    have hp3 := hp2.sub (Sub.trans (Sub.set hk18q0) hs18)
    refine aOps_store (v := z18) (by rfl) (by rfl) eb_12 sz38 l18 (by rw [hz18.cells]; rfl) (by simp) (Nat.zero_le _) (by rw [hz18.cells]; simp [allScal, hz18.scal]) ?_
    rw [hz18.cells]
    simp only [setAt, List.set_cons_succ, List.set_cons_zero]
    simp (decide := true) only [aOps_nil, putD, Slots.keep, if_true, if_false]
    repeat (with_reducible refine And.intro ?_ ?_; · first | trivial | omega | (intro hg; simp only [Bool.and_eq_true, Bool.or_eq_true, Bool.not_eq_true', Bool.and_eq_false_iff, Bool.or_eq_false_iff, Bool.not_eq_false', decide_eq_true_eq, decide_eq_false_iff_not, eqNil] at hg; omega) )
    change Awp _ _ _ _ _ _ _
    -- region 16  law.go:313
    refine awp_r [9, 10, 11, 12, 13] (by rfl) ?_
    simp (decide := true) only [aOps_nil, ev, absV, absS, putD, Slots.put, Slots.get, Slots.keep, if_true, if_false, true_and, ↓ap_move, pop_move, ↓ap_binOp, pop_binOp, isNilC_int, cond_false, pBinX_int, pI_add, ↓ap_assign, pop_assign]
    try simp (disch := omega) only [wrap_i64]
    repeat (with_reducible refine And.intro ?_ ?_; · first | trivial | omega | (intro hg; simp only [Bool.and_eq_true, Bool.or_eq_true, Bool.not_eq_true', Bool.and_eq_false_iff, Bool.or_eq_false_iff, Bool.not_eq_false', decide_eq_true_eq, decide_eq_false_iff_not, eqNil] at hg; omega) )
    try simp only [thenA_normal]
    refine ⟨⟨j + 1, z17, 0 :: om, z18, 0 :: os, h18q3.set k12 ⟨[.bool ns, z18], 0⟩⟩, ?_, Sub.refl _, ⟨by dsimp only; omega, hp3.set_bool eb_12 _, hm3.set_bool eb_12 _, hz18.set_bool eb_12 _, dm.cons, ds.cons, leV_next vm, leV_next vs, by dsimp only [List.length_cons]; omega, by dsimp only [List.length_cons]; omega, Sub.trans_set hs_h18q3 hf_12, (AHeap.set_ne _ _ ne_12_10.symm).trans eb_10, (AHeap.set_ne _ _ ne_12_11.symm).trans eb_11, AHeap.set_same _ _ _⟩, by dsimp only; omega⟩
    dsimp only
    rw [show (30 + ys + ((j + 1 : Nat) : Int)) = 30 + ys + j + 1 by omega]
    rfl
  · try simp only [decide_eq_false_iff_not] at hb1
    have hj : j = (S - (30 + ys)).toNat := by omega
    rw [hj] at vm vs
    have hm4 := (hm.set_bool eb_11 ⟨[.bool false, zm], 0⟩).set_bool (j := k12) ((AHeap.set_ne _ _ ne_12_11).trans eb_12) ⟨[.bool false, zs], 0⟩
    have hs4 := (hs.set_bool eb_11 ⟨[.bool false, zm], 0⟩).set_bool (j := k12) ((AHeap.set_ne _ _ ne_12_11).trans eb_12) ⟨[.bool false, zs], 0⟩
    have hp4 := (hp.set_bool eb_11 ⟨[.bool false, zm], 0⟩).set_bool (j := k12) ((AHeap.set_ne _ _ ne_12_11).trans eb_12) ⟨[.bool false, zs], 0⟩
    refine awp_exit ?_
    change Awp _ _ _ _ _ _ _
    -- region 19  law.go:317
    refine awp_rseq [10, 11, 12] (by rfl) fun K hK => ?_
    simp (decide := true) only [ev, putD, Slots.put, Slots.get, if_true, if_false, true_and, ↓ap_fieldAddr, pop_fieldAddr, fa40_0, Nat.zero_add]
    repeat (with_reducible refine And.intro ?_ ?_; · first | trivial | omega | (intro hg; simp only [Bool.and_eq_true, Bool.or_eq_true, Bool.not_eq_true', Bool.and_eq_false_iff, Bool.or_eq_false_iff, Bool.not_eq_false', decide_eq_true_eq, decide_eq_false_iff_not, eqNil] at hg; omega) )
    refine aOps_store (by rfl) (by rfl) (by repeat (first | exact AHeap.set_same _ _ _ | assumption | refine (AHeap.set_ne _ _ (by first | assumption | exact Ne.symm (by assumption))).trans ?_)) sz4 (by rfl) (by rfl) (by first | exact Nat.le_refl _ | decide | (simp; done) | (simp; omega)) (Nat.zero_le _) (by rfl) ?_
    simp only [AVal.cells]
    simp (decide := true) only [aOps_nil, ev, absV, absS, putD, Slots.keep, if_true, if_false, setAt, List.set_cons_zero]
    repeat (with_reducible refine And.intro ?_ ?_; · first | trivial | omega | (intro hg; simp only [Bool.and_eq_true, Bool.or_eq_true, Bool.not_eq_true', Bool.and_eq_false_iff, Bool.or_eq_false_iff, Bool.not_eq_false', decide_eq_true_eq, decide_eq_false_iff_not, eqNil] at hg; omega) )
    apply hK; clear hK K
    -- region 20  law.go:318
    refine awp_rseq [10, 11, 12] (by rfl) fun K hK => ?_
    simp (decide := true) only [ev, putD, Slots.put, Slots.get, if_true, if_false, true_and, ↓ap_fieldAddr, pop_fieldAddr, fa40_0, Nat.zero_add]
    repeat (with_reducible refine And.intro ?_ ?_; · first | trivial | omega | (intro hg; simp only [Bool.and_eq_true, Bool.or_eq_true, Bool.not_eq_true', Bool.and_eq_false_iff, Bool.or_eq_false_iff, Bool.not_eq_false', decide_eq_true_eq, decide_eq_false_iff_not, eqNil] at hg; omega) )
    refine aOps_store (by rfl) (by rfl) (by repeat (first | exact AHeap.set_same _ _ _ | assumption | refine (AHeap.set_ne _ _ (by first | assumption | exact Ne.symm (by assumption))).trans ?_)) sz4 (by rfl) (by rfl) (by first | exact Nat.le_refl _ | decide | (simp; done) | (simp; omega)) (Nat.zero_le _) (by rfl) ?_
    simp only [AVal.cells]
    simp (decide := true) only [aOps_nil, ev, absV, absS, putD, Slots.keep, if_true, if_false, setAt, List.set_cons_zero]
    repeat (with_reducible refine And.intro ?_ ?_; · first | trivial | omega | (intro hg; simp only [Bool.and_eq_true, Bool.or_eq_true, Bool.not_eq_true', Bool.and_eq_false_iff, Bool.or_eq_false_iff, Bool.not_eq_false', decide_eq_true_eq, decide_eq_false_iff_not, eqNil] at hg; omega) )
    apply hK; clear hK K
    -- region 21  law.go:319
    refine awp_dseq_H [0, 1, 2, 3, 4, 5, 6, 7, 8, 9, 10, 11, 12, 13, 14] [none, none, none, some 2, some 3, some 4, some 4, some 4, some 6, some 8, some 9, some 10, some 11, some 12, some 13] 15 [4] mixed (by kernel_rfl) (by rfl) fun K hK => ?_
    simp only [permL, List.filterMap_cons, List.filterMap_nil, List.getElem?_cons_zero, List.getElem?_cons_succ]
    simp (decide := true) only [aOps_nil, ev, putD, Slots.put, Slots.get, if_true, if_false, true_and, hOps_cons, hOps_nil, Sub_self, ↓ap_loadL, apL_mk, pLoad_agg ag40 sz40, rd_ne', ne_eq, not_false_eq_true, rd_own w₀ eb_10, ne_11_10.symm, ne_12_10.symm, ne_12_11.symm, rd_any, cellsAt, List.getD_cons_zero, List.getD_cons_succ, Nat.zero_add, lv_bool, allLive, Bool.and_true, lp4, lm1]
    repeat (with_reducible refine And.intro ?_ ?_; · first | trivial | omega | (intro hg; simp only [Bool.and_eq_true, Bool.or_eq_true, Bool.not_eq_true', Bool.and_eq_false_iff, Bool.or_eq_false_iff, Bool.not_eq_false', decide_eq_true_eq, decide_eq_false_iff_not, eqNil] at hg; omega) )
    refine aOps_callV (V := .bool false) (by rfl) (by rfl) ((c_less w₀ _ np false zp zm op om hp4 hm4 dp dm (by omega) (by omega)).val (by rw [decide_eq_false (by rw [vp, vm]; omega)])) ?_
    rw [aOps_nil]
    refine And.intro (by first | exact Sub.refl _ | assumption | exact Sub.set (by assumption)) ?_
    simp (decide := true) only [aOps_nil, ev, putD, Slots.put, Slots.get, if_true, if_false, true_and, Sub_self, ↓ap_unOp, pop_unOp, pU_not, ↓ap_move, pop_move, ↓ag_loadL, agQL_some, agL_mk, agP, nthDst, guardB_bool_true, implies_true, Bool.not_false, condV_true, Bool.and_true, pLoad_agg ag40 sz40, rd_ne', ne_eq, not_false_eq_true, rd_own w₀ eb_10, ne_11_10.symm, ne_12_10.symm, ne_12_11.symm, rd_any, cellsAt, List.getD_cons_zero, List.getD_cons_succ, Nat.zero_add, lv_bool, allLive, Bool.and_true, lp4, lm1, ls1]
    try simp (disch := omega) only [wrap_i64, wrap_u8]
    repeat (with_reducible refine And.intro ?_ ?_; · first | trivial | omega | (intro hg; simp only [Bool.and_eq_true, Bool.or_eq_true, Bool.not_eq_true', Bool.and_eq_false_iff, Bool.or_eq_false_iff, Bool.not_eq_false', decide_eq_true_eq, decide_eq_false_iff_not, eqNil] at hg; omega) )
    refine aOps_yes (by rfl) ?_
    refine aOps_call (by rfl) (by rfl) (c_add w₀ _ false false zm zs om os hm4 hs4 dm ds 5000 (by decide) (by omega) (by omega)) fun x21q8 h21q8 hx21q8 => ?_
    obtain ⟨⟨n9, z9, o9, rfl, hz9, hd9, hv9, hl9⟩, hs9⟩ := hx21q8
    have lz9 := hz9.live
    have hp5 := hp4.sub hs9
    have hs_h21q8 : Sub h h21q8 := Sub.trans (by repeat (first | exact Sub.refl _ | assumption | refine Sub.trans_set ?_ (by assumption))) hs9
    have eb_10 := hs9 k10 _ (by repeat (first | exact AHeap.set_same _ _ _ | assumption | refine (AHeap.set_ne _ _ (by first | assumption | exact Ne.symm (by assumption))).trans ?_))
    have eb_11 := hs9 k11 _ (by repeat (first | exact AHeap.set_same _ _ _ | assumption | refine (AHeap.set_ne _ _ (by first | assumption | exact Ne.symm (by assumption))).trans ?_))
    have eb_12 := hs9 k12 _ (by repeat (first | exact AHeap.set_same _ _ _ | assumption | refine (AHeap.set_ne _ _ (by first | assumption | exact Ne.symm (by assumption))).trans ?_))
    rw [aOps_nil]
    refine And.intro (by first | exact Sub.refl _ | assumption | exact Sub.set (by assumption)) ?_
    simp (decide := true) only [putD, Slots.put, if_false]
    repeat (with_reducible refine And.intro ?_ ?_; · first | trivial | omega | (intro hg; simp only [Bool.and_eq_true, Bool.or_eq_true, Bool.not_eq_true', Bool.and_eq_false_iff, Bool.or_eq_false_iff, Bool.not_eq_false', decide_eq_true_eq, decide_eq_false_iff_not, eqNil] at hg; omega) )
    first
    | (refine aOps_yes (by rfl) ?_; refine aOps_callV (V := .bool true) (by rfl) (by rfl) ((c_less w₀ _ np n9 zp z9 op o9 hp5 hz9 dp hd9 (by omega) (by omega)).val (by rw [decide_eq_true (by rw [sgV_eq hv9 (leV_bound o9 hd9).1 (by rw [show sgV false (leV om) = leV om from rfl, show sgV false (leV os) = leV os from rfl, vm, vs]; omega), show sgV false (leV om) = leV om from rfl, show sgV false (leV os) = leV os from rfl, vp, vm, vs]; omega)])) ?_)
    | (refine aOps_gcall (V := .bool true) (f := _) (cap := _) (xs := _) rfl (fun hg => ⟨rfl, ?_⟩) (fun hg => (c_less w₀ _ np n9 zp z9 op o9 hp5 hz9 dp hd9 (by omega) (by omega)).val (by rw [decide_eq_true (by rw [sgV_eq hv9 (leV_bound o9 hd9).1 (by rw [show sgV false (leV om) = leV om from rfl, show sgV false (leV os) = leV os from rfl, vm, vs]; omega), show sgV false (leV om) = leV om from rfl, show sgV false (leV os) = leV os from rfl, vp, vm, vs]; omega)])) ?_; · (simp (decide := true) only [gv, nthDst, Slots.get, if_true, if_false, guardB_bool_true, guardB_bool_false, guardB_cond, Bool.not_not] at hg; simp (decide := true) only [evs, ev, Slots.get, if_true, if_false, hg, condV_true, List.append_nil, List.map_cons, List.map_nil, absV, absS] <;> try rfl))
    rw [aOps_nil]
    refine And.intro (by first | exact Sub.refl _ | assumption | exact Sub.set (by assumption)) ?_
    simp (decide := true) only [aOps_nil, ev, absV, absS, putD, Slots.put, Slots.get, if_true, if_false, true_and, Sub_self, ↓ap_pick, pop_pick, pPick_bool, pickV_and, Bool.and_true]
    repeat (with_reducible refine And.intro ?_ ?_; · first | trivial | omega | (intro hg; simp only [Bool.and_eq_true, Bool.or_eq_true, Bool.not_eq_true', Bool.and_eq_false_iff, Bool.or_eq_false_iff, Bool.not_eq_false', decide_eq_true_eq, decide_eq_false_iff_not, eqNil] at hg; omega) )
    first
    | (refine aOps_yes (by rfl) ?_; refine aOps_callV (V := .bool true) (by rfl) (by rfl) (c_lives12 w₀ ht he _) ?_)
    | (refine aOps_gcall (V := .bool true) (f := _) (cap := _) (xs := _) rfl (fun hg => ⟨rfl, ?_⟩) (fun hg => c_lives12 w₀ ht he _) ?_; · (simp (decide := true) only [gv, nthDst, Slots.get, if_true, if_false, guardB_bool_true, guardB_bool_false, guardB_cond, Bool.not_not] at hg; simp (decide := true) only [evs, ev, Slots.get, if_true, if_false, hg, condV_true, List.append_nil, List.map_cons, List.map_nil, absV, absS] <;> try rfl))
    rw [aOps_nil]
    refine And.intro (by first | exact Sub.refl _ | assumption | exact Sub.set (by assumption)) ?_
    simp (decide := true) only [aOps_nil, ev, putD, Slots.put, Slots.get, Slots.keep, if_true, if_false, true_and, Sub_self, pPick_bool, pickV_and, ↓ap_assign, pop_assign, Bool.and_true]
    repeat (with_reducible refine And.intro ?_ ?_; · first | trivial | omega | (intro hg; simp only [Bool.and_eq_true, Bool.or_eq_true, Bool.not_eq_true', Bool.and_eq_false_iff, Bool.or_eq_false_iff, Bool.not_eq_false', decide_eq_true_eq, decide_eq_false_iff_not, eqNil] at hg; omega) )
    apply hK; clear hK K
    refine awp_ret ?_
    try simp only [thenA_ret, inBlockA_ret]
    refine retA_ret _ (Sub.refl _) (resPre_tmp (resPre_nil)) ?_
    simp (decide := true) only [Slots.get, if_true, resOf_one]
    all_goals first | rfl | exact ⟨rfl, rfl⟩ | (simp (decide := true) only [if_true, if_false, *]; done) | (trace_state; fail)

set_option maxHeartbeats 2000000 in
theorem quoB (w₀ : World) (ht : Tab10 w₀) (he : Errs w₀) (h G : AHeap) (hs_G : Sub h G) (k6 k7 k10 : Nat) (x y q : D) (z4 : AVal) (S : Int)
    (eb_6 : G k6 = some ⟨[.bool y.neg, .str y.dig, .int .i64 y.scale], 0⟩) (eb_7 : G k7 = some ⟨[.bool q.neg, .str q.dig, .int .i64 q.scale], 0⟩) (eb_10 : G k10 = some ⟨[.bool x.neg, z4], 0⟩)
    (xv : checkE x = 0) (yv : checkE y = 0) (qv : checkE q = 0) (hz4 : HoldsZ G z4 (List.replicate (S - x.scale).toNat 0 ++ digs x.dig)) (x0 : 0 ≤ x.scale) (y0 : 0 ≤ y.scale) (y1 : y.scale ≤ 62) (q0 : 0 ≤ q.scale) (q30 : q.scale ≤ 30)
    (sx : x.scale ≤ S) (sy : 30 + y.scale ≤ S) (s92 : S ≤ 92) (hsm : ∀ _ : Unit, S = x.scale ∨ S = 30 + y.scale) (hny : natOf y.dig ≠ 0) (qa : natOf q.dig * 10 ^ (30 - q.scale.toNat) = quoN x y) :
    Awp Tryz.prog w₀ 135 (dropSeq 9 (bodyOf Tryz.f5)) (retA Tryz.prog w₀ [.tmp 4] (fun x _ => x = .bool true)) [(6, .ptr (.own k6) 0), (7, .ptr (.own k7) 0), (9, .int .i64 S), (10, .ptr (.own k10) 0)] (G) := by
  have lz4 := hz4.live
  change Awp _ _ _ (Code.seq _ _) _ _ _
  -- region 12  law.go:311
  refine awp_dseq_I [0, 2, 3, 4, 1, 5, 6, 7, 8] [none, none, none, none, none, some 4, some 5, none, some 6] 8 [6, 9, 10, 11] mixed (by kernel_rfl) (by rfl) fun K hK => ?_
  simp only [permL, List.filterMap_cons, List.filterMap_nil, List.getElem?_cons_zero, List.getElem?_cons_succ]
  try simp (decide := true) only [aOps_nil, vOps_nil, fOps_nil, kOps_nil, ev, absV, absS, putD, Slots.put, Slots.get, Slots.keep, if_true, if_false, List.contains_cons, List.contains_nil, true_and, and_true, iOps_zero, iOps_nil, Sub_self, rd_ne', ne_eq, not_false_eq_true, rd_own w₀ eb_6, rd_own w₀ eb_7, rd_own w₀ eb_10, rd_any, AVal.cells, setAt, List.set_cons_zero, List.set_cons_succ, cellsAt, List.getD_cons_zero, List.getD_cons_succ, Nat.zero_add, Nat.reduceAdd, lv_bool, lv_int, lv_str, lv_nilPtr, lv_ptr, lv_nilSlice, lv_slice, lv_nilFunc, lv_func, lv_nilIface, lv_iface, lv_nilMap, lv_agg, lv_tuple, allLive, Bool.and_true, decA, lz4]
  repeat (with_reducible refine And.intro ?_ ?_; · first | trivial | omega | (intro hg; simp only [Bool.and_eq_true, Bool.or_eq_true, Bool.not_eq_true', Bool.and_eq_false_iff, Bool.or_eq_false_iff, Bool.not_eq_false', decide_eq_true_eq, decide_eq_false_iff_not, eqNil] at hg; omega) )
  refine iOps_read (by rfl) (by kernel_rfl) ?_
  try simp (decide := true) only [aOps_nil, ev, putD, Slots.put, Slots.get, if_true, if_false, true_and, Sub_self, ↓ap_loadL, apL_mk, pLoad_agg ag27 sz27, rd_own w₀ eb_7, cellsAt, List.getD_cons_zero, List.getD_cons_succ, Nat.zero_add, Nat.reduceAdd, lv_bool, lv_int, lv_str, allLive, Bool.and_true]
  repeat (with_reducible refine And.intro ?_ ?_; · first | trivial | omega | (intro hg; simp only [Bool.and_eq_true, Bool.or_eq_true, Bool.not_eq_true', Bool.and_eq_false_iff, Bool.or_eq_false_iff, Bool.not_eq_false', decide_eq_true_eq, decide_eq_false_iff_not, eqNil] at hg; omega) )
  refine iOps_read (by rfl) (by kernel_rfl) ?_
  try simp (decide := true) only [aOps_nil, ev, putD, Slots.put, Slots.get, if_true, if_false, true_and, Sub_self, ↓ap_loadL, apL_mk, pLoad_agg ag27 sz27, rd_own w₀ eb_6, cellsAt, List.getD_cons_zero, List.getD_cons_succ, Nat.zero_add, Nat.reduceAdd, lv_bool, lv_int, lv_str, allLive, Bool.and_true]
  repeat (with_reducible refine And.intro ?_ ?_; · first | trivial | omega | (intro hg; simp only [Bool.and_eq_true, Bool.or_eq_true, Bool.not_eq_true', Bool.and_eq_false_iff, Bool.or_eq_false_iff, Bool.not_eq_false', decide_eq_true_eq, decide_eq_false_iff_not, eqNil] at hg; omega) )
  refine iOps_read (by rfl) (by kernel_rfl) ?_
  try simp (decide := true) only [aOps_nil, ev, putD, Slots.put, Slots.get, if_true, if_false, true_and, Sub_self, ↓ap_fieldAddr, pop_fieldAddr, fa27_2, Nat.zero_add]
  repeat (with_reducible refine And.intro ?_ ?_; · first | trivial | omega | (intro hg; simp only [Bool.and_eq_true, Bool.or_eq_true, Bool.not_eq_true', Bool.and_eq_false_iff, Bool.or_eq_false_iff, Bool.not_eq_false', decide_eq_true_eq, decide_eq_false_iff_not, eqNil] at hg; omega) )
  refine iOps_read (by rfl) (by kernel_rfl) ?_
  try simp (decide := true) only [aOps_nil, ev, putD, Slots.put, Slots.get, if_true, if_false, true_and, Sub_self, ↓ap_loadL, apL_mk, pLoad_one ag3, rd_own w₀ eb_6, List.getD_cons_zero, List.getD_cons_succ, lv_int]
  repeat (with_reducible refine And.intro ?_ ?_; · first | trivial | omega | (intro hg; simp only [Bool.and_eq_true, Bool.or_eq_true, Bool.not_eq_true', Bool.and_eq_false_iff, Bool.or_eq_false_iff, Bool.not_eq_false', decide_eq_true_eq, decide_eq_false_iff_not, eqNil] at hg; omega) )
  refine iOps_call (by rfl) fun g12q1 hg12q1 => ?_
  have hs_g12q1 : Sub h g12q1 := Sub.trans (by repeat (first | exact Sub.refl _ | assumption | refine Sub.trans_set ?_ (by assumption))) hg12q1
  have hr_g12q1 : Sub G g12q1 := Sub.trans (by repeat (first | exact Sub.refl _ | assumption | refine Sub.trans_set ?_ (by assumption))) hg12q1
  have eb_6 := hg12q1 k6 _ (by repeat (first | exact AHeap.set_same _ _ _ | assumption | refine (AHeap.set_ne _ _ (by first | assumption | exact Ne.symm (by assumption))).trans ?_))
  have eb_7 := hg12q1 k7 _ (by repeat (first | exact AHeap.set_same _ _ _ | assumption | refine (AHeap.set_ne _ _ (by first | assumption | exact Ne.symm (by assumption))).trans ?_))
  have eb_10 := hg12q1 k10 _ (by repeat (first | exact AHeap.set_same _ _ _ | assumption | refine (AHeap.set_ne _ _ (by first | assumption | exact Ne.symm (by assumption))).trans ?_))
  refine aOps_call (by rfl) (by rfl) (c_whole w₀ _ q qv 30 (by omega) (by omega)) fun x12q1 h12q1 hx12q1 => ?_
  obtain ⟨⟨z5, rfl, hz5⟩, hs5⟩ := hx12q1
  have lz5 := hz5.live
  have hs_h12q1 : Sub h h12q1 := Sub.trans (by repeat (first | exact Sub.refl _ | assumption | refine Sub.trans_set ?_ (by assumption))) hs5
  have hr_h12q1 : Sub g12q1 h12q1 := Sub.trans (by repeat (first | exact Sub.refl _ | assumption | refine Sub.trans_set ?_ (by assumption))) hs5
  have eb_6 := hs5 k6 _ (by repeat (first | exact AHeap.set_same _ _ _ | assumption | refine (AHeap.set_ne _ _ (by first | assumption | exact Ne.symm (by assumption))).trans ?_))
  have eb_7 := hs5 k7 _ (by repeat (first | exact AHeap.set_same _ _ _ | assumption | refine (AHeap.set_ne _ _ (by first | assumption | exact Ne.symm (by assumption))).trans ?_))
  have eb_10 := hs5 k10 _ (by repeat (first | exact AHeap.set_same _ _ _ | assumption | refine (AHeap.set_ne _ _ (by first | assumption | exact Ne.symm (by assumption))).trans ?_))
  rw [aOps_nil]
  refine And.intro (by first | exact Sub.refl _ | assumption | exact Sub.set (by assumption)) ?_
  try simp (decide := true) only [putD, Slots.put, if_true, if_false]
  repeat (with_reducible refine And.intro ?_ ?_; · first | trivial | omega | (intro hg; simp only [Bool.and_eq_true, Bool.or_eq_true, Bool.not_eq_true', Bool.and_eq_false_iff, Bool.or_eq_false_iff, Bool.not_eq_false', decide_eq_true_eq, decide_eq_false_iff_not, eqNil] at hg; omega) )
  refine iOps_call (by rfl) fun g12q5 hg12q5 => ?_
  have hs_g12q5 : Sub h g12q5 := Sub.trans (by repeat (first | exact Sub.refl _ | assumption | refine Sub.trans_set ?_ (by assumption))) hg12q5
  have hr_g12q5 : Sub h12q1 g12q5 := Sub.trans (by repeat (first | exact Sub.refl _ | assumption | refine Sub.trans_set ?_ (by assumption))) hg12q5
  have eb_6 := hg12q5 k6 _ (by repeat (first | exact AHeap.set_same _ _ _ | assumption | refine (AHeap.set_ne _ _ (by first | assumption | exact Ne.symm (by assumption))).trans ?_))
  have eb_7 := hg12q5 k7 _ (by repeat (first | exact AHeap.set_same _ _ _ | assumption | refine (AHeap.set_ne _ _ (by first | assumption | exact Ne.symm (by assumption))).trans ?_))
  have eb_10 := hg12q5 k10 _ (by repeat (first | exact AHeap.set_same _ _ _ | assumption | refine (AHeap.set_ne _ _ (by first | assumption | exact Ne.symm (by assumption))).trans ?_))
  refine aOps_call (by rfl) (by rfl) (c_whole w₀ _ y yv y.scale (by omega) (by omega)) fun x12q5 h12q5 hx12q5 => ?_
  obtain ⟨⟨z6, rfl, hz6⟩, hs6⟩ := hx12q5
  have lz6 := hz6.live
  have hs_h12q5 : Sub h h12q5 := Sub.trans (by repeat (first | exact Sub.refl _ | assumption | refine Sub.trans_set ?_ (by assumption))) hs6
  have hr_h12q5 : Sub g12q5 h12q5 := Sub.trans (by repeat (first | exact Sub.refl _ | assumption | refine Sub.trans_set ?_ (by assumption))) hs6
  have eb_6 := hs6 k6 _ (by repeat (first | exact AHeap.set_same _ _ _ | assumption | refine (AHeap.set_ne _ _ (by first | assumption | exact Ne.symm (by assumption))).trans ?_))
  have eb_7 := hs6 k7 _ (by repeat (first | exact AHeap.set_same _ _ _ | assumption | refine (AHeap.set_ne _ _ (by first | assumption | exact Ne.symm (by assumption))).trans ?_))
  have eb_10 := hs6 k10 _ (by repeat (first | exact AHeap.set_same _ _ _ | assumption | refine (AHeap.set_ne _ _ (by first | assumption | exact Ne.symm (by assumption))).trans ?_))
  rw [aOps_nil]
  refine And.intro (by first | exact Sub.refl _ | assumption | exact Sub.set (by assumption)) ?_
  try simp (decide := true) only [putD, Slots.put, if_false]
  repeat (with_reducible refine And.intro ?_ ?_; · first | trivial | omega | (intro hg; simp only [Bool.and_eq_true, Bool.or_eq_true, Bool.not_eq_true', Bool.and_eq_false_iff, Bool.or_eq_false_iff, Bool.not_eq_false', decide_eq_true_eq, decide_eq_false_iff_not, eqNil] at hg; omega) )
  refine iOps_call (by rfl) fun g12q6 hg12q6 => ?_
  have hs_g12q6 : Sub h g12q6 := Sub.trans (by repeat (first | exact Sub.refl _ | assumption | refine Sub.trans_set ?_ (by assumption))) hg12q6
  have hr_g12q6 : Sub h12q5 g12q6 := Sub.trans (by repeat (first | exact Sub.refl _ | assumption | refine Sub.trans_set ?_ (by assumption))) hg12q6
  have eb_6 := hg12q6 k6 _ (by repeat (first | exact AHeap.set_same _ _ _ | assumption | refine (AHeap.set_ne _ _ (by first | assumption | exact Ne.symm (by assumption))).trans ?_))
  have eb_7 := hg12q6 k7 _ (by repeat (first | exact AHeap.set_same _ _ _ | assumption | refine (AHeap.set_ne _ _ (by first | assumption | exact Ne.symm (by assumption))).trans ?_))
  have eb_10 := hg12q6 k10 _ (by repeat (first | exact AHeap.set_same _ _ _ | assumption | refine (AHeap.set_ne _ _ (by first | assumption | exact Ne.symm (by assumption))).trans ?_))
  refine aOps_call (by rfl) (by rfl) (c_mul w₀ _ q.neg y.neg z5 z6 (List.replicate (30 - q.scale).toNat 0 ++ digs q.dig) (List.replicate (y.scale - y.scale).toNat 0 ++ digs y.dig) (((hz5.sub hr_g12q5).sub hr_h12q5).sub hr_g12q6) (hz6.sub hr_g12q6) (whole_digZ qv _) (whole_digZ yv _) (by have := whole_len qv (30 - q.scale).toNat; have := whole_len yv (y.scale - y.scale).toNat; omega)) fun x12q6 h12q6 hx12q6 => ?_
  obtain ⟨⟨z7, o7, rfl, hz7, hd7, hv7, hl7⟩, hs7⟩ := hx12q6
  have lz7 := hz7.live
  have hlq := whole_len qv (30 - q.scale).toNat
  have hly := whole_len yv (y.scale - y.scale).toNat
  have hlx := whole_len xv (S - x.scale).toNat
  have hl7' : o7.length ≤ 1000 := by omega
  have hs_h12q6 : Sub h h12q6 := Sub.trans (by repeat (first | exact Sub.refl _ | assumption | refine Sub.trans_set ?_ (by assumption))) hs7
  have hr_h12q6 : Sub g12q6 h12q6 := Sub.trans (by repeat (first | exact Sub.refl _ | assumption | refine Sub.trans_set ?_ (by assumption))) hs7
  have eb_6 := hs7 k6 _ (by repeat (first | exact AHeap.set_same _ _ _ | assumption | refine (AHeap.set_ne _ _ (by first | assumption | exact Ne.symm (by assumption))).trans ?_))
  have eb_7 := hs7 k7 _ (by repeat (first | exact AHeap.set_same _ _ _ | assumption | refine (AHeap.set_ne _ _ (by first | assumption | exact Ne.symm (by assumption))).trans ?_))
  have eb_10 := hs7 k10 _ (by repeat (first | exact AHeap.set_same _ _ _ | assumption | refine (AHeap.set_ne _ _ (by first | assumption | exact Ne.symm (by assumption))).trans ?_))
  rw [aOps_nil]
  refine And.intro (by first | exact Sub.refl _ | assumption | exact Sub.set (by assumption)) ?_
  try simp (decide := true) only [putD, Slots.put, if_false]
  repeat (with_reducible refine And.intro ?_ ?_; · first | trivial | omega | (intro hg; simp only [Bool.and_eq_true, Bool.or_eq_true, Bool.not_eq_true', Bool.and_eq_false_iff, Bool.or_eq_false_iff, Bool.not_eq_false', decide_eq_true_eq, decide_eq_false_iff_not, eqNil] at hg; omega) )
  refine iOps_alloc (cs := [.bool false, .nilSlice]) (by kernel_rfl) fun k12q7 g12q7 hz12q7 hg12q7 eb_12q7 => ?_
  have ne_12q7_6 : k12q7 ≠ k6 := AHeap.ne_some hz12q7 (by repeat (first | exact AHeap.set_same _ _ _ | assumption | refine (AHeap.set_ne _ _ (by first | assumption | exact Ne.symm (by assumption))).trans ?_))
  have ne_12q7_7 : k12q7 ≠ k7 := AHeap.ne_some hz12q7 (by repeat (first | exact AHeap.set_same _ _ _ | assumption | refine (AHeap.set_ne _ _ (by first | assumption | exact Ne.symm (by assumption))).trans ?_))
  have ne_12q7_10 : k12q7 ≠ k10 := AHeap.ne_some hz12q7 (by repeat (first | exact AHeap.set_same _ _ _ | assumption | refine (AHeap.set_ne _ _ (by first | assumption | exact Ne.symm (by assumption))).trans ?_))
  have hf_12q7 : h k12q7 = none := Sub.none (by repeat (first | exact Sub.refl _ | assumption | refine Sub.trans_set ?_ (by assumption))) hz12q7
  have hs_g12q7 : Sub h g12q7 := Sub.trans (by repeat (first | exact Sub.refl _ | assumption | refine Sub.trans_set ?_ (by assumption))) hg12q7
  have hr_g12q7 : Sub h12q6 g12q7 := Sub.trans (by repeat (first | exact Sub.refl _ | assumption | refine Sub.trans_set ?_ (by assumption))) hg12q7
  have eb_6 := hg12q7 k6 _ (by repeat (first | exact AHeap.set_same _ _ _ | assumption | refine (AHeap.set_ne _ _ (by first | assumption | exact Ne.symm (by assumption))).trans ?_))
  have eb_7 := hg12q7 k7 _ (by repeat (first | exact AHeap.set_same _ _ _ | assumption | refine (AHeap.set_ne _ _ (by first | assumption | exact Ne.symm (by assumption))).trans ?_))
  have eb_10 := hg12q7 k10 _ (by repeat (first | exact AHeap.set_same _ _ _ | assumption | refine (AHeap.set_ne _ _ (by first | assumption | exact Ne.symm (by assumption))).trans ?_))
  try simp (decide := true) only [putD, Slots.put, if_true, if_false, iOps_zero]
  repeat (with_reducible refine And.intro ?_ ?_; · first | trivial | omega | (intro hg; simp only [Bool.and_eq_true, Bool.or_eq_true, Bool.not_eq_true', Bool.and_eq_false_iff, Bool.or_eq_false_iff, Bool.not_eq_false', decide_eq_true_eq, decide_eq_false_iff_not, eqNil] at hg; omega) )
  refine aOps_store (v := .agg [.bool (q.neg != y.neg), z7]) (by rfl) (by rfl) eb_12q7 sz40 (by rfl) (by rfl) (Nat.le_refl _) (Nat.zero_le _) (scal_big hz7.scal) ?_
  simp only [setAt, AVal.cells, List.length_nil, List.set_cons_zero, List.set_cons_succ, Nat.zero_add]
  have hz7c := (hz7.sub hr_g12q7).set_bool eb_12q7 ⟨[.bool (q.neg != y.neg), z7], 0⟩
  have hz4c := (((((((hz4.sub hr_g12q1).sub hr_h12q1).sub hr_g12q5).sub hr_h12q5).sub hr_g12q6).sub hr_h12q6).sub hr_g12q7).set_bool eb_12q7 ⟨[.bool (q.neg != y.neg), z7], 0⟩
  try simp (decide := true) only [aOps_nil, putD, Slots.keep, if_true, if_false]
  repeat (with_reducible refine And.intro ?_ ?_; · first | trivial | omega | (intro hg; simp only [Bool.and_eq_true, Bool.or_eq_true, Bool.not_eq_true', Bool.and_eq_false_iff, Bool.or_eq_false_iff, Bool.not_eq_false', decide_eq_true_eq, decide_eq_false_iff_not, eqNil] at hg; omega) )
  apply hK; clear hK K
  -- region 13  law.go:312
  refine awp_rseq [6, 9, 10, 11, 12] (by rfl) fun K hK => ?_
  simp (decide := true) only [ev, putD, Slots.put, Slots.get, if_true, if_false, true_and, ↓ap_loadL, apL_mk, pLoad_agg ag27 sz27, ↓ap_fieldAddr, pop_fieldAddr, fa27_2, pLoad_one ag3, rd_ne', ne_eq, not_false_eq_true, rd_own w₀ eb_6, ne_12q7_6.symm, cellsAt, List.getD_cons_zero, List.getD_cons_succ, Nat.zero_add, Nat.reduceAdd, lv_bool, lv_int, lv_str, allLive, Bool.and_true]
  repeat (with_reducible refine And.intro ?_ ?_; · first | trivial | omega | (intro hg; simp only [Bool.and_eq_true, Bool.or_eq_true, Bool.not_eq_true', Bool.and_eq_false_iff, Bool.or_eq_false_iff, Bool.not_eq_false', decide_eq_true_eq, decide_eq_false_iff_not, eqNil] at hg; omega) )
  refine aOps_call (by rfl) (by rfl) (c_whole w₀ _ y yv y.scale (by omega) (by omega)) fun x13q3 h13q3 hx13q3 => ?_
  obtain ⟨⟨z8, rfl, hz8⟩, hs8⟩ := hx13q3
  have lz8 := hz8.live
  have hs_h13q3 : Sub h h13q3 := Sub.trans (by repeat (first | exact Sub.refl _ | assumption | refine Sub.trans_set ?_ (by assumption))) hs8
  have eb_6 := hs8 k6 _ (by repeat (first | exact AHeap.set_same _ _ _ | assumption | refine (AHeap.set_ne _ _ (by first | assumption | exact Ne.symm (by assumption))).trans ?_))
  have eb_7 := hs8 k7 _ (by repeat (first | exact AHeap.set_same _ _ _ | assumption | refine (AHeap.set_ne _ _ (by first | assumption | exact Ne.symm (by assumption))).trans ?_))
  have eb_10 := hs8 k10 _ (by repeat (first | exact AHeap.set_same _ _ _ | assumption | refine (AHeap.set_ne _ _ (by first | assumption | exact Ne.symm (by assumption))).trans ?_))
  have eb_12q7 := hs8 k12q7 _ (by repeat (first | exact AHeap.set_same _ _ _ | assumption | refine (AHeap.set_ne _ _ (by first | assumption | exact Ne.symm (by assumption))).trans ?_))
  refine aOps_alloc ze40 (cs := [.bool false, .nilSlice]) (by rfl) fun k13q4 hk13q4 => ?_
  have hn_13q4 : h13q3 k13q4 = none := by first | assumption | (simp only [AHeap.set_none] at hk13q4; simp only [hk13q4])
  have hf_13q4 : h k13q4 = none := Sub.none hs_h13q3 hn_13q4
  have ne_13q4_6 : k13q4 ≠ k6 := AHeap.ne_some hn_13q4 eb_6
  have ne_13q4_7 : k13q4 ≠ k7 := AHeap.ne_some hn_13q4 eb_7
  have ne_13q4_10 : k13q4 ≠ k10 := AHeap.ne_some hn_13q4 eb_10
  have ne_13q4_12q7 : k13q4 ≠ k12q7 := AHeap.ne_some hn_13q4 eb_12q7
  refine aOps_store (v := .agg [.bool y.neg, z8]) (by rfl) (by rfl) (AHeap.set_same _ _ _) sz40 (by rfl) (by rfl) (Nat.le_refl _) (Nat.zero_le _) (scal_big hz8.scal) ?_
  simp only [setAt, AVal.cells, List.length_nil, List.set_cons_zero, List.set_cons_succ, Nat.zero_add]
  have hz7d := hz7c.sub hs8
  have hz4d := hz4c.sub hs8
  simp (decide := true) only [aOps_nil, putD, Slots.put, Slots.keep, if_true, if_false]
  repeat (with_reducible refine And.intro ?_ ?_; · first | trivial | omega | (intro hg; simp only [Bool.and_eq_true, Bool.or_eq_true, Bool.not_eq_true', Bool.and_eq_false_iff, Bool.or_eq_false_iff, Bool.not_eq_false', decide_eq_true_eq, decide_eq_false_iff_not, eqNil] at hg; omega) )
  apply hK; clear hK K
  exact quoC w₀ ht he h _ (by repeat (first | exact Sub.refl _ | assumption | refine Sub.set_both ?_ _ _ | refine Sub.trans_set ?_ (by repeat (first | assumption | refine (AHeap.set_ne _ _ (by first | assumption | exact Ne.symm (by assumption))).trans ?_)))) k6 k10 k12q7 k13q4 y.neg y.dig y.scale x.neg (q.neg != y.neg) y.neg z4 z7 z8 _ _ _ S (natOf x.dig * 10 ^ (S - x.scale).toNat) (quoN x y * natOf y.dig) (natOf y.dig) (by repeat (first | exact AHeap.set_same _ _ _ | assumption | refine (AHeap.set_ne _ _ (by first | assumption | exact Ne.symm (by assumption))).trans ?_)) (by repeat (first | exact AHeap.set_same _ _ _ | assumption | refine (AHeap.set_ne _ _ (by first | assumption | exact Ne.symm (by assumption))).trans ?_)) (by repeat (first | exact AHeap.set_same _ _ _ | assumption | refine (AHeap.set_ne _ _ (by first | assumption | exact Ne.symm (by assumption))).trans ?_)) (by repeat (first | exact AHeap.set_same _ _ _ | assumption | refine (AHeap.set_ne _ _ (by first | assumption | exact Ne.symm (by assumption))).trans ?_)) hf_12q7 hf_13q4 ne_12q7_10 ne_13q4_10 ne_13q4_12q7 (hz4d.sub (by repeat (first | exact Sub.refl _ | assumption | refine Sub.set_both ?_ _ _ | refine Sub.trans_set ?_ (by repeat (first | assumption | refine (AHeap.set_ne _ _ (by first | assumption | exact Ne.symm (by assumption))).trans ?_))))) (hz7d.sub (by repeat (first | exact Sub.refl _ | assumption | refine Sub.set_both ?_ _ _ | refine Sub.trans_set ?_ (by repeat (first | assumption | refine (AHeap.set_ne _ _ (by first | assumption | exact Ne.symm (by assumption))).trans ?_))))) (hz8.sub (by repeat (first | exact Sub.refl _ | assumption | refine Sub.set_both ?_ _ _ | refine Sub.trans_set ?_ (by repeat (first | assumption | refine (AHeap.set_ne _ _ (by first | assumption | exact Ne.symm (by assumption))).trans ?_))))) (whole_digZ xv _) hd7 (whole_digZ yv _) (whole_leV x _) (by rw [hv7, whole_self y, whole_leV q, show (30 - q.scale).toNat = 30 - q.scale.toNat by omega, qa, Int.natCast_mul]) (whole_self y) (by omega) hl7' (by omega) y0 y1 sy s92 (quo_law x0 y0 hny sx sy (hsm ())).1 (quo_law x0 y0 hny sx sy (hsm ())).2
set_option maxHeartbeats 2000000 in
theorem l_DecimalsQuotients (w₀ : World) (ht : Tab10 w₀) (he : Errs w₀) (h : AHeap) (neg : Bool) (v : AVal) (bs : List UInt8) (sc : UInt8) (hb : IsB w₀ h v bs) (hl : bs.length ≤ 9223372036854775807)
    (neg' : Bool) (v' : AVal) (bs' : List UInt8) (sc' : UInt8) (hb' : IsB w₀ h v' bs') (hl' : bs'.length ≤ 9223372036854775807) :
    ACall Tryz.prog w₀ 5 [.agg [.bool neg, v, .int .u8 sc.toNat], .agg [.bool neg', v', .int .u8 sc'.toNat]] h (fun x _ => x = .bool true) := by
  have hlv := hb.live
  have hlv' := hb'.live
  obtain ⟨x, hx⟩ : ∃ d, d = ofN neg bs sc := ⟨_, rfl⟩
  have xv : checkE x = 0 := by rw [hx]; exact ofN_check _ _ _
  obtain ⟨y, hy⟩ : ∃ d, d = ofN neg' bs' sc' := ⟨_, rfl⟩
  have yv : checkE y = 0 := by rw [hy]; exact ofN_check _ _ _
  obtain ⟨x0, x1⟩ : 0 ≤ x.scale ∧ x.scale ≤ 62 := ⟨(Small_of_check xv).1.s0, (Small_of_check xv).1.s1⟩
  obtain ⟨y0, y1⟩ : 0 ≤ y.scale ∧ y.scale ≤ 62 := ⟨(Small_of_check yv).1.s0, (Small_of_check yv).1.s1⟩
  obtain ⟨q, e, hq⟩ : ∃ a b, divE x y = (a, b) := ⟨_, _, rfl⟩
  refine acall_intro (n := 135) (rs := [.tmp 4]) Tryz.func5 rfl rfl rfl rfl (Nat.le_of_ble_eq_true rfl) ?_
  simp only [initSlots]
  -- region 0  law.go:294
  refine awp_rseq [2, 3] (by rfl) fun K hK => ?_
  refine aOps_box (by rfl) (by rfl) (by rfl) fun k0q0 hk0q0 => ?_
  try have hf_0q0 : h k0q0 = none := by first | assumption | (simp only [AHeap.set_none] at hk0q0; simp only [hk0q0])
  skip
  refine aOps_box (by rfl) (by rfl) (by rfl) fun k0q1 hk0q1 => ?_
  have ne_0q1_0q0 : k0q1 ≠ k0q0 := by simp only [AHeap.set_none] at hk0q1; simp only [hk0q1, ne_eq, not_false_eq_true]
  try have hf_0q1 : h k0q1 = none := by first | assumption | (simp only [AHeap.set_none] at hk0q1; simp only [hk0q1])
  skip
  simp (decide := true) only [aOps_nil, ev, absV, absS, putD, Slots.put, Slots.get, Slots.keep, if_true, if_false, true_and, ↓ap_assign, pop_assign, AVal.cells, Nat.zero_add]
  repeat (with_reducible refine And.intro ?_ ?_; · first | trivial | omega | (intro hg; simp only [Bool.and_eq_true, Bool.or_eq_true, Bool.not_eq_true', Bool.and_eq_false_iff, Bool.or_eq_false_iff, Bool.not_eq_false', decide_eq_true_eq, decide_eq_false_iff_not, eqNil] at hg; omega) )
  apply hK; clear hK K
  -- region 1  law.go:295
  refine awp_rseq [3, 5] (by rfl) fun K hK => ?_
  simp (decide := true) only [ev, putD, Slots.put, Slots.get, if_true, if_false, true_and, ↓ap_loadL, apL_mk, pLoad_agg ag24 sz24, rd_ne', ne_eq, not_false_eq_true, ne_0q1_0q0.symm, rd_any, cellsAt, List.getD_cons_zero, List.getD_cons_succ, Nat.zero_add, Nat.reduceAdd, lv_bool, lv_int, allLive, Bool.and_true, hlv]
  repeat (with_reducible refine And.intro ?_ ?_; · first | trivial | omega | (intro hg; simp only [Bool.and_eq_true, Bool.or_eq_true, Bool.not_eq_true', Bool.and_eq_false_iff, Bool.or_eq_false_iff, Bool.not_eq_false', decide_eq_true_eq, decide_eq_false_iff_not, eqNil] at hg; omega) )
  refine aOps_callV (V := decA x) (by rfl) (by rfl) ((c_ofN w₀ _ neg v bs sc (hb.mono (by repeat (first | exact Sub.refl _ | refine Sub.trans_set ?_ (by assumption)))) hl).val (by rw [hx])) ?_
  refine aOps_alloc ze27 (cs := [.bool false, .str [], .int .i64 0]) (by rfl) fun k1q2 hk1q2 => ?_
  have ne_1q2_0q0 : k1q2 ≠ k0q0 := by simp only [AHeap.set_none] at hk1q2; simp only [hk1q2, ne_eq, not_false_eq_true]
  have ne_1q2_0q1 : k1q2 ≠ k0q1 := by simp only [AHeap.set_none] at hk1q2; simp only [hk1q2, ne_eq, not_false_eq_true]
  try have hf_1q2 : h k1q2 = none := by first | assumption | (simp only [AHeap.set_none] at hk1q2; simp only [hk1q2])
  refine aOps_store (by rfl) (by rfl) (by repeat (first | exact AHeap.set_same _ _ _ | assumption | refine (AHeap.set_ne _ _ (by first | assumption | exact Ne.symm (by assumption))).trans ?_)) sz27 (by rfl) (by rfl) (by first | exact Nat.le_refl _ | decide | (simp; done) | (simp; omega)) (Nat.zero_le _) (by rfl) ?_
  simp only [AHeap.set_set, AVal.cells]
  simp (decide := true) only [aOps_nil, ev, putD, Slots.put, Slots.get, Slots.keep, if_true, if_false, setAt, List.set_cons_zero, List.set_cons_succ, Nat.zero_add, Nat.reduceAdd, decA]
  repeat (with_reducible refine And.intro ?_ ?_; · first | trivial | omega | (intro hg; simp only [Bool.and_eq_true, Bool.or_eq_true, Bool.not_eq_true', Bool.and_eq_false_iff, Bool.or_eq_false_iff, Bool.not_eq_false', decide_eq_true_eq, decide_eq_false_iff_not, eqNil] at hg; omega) )
  apply hK; clear hK K
  -- region 2  law.go:296
  refine awp_rseq [5, 6] (by rfl) fun K hK => ?_
  simp (decide := true) only [ev, putD, Slots.put, Slots.get, if_true, if_false, true_and, ↓ap_loadL, apL_mk, pLoad_agg ag24 sz24, rd_ne', ne_eq, not_false_eq_true, ne_1q2_0q1.symm, rd_any, cellsAt, List.getD_cons_zero, List.getD_cons_succ, Nat.zero_add, Nat.reduceAdd, lv_bool, lv_int, allLive, Bool.and_true, hlv']
  repeat (with_reducible refine And.intro ?_ ?_; · first | trivial | omega | (intro hg; simp only [Bool.and_eq_true, Bool.or_eq_true, Bool.not_eq_true', Bool.and_eq_false_iff, Bool.or_eq_false_iff, Bool.not_eq_false', decide_eq_true_eq, decide_eq_false_iff_not, eqNil] at hg; omega) )
  refine aOps_callV (V := decA y) (by rfl) (by rfl) ((c_ofN w₀ _ neg' v' bs' sc' (hb'.mono (by repeat (first | exact Sub.refl _ | refine Sub.trans_set ?_ (by assumption)))) hl').val (by rw [hy])) ?_
  refine aOps_alloc ze27 (cs := [.bool false, .str [], .int .i64 0]) (by rfl) fun k2q2 hk2q2 => ?_
  have ne_2q2_0q0 : k2q2 ≠ k0q0 := by simp only [AHeap.set_none] at hk2q2; simp only [hk2q2, ne_eq, not_false_eq_true]
  have ne_2q2_0q1 : k2q2 ≠ k0q1 := by simp only [AHeap.set_none] at hk2q2; simp only [hk2q2, ne_eq, not_false_eq_true]
  have ne_2q2_1q2 : k2q2 ≠ k1q2 := by simp only [AHeap.set_none] at hk2q2; simp only [hk2q2, ne_eq, not_false_eq_true]
  try have hf_2q2 : h k2q2 = none := by first | assumption | (simp only [AHeap.set_none] at hk2q2; simp only [hk2q2])
  refine aOps_store (by rfl) (by rfl) (by repeat (first | exact AHeap.set_same _ _ _ | assumption | refine (AHeap.set_ne _ _ (by first | assumption | exact Ne.symm (by assumption))).trans ?_)) sz27 (by rfl) (by rfl) (by first | exact Nat.le_refl _ | decide | (simp; done) | (simp; omega)) (Nat.zero_le _) (by rfl) ?_
  simp only [AHeap.set_set, AVal.cells]
  simp (decide := true) only [aOps_nil, ev, putD, Slots.put, Slots.get, Slots.keep, if_true, if_false, setAt, List.set_cons_zero, List.set_cons_succ, Nat.zero_add, Nat.reduceAdd, decA]
  repeat (with_reducible refine And.intro ?_ ?_; · first | trivial | omega | (intro hg; simp only [Bool.and_eq_true, Bool.or_eq_true, Bool.not_eq_true', Bool.and_eq_false_iff, Bool.or_eq_false_iff, Bool.not_eq_false', decide_eq_true_eq, decide_eq_false_iff_not, eqNil] at hg; omega) )
  apply hK; clear hK K
  -- region 3  law.go:297
  refine awp_rseq [5, 6, 7, 8] (by rfl) fun K hK => ?_
  simp (decide := true) only [ev, putD, Slots.put, Slots.get, if_true, if_false, true_and, ↓ap_loadL, apL_mk, pLoad_agg ag27 sz27, rd_ne', ne_eq, not_false_eq_true, ne_2q2_1q2.symm, rd_any, cellsAt, List.getD_cons_zero, List.getD_cons_succ, Nat.zero_add, Nat.reduceAdd, lv_bool, lv_int, lv_str, allLive, Bool.and_true]
  repeat (with_reducible refine And.intro ?_ ?_; · first | trivial | omega | (intro hg; simp only [Bool.and_eq_true, Bool.or_eq_true, Bool.not_eq_true', Bool.and_eq_false_iff, Bool.or_eq_false_iff, Bool.not_eq_false', decide_eq_true_eq, decide_eq_false_iff_not, eqNil] at hg; omega) )
  refine aOps_callV (V := .tuple [decA q, .int .i64 e]) (by rfl) (by rfl) ((c_Div w₀ _ x y (check_len xv) (check_len yv)).val (by rw [hq])) ?_
  simp (decide := true) only [ev, putD, Slots.put, Slots.get, if_true, if_false, true_and, ↓ap_move, pop_move, ↓ap_extract, pop_extract, pExt_tuple, List.length_cons, List.length_nil, List.getD_cons_zero, List.getD_cons_succ, List.getD_cons_zero, List.getD_cons_succ, Nat.zero_add, Nat.reduceAdd, decA]
  repeat (with_reducible refine And.intro ?_ ?_; · first | trivial | omega | (intro hg; simp only [Bool.and_eq_true, Bool.or_eq_true, Bool.not_eq_true', Bool.and_eq_false_iff, Bool.or_eq_false_iff, Bool.not_eq_false', decide_eq_true_eq, decide_eq_false_iff_not, eqNil] at hg; omega) )
  refine aOps_alloc ze27 (cs := [.bool false, .str [], .int .i64 0]) (by rfl) fun k3q6 hk3q6 => ?_
  have ne_3q6_0q0 : k3q6 ≠ k0q0 := by simp only [AHeap.set_none] at hk3q6; simp only [hk3q6, ne_eq, not_false_eq_true]
  have ne_3q6_0q1 : k3q6 ≠ k0q1 := by simp only [AHeap.set_none] at hk3q6; simp only [hk3q6, ne_eq, not_false_eq_true]
  have ne_3q6_1q2 : k3q6 ≠ k1q2 := by simp only [AHeap.set_none] at hk3q6; simp only [hk3q6, ne_eq, not_false_eq_true]
  have ne_3q6_2q2 : k3q6 ≠ k2q2 := by simp only [AHeap.set_none] at hk3q6; simp only [hk3q6, ne_eq, not_false_eq_true]
  try have hf_3q6 : h k3q6 = none := by first | assumption | (simp only [AHeap.set_none] at hk3q6; simp only [hk3q6])
  refine aOps_store (by rfl) (by rfl) (by repeat (first | exact AHeap.set_same _ _ _ | assumption | refine (AHeap.set_ne _ _ (by first | assumption | exact Ne.symm (by assumption))).trans ?_)) sz27 (by rfl) (by rfl) (by first | exact Nat.le_refl _ | decide | (simp; done) | (simp; omega)) (Nat.zero_le _) (by rfl) ?_
  simp only [AHeap.set_set, AVal.cells]
  simp (decide := true) only [aOps_nil, ev, putD, Slots.put, Slots.get, Slots.keep, if_true, if_false, true_and, ↓ap_assign, pop_assign, setAt, List.set_cons_zero, List.set_cons_succ, Nat.zero_add, Nat.reduceAdd]
  repeat (with_reducible refine And.intro ?_ ?_; · first | trivial | omega | (intro hg; simp only [Bool.and_eq_true, Bool.or_eq_true, Bool.not_eq_true', Bool.and_eq_false_iff, Bool.or_eq_false_iff, Bool.not_eq_false', decide_eq_true_eq, decide_eq_false_iff_not, eqNil] at hg; omega) )
  apply hK; clear hK K
  refine awp_seq ?_
  -- region 4  law.go:298
  refine awp_rseq [5, 6, 7, 8, 26] (by rfl) fun K hK => ?_
  simp (decide := true) only [aOps_nil, ev, absV, absS, putD, Slots.put, Slots.get, Slots.keep, if_true, if_false, true_and, ↓ap_fieldAddr, pop_fieldAddr, fa27_1, ↓ap_loadL, apL_mk, pLoad_one ag9, ↓ap_binOp, pop_binOp, isNilC_str, cond_false, pBinX_str, pS_eql, rd_ne', ne_eq, not_false_eq_true, ne_3q6_2q2.symm, rd_any, List.getD_cons_zero, List.getD_cons_succ, Nat.zero_add, lv_str]
  repeat (with_reducible refine And.intro ?_ ?_; · first | trivial | omega | (intro hg; simp only [Bool.and_eq_true, Bool.or_eq_true, Bool.not_eq_true', Bool.and_eq_false_iff, Bool.or_eq_false_iff, Bool.not_eq_false', decide_eq_true_eq, decide_eq_false_iff_not, eqNil] at hg; omega) )
  apply hK; clear hK K
  refine awp_cond (b := _) rfl (fun hb1 => ?_) (fun hb1 => ?_)
  · try simp only [decide_eq_true_eq] at hb1
    rw [divE, if_pos ⟨xv, yv⟩, if_pos hb1] at hq
    obtain ⟨q1, q2⟩ := Prod.mk.inj hq
    subst q1 q2
    -- region 5  law.go:299
    refine awp_rseq [4] (by rfl) fun K hK => ?_
    simp (decide := true) only [ev, absV, absS, putD, Slots.put, Slots.get, if_true, if_false, true_and, ↓ap_move, pop_move, ↓ap_binOp, pop_binOp, isNilC_int, cond_false, pBinX_int, pI_eql, ↓ag_loadL, agQL_some, agL_mk, agP, agQ_some, nthDst, gKnown_bool, guardB_bool_true, implies_true, decide_true, condV_true, Bool.and_true, Bool.true_and, pLoad_agg ag27 sz27, ↓ag_build, ↓pop_buildL, bld27_, evP, List.map_nil, ↓ag_binOp, isNilC_tmp, pBinX_agg, eq27, ↓ap_pick, pop_pick, pPick_bool, pickV_and, rd_any, cellsAt, List.getD_cons_zero, List.getD_cons_succ, Nat.zero_add, Nat.reduceAdd, lv_bool, lv_int, lv_str, allLive, Bool.and_true]
    repeat (with_reducible refine And.intro ?_ ?_; · first | trivial | omega | (intro hg; simp only [Bool.and_eq_true, Bool.or_eq_true, Bool.not_eq_true', Bool.and_eq_false_iff, Bool.or_eq_false_iff, Bool.not_eq_false', decide_eq_true_eq, decide_eq_false_iff_not, eqNil] at hg; omega) )
    first
    | (refine aOps_yes (by rfl) ?_; refine aOps_callV (V := .bool true) (by rfl) (by rfl) (c_lives12 w₀ ht he _) ?_)
    | (refine aOps_gcall (V := .bool true) (f := _) (cap := _) (xs := _) rfl (fun hg => ⟨rfl, ?_⟩) (fun hg => c_lives12 w₀ ht he _) ?_; · (simp (decide := true) only [gv, nthDst, Slots.get, if_true, if_false, guardB_bool_true, guardB_bool_false, guardB_cond, Bool.not_not] at hg; simp (decide := true) only [evs, ev, Slots.get, if_true, if_false, hg, condV_true, List.append_nil, List.map_cons, List.map_nil, absV, absS] <;> try rfl))
    simp (decide := true) only [aOps_nil, ev, absV, absS, putD, Slots.put, Slots.get, Slots.keep, if_true, if_false, true_and, ↓ap_pick, pop_pick, pPick_bool, pickV_and, ↓ap_assign, pop_assign, Bool.and_true]
    repeat (with_reducible refine And.intro ?_ ?_; · first | trivial | omega | (intro hg; simp only [Bool.and_eq_true, Bool.or_eq_true, Bool.not_eq_true', Bool.and_eq_false_iff, Bool.or_eq_false_iff, Bool.not_eq_false', decide_eq_true_eq, decide_eq_false_iff_not, eqNil] at hg; omega) )
    apply hK; clear hK K
    refine awp_ret ?_
    try simp only [thenA_ret]
    refine retA_ret _ (Sub.refl _) (resPre_tmp (resPre_nil)) ?_
    simp (decide := true) only [Slots.get, if_true, resOf_one]
    all_goals first | rfl | exact ⟨rfl, rfl⟩ | (simp (decide := true) only [if_true, if_false, *]; done) | (trace_state; fail)
  · try simp only [decide_eq_false_iff_not] at hb1
    have hny := zero_dig yv hb1
    rw [divE, if_pos ⟨xv, yv⟩, if_neg hb1] at hq
    have hq' : resE (canon (x.neg != y.neg) (quoN x y) 30) = (q, e) := by
      rw [← hq, normE, show (-(30 : Int)).toNat = 0 by decide, Nat.pow_zero, Nat.mul_one]
      rfl
    refine awp_skip ?_
    change Awp _ _ _ _ _ _ _
    refine awp_seq ?_
    -- region 6  law.go:301
    refine awp_rseq [5, 6, 7, 8, 38] (by rfl) fun K hK => ?_
    simp (decide := true) only [aOps_nil, ev, absV, absS, putD, Slots.put, Slots.get, Slots.keep, if_true, if_false, true_and, ↓ap_move, pop_move, ↓ap_binOp, pop_binOp, isNilC_int, cond_false, pBinX_int, pI_neq]
    repeat (with_reducible refine And.intro ?_ ?_; · first | trivial | omega | (intro hg; simp only [Bool.and_eq_true, Bool.or_eq_true, Bool.not_eq_true', Bool.and_eq_false_iff, Bool.or_eq_false_iff, Bool.not_eq_false', decide_eq_true_eq, decide_eq_false_iff_not, eqNil] at hg; omega) )
    apply hK; clear hK K
    refine awp_cond (b := _) rfl (fun hb2 => ?_) (fun hb2 => ?_)
    · try simp only [decide_eq_false_iff_not, Bool.not_eq_true'] at hb2
      have hlong : 62 < long (canon (x.neg != y.neg) (quoN x y) 30) := by
        refine Classical.byContradiction fun hn => ?_
        rw [resE_ok hn] at hq'
        exact hb2 (Prod.mk.inj hq').2.symm
      have hlt := quo_lt xv yv hny hlong
      rw [resE_long hlong] at hq'
      obtain ⟨q1, q2⟩ := Prod.mk.inj hq'
      subst q1 q2
      have nd1 : noD.neg = false := rfl
      have nd2 : noD.dig = [] := rfl
      have nd3 : noD.scale = 0 := rfl
      -- region 7  law.go:303
      refine awp_dseq_any [4] mixed (by kernel_rfl) (by rfl) fun K hK => ?_
      simp (decide := true) only [ev, absV, absS, putD, Slots.put, Slots.get, if_true, if_false, true_and, ↓vp_move, pop_move, ↓vp_binOp, pop_binOp, isNilC_int, cond_false, pBinX_int, pI_eql, ↓vg_load, pop_load, vgQ_some, vgP, nthDst, gKnown_bool, guardB_bool_true, implies_true, decide_true, decide_false, Bool.not_false, condV_true, Bool.and_true, pLoad_agg ag27 sz27, ↓vg_build, ↓pop_buildL, bld27_, evP, List.map_nil, ↓vg_binOp, isNilC_tmp, pBinX_agg, eq27, ↓vp_pick, pop_pick, pPick_bool, pickV_and, rd_ne', ne_eq, not_false_eq_true, ne_2q2_1q2.symm, ne_3q6_1q2.symm, rd_any, cellsAt, List.getD_cons_zero, List.getD_cons_succ, Nat.zero_add, Nat.reduceAdd, lv_bool, lv_int, lv_str, allLive, Bool.and_true, nd1, nd2, nd3, beq_self_eq_true, decide_true, Bool.and_true, condV_true]
      repeat (with_reducible refine And.intro ?_ ?_; · first | trivial | omega | (intro hg; simp only [Bool.and_eq_true, Bool.or_eq_true, Bool.not_eq_true', Bool.and_eq_false_iff, Bool.or_eq_false_iff, Bool.not_eq_false', decide_eq_true_eq, decide_eq_false_iff_not, eqNil] at hg; omega) )
      refine vOps_gcall (V := .int .i64 (long x)) (f := _) (cap := _) (xs := _) rfl (fun hg => ⟨rfl, ?_⟩) (fun hg => c_Long w₀ _ x) ?_
      · try simp (decide := true) only [gv, nthDst, Slots.get, if_true, if_false, guardB_bool_true] at hg
        simp (decide := true) only [evs, ev, Slots.get, if_true, if_false, List.append_nil, List.map_cons, List.map_nil] <;> try rfl
      simp (decide := true) only [ev, putD, Slots.put, Slots.get, if_true, if_false, true_and, gv, nthDst, guardB_bool_true, ↓vg_load, pop_load, vgQ_some, vgP, gKnown_bool, implies_true, condV_true, Bool.and_true, pLoad_agg ag27 sz27, rd_ne', ne_eq, not_false_eq_true, ne_3q6_2q2.symm, rd_any, cellsAt, List.getD_cons_zero, List.getD_cons_succ, Nat.zero_add, Nat.reduceAdd, lv_bool, lv_int, lv_str, allLive, Bool.and_true, Bool.and_true, condV_true]
      repeat (with_reducible refine And.intro ?_ ?_; · first | trivial | omega | (intro hg; simp only [Bool.and_eq_true, Bool.or_eq_true, Bool.not_eq_true', Bool.and_eq_false_iff, Bool.or_eq_false_iff, Bool.not_eq_false', decide_eq_true_eq, decide_eq_false_iff_not, eqNil] at hg; omega) )
      refine vOps_gcall (V := .int .i64 (long y)) (f := _) (cap := _) (xs := _) rfl (fun hg => ⟨rfl, ?_⟩) (fun hg => c_Long w₀ _ y) ?_
      · try simp (decide := true) only [gv, nthDst, Slots.get, if_true, if_false, guardB_bool_true] at hg
        simp (decide := true) only [evs, ev, Slots.get, if_true, if_false, List.append_nil, List.map_cons, List.map_nil] <;> try rfl
      simp (decide := true) only [ev, absV, absS, putD, Slots.put, Slots.get, if_true, if_false, true_and, gv, nthDst, guardB_bool_true, ↓vg_binOp, pop_binOp, vgP, vgQ_some, gKnown_bool, implies_true, condV_true, Bool.true_and, isNilC_tmp, cond_false, pBinX_int, pI_add, isNilC_int, pI_gtr, ↓vp_pick, pop_pick, pPick_bool, pickV_and, ↓vp_move, pop_move, condV_true]
      try simp (disch := omega) only [wrap_i64, wrap_u8]
      repeat (with_reducible refine And.intro ?_ ?_; · first | trivial | omega | (intro hg; simp only [Bool.and_eq_true, Bool.or_eq_true, Bool.not_eq_true', Bool.and_eq_false_iff, Bool.or_eq_false_iff, Bool.not_eq_false', decide_eq_true_eq, decide_eq_false_iff_not, eqNil] at hg; omega) )
      refine vOps_gcall (V := .bool true) (f := _) (cap := _) (xs := _) rfl (fun hg => ⟨rfl, ?_⟩) (fun hg => c_lives12 w₀ ht he _) ?_
      · try simp (decide := true) only [gv, nthDst, Slots.get, if_true, if_false, guardB_bool_true] at hg
        simp (decide := true) only [evs, hg, List.append_nil, List.map_nil] <;> try rfl
      simp (decide := true) only [vOps_nil, ev, absV, absS, putD, Slots.put, Slots.get, Slots.keep, if_true, if_false, true_and, gv, nthDst, guardB_bool_true, ↓vp_pick, pop_pick, pPick_bool, pickV_cond_l, pickV_and, ↓vp_assign, pop_assign, Bool.and_true, Bool.and_true]
      repeat (with_reducible refine And.intro ?_ ?_; · first | trivial | omega | (intro hg; simp only [Bool.and_eq_true, Bool.or_eq_true, Bool.not_eq_true', Bool.and_eq_false_iff, Bool.or_eq_false_iff, Bool.not_eq_false', decide_eq_true_eq, decide_eq_false_iff_not, eqNil] at hg; omega) )
      apply hK; clear hK K
      refine awp_ret ?_
      try simp only [thenA_ret]
      refine retA_ret _ (Sub.refl _) (resPre_tmp (resPre_nil)) ?_
      simp (decide := true) only [Slots.get, if_true, resOf_one]
      have L1 : 0 ≤ long x ∧ long x ≤ 62 := ⟨by unfold long; omega, (val_canon xv).2⟩
      have L2 : 0 ≤ long y ∧ long y ≤ 62 := ⟨by unfold long; omega, (val_canon yv).2⟩
      rw [wrap_i64 (n := long x + long y) (by omega) (by omega), wrap_i64 (by omega) (by omega), decide_eq_true (by omega)]
    · try simp only [decide_eq_true_eq, Bool.not_eq_false'] at hb2
      have he0 : e = 0 := by omega
      subst he0
      have hln : ¬ 62 < long (canon (x.neg != y.neg) (quoN x y) 30) := fun hl => by
        rw [resE_long hl] at hq'
        exact absurd (Prod.mk.inj hq').2 (by decide)
      rw [resE_ok hln] at hq'
      have hqc := (Prod.mk.inj hq').1
      have qv : checkE q = 0 := by rw [← hqc]; exact check_canon _ _ _ (by omega)
      obtain ⟨qa, qb⟩ := canon_at (x.neg != y.neg) (quoN x y) 30
      obtain ⟨_, _, qn⟩ := natOf_canon (x.neg != y.neg) (quoN x y) 30
      rw [hqc] at qa qb qn
      have q0 := (Small_of_check qv).1.s0
      have q30 : q.scale ≤ 30 := by omega
      have hqd : q.dig = [48] ∨ q.neg = (x.neg != y.neg) := by
        by_cases hz : quoN x y = 0
        · left
          rw [hz, canon_zero] at hqc
          rw [← hqc]
          rfl
        · right
          rw [qn, if_neg hz]
      refine awp_skip ?_
      change Awp _ _ _ _ _ _ _
      refine awp_seq ?_
      -- region 8  law.go:305
      refine awp_rseq [5, 6, 7, 80] (by rfl) fun K hK => ?_
      simp (decide := true) only [ev, putD, Slots.put, Slots.get, if_true, if_false, true_and, ↓ap_loadL, apL_mk, pLoad_agg ag27 sz27, rd_any, cellsAt, List.getD_cons_zero, List.getD_cons_succ, Nat.zero_add, Nat.reduceAdd, lv_bool, lv_int, lv_str, allLive, Bool.and_true]
      repeat (with_reducible refine And.intro ?_ ?_; · first | trivial | omega | (intro hg; simp only [Bool.and_eq_true, Bool.or_eq_true, Bool.not_eq_true', Bool.and_eq_false_iff, Bool.or_eq_false_iff, Bool.not_eq_false', decide_eq_true_eq, decide_eq_false_iff_not, eqNil] at hg; omega) )
      refine aOps_callV (V := .int .i64 0) (by rfl) (by rfl) ((c_Check w₀ _ q (check_len qv)).val (by rw [qv])) ?_
      simp (decide := true) only [aOps_nil, ev, absV, absS, putD, Slots.put, Slots.get, Slots.keep, if_true, if_false, true_and, ↓ap_binOp, pop_binOp, isNilC_int, cond_false, pBinX_int, pI_neq, ↓ap_move, pop_move, ↓ag_fieldAddr, pop_fieldAddr, agP, agQ_some, nthDst, gKnown_bool, gKnown_cond, guardB_cond, guardB_bool_true, guardB_bool_false, cv_cv, implies_true, decide_true, Bool.not_false, Bool.not_true, condV_true, Bool.false_or, fa27_2, ↓ag_loadL, agQL_some, agL_mk, agL_ld2, agL_ld3, pLoad_one ag3, ↓ag_binOp, cv_binl, cv_binr, cp_binl, cp_binr, pI_gtr, ↓ap_pick, pop_pick, pPick_bool, pickV_cond_r, cp_nest1, pickV_and, pickV_or, fa27_1, pLoad_one ag9, isNilC_str, pBinX_str, pS_neq, ↓ag_move, fa27_0, pLoad_one ag4, isNilC_tmp, pBinX_bne, Tryz.underlying4, ↓ag_pick, cv_pick, cp_pick, rd_ne', ne_eq, not_false_eq_true, ne_2q2_1q2.symm, ne_3q6_1q2.symm, ne_3q6_2q2.symm, rd_any, List.getD_cons_zero, List.getD_cons_succ, Nat.zero_add, lv_bool, lv_int, lv_str]
      repeat (with_reducible refine And.intro ?_ ?_; · first | trivial | omega | (intro hg; simp only [Bool.and_eq_true, Bool.or_eq_true, Bool.not_eq_true', Bool.and_eq_false_iff, Bool.or_eq_false_iff, Bool.not_eq_false', decide_eq_true_eq, decide_eq_false_iff_not, eqNil] at hg; omega) )
      apply hK; clear hK K
      refine awp_cond (b := _) rfl (fun hb3 => ?_) (fun hb3 => ?_)
      · exfalso
        rw [decide_eq_false (by omega), Bool.false_or] at hb3
        rcases hqd with e | e
        · rw [decide_eq_true e] at hb3
          cases hb3
        · rw [e] at hb3
          revert hb3
          cases x.neg <;> cases y.neg <;> simp
      · try simp only [decide_eq_true_eq, decide_eq_false_iff_not, Bool.not_eq_false', Bool.and_eq_false_iff, Bool.or_eq_false_iff] at hb3
        clear hb3 hqd
        obtain ⟨S, hmx, hsm, sx, sy, s92⟩ : ∃ S, (∀ _ : Unit, max x.scale (30 + y.scale) = S) ∧ (∀ _ : Unit, S = x.scale ∨ S = 30 + y.scale) ∧ x.scale ≤ S ∧ 30 + y.scale ≤ S ∧ S ≤ 92 := ⟨_, fun _ => rfl, fun _ => by omega, by omega, by omega, by omega⟩
        have ew30 : IntKind.i64.wrap (30 + y.scale) = 30 + y.scale := wrap_i64 (by omega) (by omega)
        refine awp_skip ?_
        change Awp _ _ _ _ _ _ _
        -- region 10  law.go:309
        refine awp_rseq [5, 6, 7, 9] (by rfl) fun K hK => ?_
        simp (decide := true) only [aOps_nil, ev, absV, absS, putD, Slots.put, Slots.get, Slots.keep, if_true, if_false, true_and, ↓ap_fieldAddr, pop_fieldAddr, fa27_2, ↓ap_loadL, apL_mk, pLoad_one ag3, ↓ap_binOp, pop_binOp, isNilC_tmp, cond_false, pBinX_int, pI_add, ↓ap_max, pop_max, pMax_int, evs, List.map_cons, List.map_nil, ↓ap_assign, pop_assign, rd_ne', ne_eq, not_false_eq_true, ne_2q2_1q2.symm, ne_3q6_1q2.symm, ne_3q6_2q2.symm, rd_any, List.getD_cons_zero, List.getD_cons_succ, Nat.zero_add, lv_int, ew30, hmx ()]
        try simp (disch := omega) only [wrap_i64, wrap_u8]
        repeat (with_reducible refine And.intro ?_ ?_; · first | trivial | omega | (intro hg; simp only [Bool.and_eq_true, Bool.or_eq_true, Bool.not_eq_true', Bool.and_eq_false_iff, Bool.or_eq_false_iff, Bool.not_eq_false', decide_eq_true_eq, decide_eq_false_iff_not, eqNil] at hg; omega) )
        apply hK; clear hK K
        -- region 11  law.go:310
        refine awp_rseq [6, 7, 9, 10] (by rfl) fun K hK => ?_
        simp (decide := true) only [ev, putD, Slots.put, Slots.get, if_true, if_false, true_and, ↓ap_loadL, apL_mk, pLoad_agg ag27 sz27, ↓ap_move, pop_move, rd_ne', ne_eq, not_false_eq_true, ne_2q2_1q2.symm, ne_3q6_1q2.symm, rd_any, cellsAt, List.getD_cons_zero, List.getD_cons_succ, Nat.zero_add, Nat.reduceAdd, lv_bool, lv_int, lv_str, allLive, Bool.and_true]
        repeat (with_reducible refine And.intro ?_ ?_; · first | trivial | omega | (intro hg; simp only [Bool.and_eq_true, Bool.or_eq_true, Bool.not_eq_true', Bool.and_eq_false_iff, Bool.or_eq_false_iff, Bool.not_eq_false', decide_eq_true_eq, decide_eq_false_iff_not, eqNil] at hg; omega) )
        refine aOps_call (by rfl) (by rfl) (c_whole w₀ _ x xv S (by omega) (by omega)) fun x11q2 h11q2 hx11q2 => ?_
        obtain ⟨⟨z4, rfl, hz4⟩, hs4⟩ := hx11q2
        have lz4 := hz4.live
        have hs_h11q2 : Sub h h11q2 := Sub.trans (by repeat (first | exact Sub.refl _ | assumption | refine Sub.trans_set ?_ (by assumption))) hs4
        have hr_h11q2 := hs_h11q2
        have eb_0q0 := hs4 k0q0 _ (by repeat (first | exact AHeap.set_same _ _ _ | assumption | refine (AHeap.set_ne _ _ (by first | assumption | exact Ne.symm (by assumption))).trans ?_))
        have eb_0q1 := hs4 k0q1 _ (by repeat (first | exact AHeap.set_same _ _ _ | assumption | refine (AHeap.set_ne _ _ (by first | assumption | exact Ne.symm (by assumption))).trans ?_))
        have eb_1q2 := hs4 k1q2 _ (by repeat (first | exact AHeap.set_same _ _ _ | assumption | refine (AHeap.set_ne _ _ (by first | assumption | exact Ne.symm (by assumption))).trans ?_))
        have eb_2q2 := hs4 k2q2 _ (by repeat (first | exact AHeap.set_same _ _ _ | assumption | refine (AHeap.set_ne _ _ (by first | assumption | exact Ne.symm (by assumption))).trans ?_))
        have eb_3q6 := hs4 k3q6 _ (by repeat (first | exact AHeap.set_same _ _ _ | assumption | refine (AHeap.set_ne _ _ (by first | assumption | exact Ne.symm (by assumption))).trans ?_))
        refine aOps_alloc ze40 (cs := [.bool false, .nilSlice]) (by rfl) fun k11q3 hk11q3 => ?_
        have hn_11q3 : h11q2 k11q3 = none := by first | assumption | (simp only [AHeap.set_none] at hk11q3; simp only [hk11q3])
        have hf_11q3 : h k11q3 = none := Sub.none hs_h11q2 hn_11q3
        have ne_11q3_0q0 : k11q3 ≠ k0q0 := AHeap.ne_some hn_11q3 eb_0q0
        have ne_11q3_0q1 : k11q3 ≠ k0q1 := AHeap.ne_some hn_11q3 eb_0q1
        have ne_11q3_1q2 : k11q3 ≠ k1q2 := AHeap.ne_some hn_11q3 eb_1q2
        have ne_11q3_2q2 : k11q3 ≠ k2q2 := AHeap.ne_some hn_11q3 eb_2q2
        have ne_11q3_3q6 : k11q3 ≠ k3q6 := AHeap.ne_some hn_11q3 eb_3q6
        refine aOps_store (v := .agg [.bool x.neg, z4]) (by rfl) (by rfl) (AHeap.set_same _ _ _) sz40 (by rfl) (by rfl) (Nat.le_refl _) (Nat.zero_le _) (scal_big hz4.scal) ?_
        simp only [setAt, AVal.cells, List.length_nil, List.set_cons_zero, List.set_cons_succ, Nat.zero_add]
        simp (decide := true) only [aOps_nil, putD, Slots.put, Slots.keep, if_true, if_false]
        repeat (with_reducible refine And.intro ?_ ?_; · first | trivial | omega | (intro hg; simp only [Bool.and_eq_true, Bool.or_eq_true, Bool.not_eq_true', Bool.and_eq_false_iff, Bool.or_eq_false_iff, Bool.not_eq_false', decide_eq_true_eq, decide_eq_false_iff_not, eqNil] at hg; omega) )
        apply hK; clear hK K
        exact quoB w₀ ht he h _ (by repeat (first | exact Sub.refl _ | assumption | refine Sub.set_both ?_ _ _ | refine Sub.trans_set ?_ (by repeat (first | assumption | refine (AHeap.set_ne _ _ (by first | assumption | exact Ne.symm (by assumption))).trans ?_)))) k2q2 k3q6 k11q3 x y q z4 S (by repeat (first | exact AHeap.set_same _ _ _ | assumption | refine (AHeap.set_ne _ _ (by first | assumption | exact Ne.symm (by assumption))).trans ?_)) (by repeat (first | exact AHeap.set_same _ _ _ | assumption | refine (AHeap.set_ne _ _ (by first | assumption | exact Ne.symm (by assumption))).trans ?_)) (by repeat (first | exact AHeap.set_same _ _ _ | assumption | refine (AHeap.set_ne _ _ (by first | assumption | exact Ne.symm (by assumption))).trans ?_)) xv yv qv (hz4.sub (by repeat (first | exact Sub.refl _ | assumption | refine Sub.set_both ?_ _ _ | refine Sub.trans_set ?_ (by repeat (first | assumption | refine (AHeap.set_ne _ _ (by first | assumption | exact Ne.symm (by assumption))).trans ?_))))) x0 y0 y1 q0 q30 sx sy s92 hsm hny qa
end Go.Proofs.YthiiakghjoeikaaGreatDoor

/-
  The arguments of the statements, opened: numbers as plain data, grids, decimals, pairs; the listed table.
  Conditions: none.
-/
namespace Go.Proofs.YthiiakghjoeikaaGreatDoor
open Go.AM
open Go.ChangeShapes Go.WideShapes Go.ChangeAt Go.RowKit
set_option maxRecDepth 100000

section
variable {H : Type} {enc : TypeId × Value → H} {W : World} {base : Nat} {v : Value} {x : DataW H × List MemPlace}

theorem u8_of {n : Int} (h : (Lit.int .u8 n).wf = true) : ∃ b : UInt8, (b.toNat : Int) = n := by
  have := wf_u8 h
  exact ⟨UInt8.ofNat n.toNat, by rw [UInt8.toNat_ofNat']; omega⟩

theorem arg_N (h : ∃ fuel, DataW.trod enc Tryz.prog W 0 (fun _ => true) true fuel 24 v.cells.toList = some x) (hv : Value.okWide Tryz.prog W .any base 24 v) :
    ∃ (neg : Bool) (y : AVal) (bs : List UInt8) (sc : UInt8), VR (fun _ => none) (.agg [.bool neg, y, .int .u8 sc.toNat]) v ∧ IsB W (fun _ => none) y bs ∧ bs.length ≤ 9223372036854775807 := by
  obtain ⟨cs, rfl, hsz⟩ := okWide_struct Tryz.underlying24 hv
  obtain ⟨fuel, hf⟩ := h
  obtain ⟨y0, y1, y2, n, _, hl, h0, h1, h2⟩ := Go.Deep.trod_struct3 Tryz.underlying24 hf
  rw [show Tryz.prog.cellsOf 24 = 3 by kernel_rfl] at hsz hl
  obtain ⟨l⟩ := cs
  match l, hsz with
  | [c0, c1, c2], _ =>
    simp only [show Tryz.prog.cellsOf 4 = 1 by kernel_rfl, show Tryz.prog.cellsOf 22 = 1 by kernel_rfl, show Tryz.prog.cellsOf 5 = 1 by kernel_rfl, Value.cells, List.drop_zero, List.drop_succ_cons, List.take_succ_cons, List.take_zero] at h0 h1 h2
    obtain ⟨b, e0, _⟩ := DataW.trod_bool Tryz.underlying4 h0
    obtain ⟨m, e2, _, hw⟩ := DataW.trod_int Tryz.underlying5 h2
    obtain ⟨sc, hs⟩ := u8_of hw
    simp only [List.cons.injEq, and_true] at e0 e2
    subst e0 e2
    have fin : ∀ (a : Option Addr) (len cap : Nat) (zs : List Int), c1 = .slice a len cap → IsRow .u8 W a len cap zs → ∃ (neg : Bool) (y : AVal) (bs : List UInt8) (sc : UInt8), VR (fun _ => none) (.agg [.bool neg, y, .int .u8 sc.toNat]) (.agg #[.bool b, c1, .int .u8 m]) ∧ IsB W (fun _ => none) y bs ∧ bs.length ≤ 9223372036854775807 := by
      rintro a len cap zs rfl hr
      obtain ⟨y, bs, hy, hb, hlen, hmx, _⟩ := isB_of_row hr
      refine ⟨b, y, bs, sc, ?_, hb, by omega⟩
      simp only [VR]
      refine ⟨_, rfl, ?_⟩
      simp only [VRs]
      exact ⟨_, _, rfl, by simp only [VR], _, _, rfl, hy, _, _, rfl, by simp only [VR, hs], rfl⟩
    rcases open_ints Tryz.underlying22 Tryz.underlying5 (by kernel_rfl) h1 with ⟨hcs, _⟩ | ⟨x', l', c', zs, hcs, _, hl', hm', hz, _, hcell, hwz⟩
    · simp only [List.cons.injEq, and_true] at hcs
      exact fin _ _ _ [] hcs (.inl ⟨rfl, rfl, rfl, rfl⟩)
    · simp only [List.cons.injEq, and_true] at hcs
      exact fin _ _ _ zs hcs (.inr ⟨_, rfl, hl', hm', by simpa using hz, hcell, hwz⟩)
end
/-- The listed table of powers of ten. -/
theorem tab_of {W : World} {rest : List (String × DataW Unit)} (h : laidMet Tryz.prog (("internal/strconv.uint64pow10", Rows.laid_internal_strconv_uint64pow10) :: rest) W) : Tab10 W :=
  Lib.tabIs_of_head (g := 0) (by kernel_rfl) (by kernel_rfl) (show Tryz.prog.underlying 134 = _ from Tryz.underlying134) Tryz.underlying111 (by kernel_rfl) (by kernel_rfl) h
end Go.Proofs.YthiiakghjoeikaaGreatDoor

/-
  The arguments of the statements, opened: decimals, pairs of integers.
  Conditions: none.
-/
namespace Go.Proofs.YthiiakghjoeikaaGreatDoor
open Go.AM
open Go.Dec
open Go.ChangeShapes Go.WideShapes Go.ChangeAt Go.RowKit
set_option maxRecDepth 100000

section
variable {H : Type} {enc : TypeId × Value → H} {W : World} {base : Nat} {v : Value} {x : DataW H × List MemPlace}

end
end Go.Proofs.YthiiakghjoeikaaGreatDoor

/-
  The arguments of the statements, opened: booleans, texts, integers; the errors of the library that a row lists.
  Conditions: none.
-/
namespace Go.Proofs.YthiiakghjoeikaaGreatDoor
open Go.AM
open Go.ChangeShapes Go.WideShapes Go.ChangeAt Go.RowKit
set_option maxRecDepth 100000

section
variable {H : Type} {enc : TypeId × Value → H} {W : World} {base : Nat} {v : Value} {x : DataW H × List MemPlace}
end
theorem star_err : "*" ++ "errors.errorString" = "*errors.errorString" := by decide
theorem row_err (u : TypeId) (h : Tryz.prog.typeName? 3 u = some "*errors.errorString") : u = 155 :=
  typeName_ptr_named (nm := "errors.errorString") (by rw [star_err]; kernel_rfl) (by kernel_rfl) (by decide) u (by rw [star_err]; exact h)
/-- The listed error. -/
theorem errs_of {W : World} {rest : List (String × DataW Unit)} (h : laidMet Tryz.prog (("strconv.ErrRange", Rows.laid_strconv_ErrRange) :: rest) W) : Errs W := by
  obtain ⟨a, s, hv, _⟩ := laid_sentinel (g := 3) (tp := 155) h (by kernel_rfl) (by kernel_rfl) Tryz.underlying82 row_err Tryz.underlying155 Tryz.underlying157 (by kernel_rfl) (by kernel_rfl) Tryz.underlying9 (by kernel_rfl) (by kernel_rfl)
  exact ⟨_, by rw [World.var?_cell (g := 3) (by kernel_rfl) hv 0]; rfl, .inr ⟨_, _, rfl⟩⟩
end Go.Proofs.YthiiakghjoeikaaGreatDoor

