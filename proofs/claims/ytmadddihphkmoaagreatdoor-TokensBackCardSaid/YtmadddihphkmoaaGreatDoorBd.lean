/-
  Texts of this proof, joined: LbA, LbB, TkK, TkL, CoE, TkM, TkN, CoF, CoG, CoH, CoI, CoJ, TkO, TkP, TkQ, BmB, TkW, TkX, TkY, TkZ, TlA, TlB, TlC.
  Conditions: none.
-/
import Derived.Test.YtmadddihphkmoaaGreatDoorBb
import Derived.Test.YtmadddihphkmoaaGreatDoorBc
set_option linter.unusedSimpArgs false
set_option linter.unnecessarySimpa false
set_option linter.unusedVariables false
/-
  Contracts of strings.Builder's methods.
  Conditions: none.
-/
namespace Go.Proofs.YtmadddihphkmoaaGreatDoor
open Go.AM
open Go.Proofs
set_option maxRecDepth 100000

theorem cc_fresh (b : Nat) (w : World) (T : TypeId) (cells : Nat) (h0 : w.cell? ⟨b, 0, none⟩ = some (.pointer none)) (hsh : w.shape? b = some (T, cells)) (hc : 0 < cells)
    (hlies : liesAt Tryz.prog Tryz.prog.depth T (cells / Tryz.prog.cellsOf T) 0 99 1 = true) (hfz : w.frozen? ⟨b, 0, none⟩ = false) :
    Calls Tryz.prog 66 #[.pointer (some ⟨b, 0, none⟩)] w fun e w' => e = .returned (.tuple #[]) ∧ w' = w.setCell ⟨b, 0, none⟩ (.pointer (some ⟨b, 0, none⟩)) := by
  have hsz : (Tryz.prog.info? 99).map (·.size) = some 2 := by kernel_rfl
  obtain ⟨j, hj, hjs⟩ := Option.map_eq_some_iff.1 hsz
  go_enter Tryz.func66, Tryz.ntmps66
  go_wp2
  rw [Lib.run_to_unsafe w ⟨b, 0, none⟩ Tryz.underlying96 Tryz.underlying153 hj (by rw [hjs]; decide) hsh hc]
  simp only [Result.andThen]
  rw [Oper.upon_value]
  go_wp2
  rw [run_callFunc_extern Tryz.func93 (by kernel_rfl) (by kernel_rfl) (by kernel_rfl) (e := Extern.AbiNoEscape.same) (by kernel_rfl)]
  rw [Lib.run_noEscape]
  simp only [Result.andThen]
  rw [Oper.upon_value]
  go_wp2
  rw [Lib.run_from_unsafe w ⟨b, 0, none⟩ Tryz.underlying153 Tryz.underlying96 hj hsh hlies]
  simp only [Result.andThen]
  rw [Oper.upon_value]
  go_wp2
  go_end0
  exact ⟨rfl, rfl⟩

theorem cc_used (b : Nat) (w : World) (h0 : w.cell? ⟨b, 0, none⟩ = some (.pointer (some ⟨b, 0, none⟩))) :
    Calls Tryz.prog 66 #[.pointer (some ⟨b, 0, none⟩)] w fun e w' => e = .returned (.tuple #[]) ∧ w' = w := by
  have hsz : (Tryz.prog.info? 99).map (·.size) = some 2 := by kernel_rfl
  obtain ⟨j, hj, hjs⟩ := Option.map_eq_some_iff.1 hsz
  go_enter Tryz.func66, Tryz.ntmps66
  go_wp2
  rw [Lib.run_neq_ptr_same w _ Tryz.underlying96 hj]
  go_wp2
  go_end0
  exact ⟨rfl, rfl⟩

/-- A variable in which a builder stands first. -/
structure BldT (T : TypeId) (m : Nat) : Prop where
  lies : liesAt Tryz.prog Tryz.prog.depth T 1 0 99 1 = true
  cells : Tryz.prog.cellsOf T = m
  two : 2 ≤ m
theorem c_copyCheck (w₀ : World) (h : AHeap) (k : Nat) (rest : List AVal) (st : Bld) (T : TypeId) (hT : BldT T (rest.length + 2)) (ht : tyOf k = some T) (hst : st.ok 5 h k) :
    ACall Tryz.prog w₀ 66 [.ptr (.own k) 0] (bldH h k rest st) (fun v h' => v = .tuple [] ∧ h' = bldH h k rest ⟨true, st.buf⟩) := by
  intro φ vals w hr hvs
  simp only [VRs, VR] at hvs
  obtain ⟨v, vs', rfl, ⟨a, ha, rfl⟩, rfl⟩ := hvs
  obtain ⟨p, hp, hp0, ok⟩ := hr.own k _ (bldH_head hst)
  obtain ⟨t0, cs0, fr0, hcs0⟩ := hr.typ k p hp T ht
  simp only [Xc, hp, Option.map_some, Option.some.injEq] at ha
  obtain ⟨cs, e, lo, hi, h1, h2, h3, h4, h5, h6⟩ := ok.row
  rw [hcs0] at h1
  cases h1
  obtain ⟨c0, hc0, hv0⟩ := ok.cell 0 (by simp)
  have hfz := ok.frozen 0 (Nat.zero_le _) (by simp at h3; omega)
  rw [t0] at hc0 hfz ha
  simp only [Nat.zero_add] at hc0 hfz ha
  subst ha
  have hsh : w.shape? p.blk = some (T, cs0.size) := by simp [World.shape?, hcs0]
  have hr' := hr.setCell (bldH_head hst) hp (o := 0) (x := .ptr (.own k) 0) (v := .pointer (some ⟨p.blk, 0, none⟩)) (by simp only [VR]; exact ⟨_, by simp [Xc, hp, t0], rfl⟩) rfl (by simp) (Nat.zero_le _)
  simp only [List.set_cons_zero] at hr'
  rw [bldH_used hst, t0] at hr'
  have hun : VR φ (.tuple []) (.tuple #[]) := by simp only [VR]; exact ⟨[], rfl, by simp [VRs]⟩
  refine .inl ⟨_, Tryz.func66, rfl, rfl, ?_⟩
  simp only [List.getD_cons_zero] at hv0
  by_cases hu : st.used = true
  · have e0 : st.head k = .ptr (.own k) 0 := by rw [Bld.head, if_pos hu]
    rw [e0] at hv0
    simp only [VR, Xc, hp, Option.map_some, Option.some.injEq] at hv0
    obtain ⟨a, ha, rfl⟩ := hv0
    subst ha
    rw [t0] at hc0
    refine (cc_used p.blk w (by simpa using hc0)).mono fun e w' ⟨e1, e2⟩ => ⟨.tuple #[], e1, φ, .tuple [], _, φ.le_refl, ?_, hun, rfl, rfl⟩
    rw [e2]
    have : st = ⟨true, st.buf⟩ := by cases st; simp at hu; simp [hu]
    rw [← this]
    exact hr
  · have e0 : st.head k = .nilPtr := by rw [Bld.head, if_neg hu]
    rw [e0] at hv0
    simp only [VR] at hv0
    subst hv0
    have hle : rest.length + 2 ≤ cs0.size := by simp at h3; omega
    refine (cc_fresh p.blk w T cs0.size hc0 hsh (by omega) (liesAt_first hT.lies (fun m u => by rw [Tryz.underlying99]; simp) (by
      rw [hT.cells]
      exact Nat.div_pos hle (by omega))) hfz).mono fun e w' ⟨e1, e2⟩ => ⟨.tuple #[], e1, φ, .tuple [], _, φ.le_refl, ?_, hun, rfl, rfl⟩
    rw [e2]
    exact hr'

set_option maxHeartbeats 1000000 in
theorem bs_some (b g cap cells : Nat) (l : List UInt8) (h0 : l ≠ []) (w : World) (hc1 : w.cell? ⟨b, 1, none⟩ = some (.slice (some ⟨g, 0, none⟩) l.length cap)) (hcap : cap ≠ 0) (hsh : w.shape? g = some (5, cells)) (hn : l.length ≤ cells)
    (h63 : l.length ≤ 9223372036854775807) (hcell : ∀ j x, l[j]? = some x → w.cell? ((⟨g, 0, none⟩ : Addr).add j) = some (.int .u8 x.toNat)) :
    Calls Tryz.prog 41 #[.pointer (some ⟨b, 0, none⟩)] w fun e w' => e = .returned (.string ⟨l.toArray⟩) ∧ w' = w.drew.freeze ⟨g, 0, none⟩ l.length := by
  have c1 : w.drew.cell? ⟨b, 1, none⟩ = some (.slice (some ⟨g, 0, none⟩) l.length cap) := hc1
  have hSD : (Builtin.unsafeSliceData_ #[97] 131 #[.slice (some ⟨g, 0, none⟩) l.length cap]).run Tryz.prog w.drew = .ok (.pointer (some ⟨g, 0, none⟩)) w.drew := Lib.run_unsafeSliceData_row _ _ _ _ _ _ hcap
  have hUS : (Builtin.unsafeString_ #[131, 3] 9 #[.pointer (some ⟨g, 0, none⟩), .int .i64 l.length]).run Tryz.prog w.drew = .ok (.string ⟨l.toArray⟩) (w.drew.freeze ⟨g, 0, none⟩ l.length) :=
    Lib.run_unsafeString_row w.drew 131 3 9 5 Tryz.underlying131 (by kernel_rfl) g cells hsh l h0 hn h63 hcell
  go_enter Tryz.func41, Tryz.ntmps41
  go_wp2
  have hmx : Tryz.prog.follows Departure.mixedOrders = true := mixed
  go_region_o
  all_goals (go_wp2; go_ret; exact ⟨rfl, rfl⟩)

set_option maxHeartbeats 1000000 in
theorem bs_nil (b : Nat) (w : World) (hc1 : w.cell? ⟨b, 1, none⟩ = some (.slice none 0 0)) :
    Calls Tryz.prog 41 #[.pointer (some ⟨b, 0, none⟩)] w fun e w' => e = .returned (.string ⟨#[]⟩) ∧ w' = w.drew := by
  have c1 : w.drew.cell? ⟨b, 1, none⟩ = some (.slice none 0 0) := hc1
  have hSD : (Builtin.unsafeSliceData_ #[97] 131 #[.slice none 0 0]).run Tryz.prog w.drew = .ok (.pointer none) w.drew := rfl
  have hUS : (Builtin.unsafeString_ #[131, 3] 9 #[.pointer none, .int .i64 0]).run Tryz.prog w.drew = .ok (.string .empty) w.drew := rfl
  go_enter Tryz.func41, Tryz.ntmps41
  go_wp2
  have hmx : Tryz.prog.follows Departure.mixedOrders = true := mixed
  go_region_o
  all_goals (go_wp2; go_ret; exact ⟨rfl, rfl⟩)

/-- What a builder holds; the builder is forgotten. -/
theorem c_bString (w₀ : World) (h : AHeap) (k : Nat) (rest : List AVal) (st : Bld) (T : TypeId) (hk : h k = none) (ht : tyOf k = some T) (hst : st.ok 5 h k) (hl : st.bytes.length ≤ 140737488355328) :
    ACall Tryz.prog w₀ 41 [.ptr (.own k) 0] (bldH h k rest st) (fun v h' => v = .str st.bytes ∧ h' = h) := by
  intro φ vals w hr hvs
  simp only [VRs, VR] at hvs
  obtain ⟨v, vs', rfl, ⟨a, ha, rfl⟩, rfl⟩ := hvs
  obtain ⟨p, hp, hp0, ok⟩ := hr.own k _ (bldH_head hst)
  obtain ⟨t0, cs0, fr0, hcs0⟩ := hr.typ k p hp T ht
  simp only [Xc, hp, Option.map_some, Option.some.injEq] at ha
  obtain ⟨c1, hc1, hv1⟩ := ok.cell 1 (by simp)
  rw [t0] at hc1 ha
  simp only [Nat.zero_add] at hc1 ha
  subst ha
  simp only [List.getD_cons_succ, List.getD_cons_zero] at hv1
  refine .inl ⟨_, Tryz.func41, rfl, rfl, ?_⟩
  cases hb : st.buf with
  | none =>
    have e1 := Bld.slice_nil hb
    have e2 := Bld.bytes_nil hb
    rw [e1] at hv1
    simp only [VR] at hv1
    subst hv1
    rw [e2]
    refine (bs_nil p.blk w hc1).mono fun e w' ⟨e1, e2⟩ => ⟨_, e1, φ, .str [], h, φ.le_refl, ?_, rfl, rfl, rfl⟩
    rw [e2]
    exact hr.drew.forget (Sub.bldH hk hst)
  | some q =>
    obtain ⟨kb, l⟩ := q
    have e1 := Bld.slice_some hb
    have e2 := Bld.bytes_some hb
    obtain ⟨s1, s2, s3, s4⟩ := (Bld.ok_some hb).1 hst
    have hkb := bldH_buf (h := h) (k := k) (rest := rest) hb
    obtain ⟨pb, hpb, hpb0, okb⟩ := hr.own kb _ hkb
    obtain ⟨tb0, csb, frb, hcsb⟩ := hr.typ kb pb hpb _ s3
    obtain ⟨cs, e, lo, hi, h1, h2, h3, h4, h5, h6⟩ := okb.row
    rw [hcsb] at h1
    cases h1
    rw [byteCells_length] at h3
    rw [e1] at hv1
    simp only [VR] at hv1
    obtain ⟨k', p', c, a, hk', hp', rfl, hle, hca⟩ := hv1
    cases hk'
    rw [hpb] at hp'
    cases hp'
    have hln : l.length ≠ 0 := by simpa using s4
    obtain ⟨ha, hroom⟩ := hca (by omega)
    subst ha
    rw [tb0] at hc1
    rw [e2]
    rw [e2] at hl
    refine (bs_some p.blk pb.blk c csb.size l s4 w hc1 (by omega) (by simp [World.shape?, hcsb]) (by omega) (by omega) fun j x hj => ?_).mono fun e w' ⟨f1, f2⟩ => ⟨_, f1, φ, .str l, h, φ.le_refl, ?_, rfl, rfl, rfl⟩
    · have hjl : j < l.length := by
        rcases Nat.lt_or_ge j l.length with hx | hx
        · exact hx
        · rw [List.getElem?_eq_none hx] at hj; cases hj
      obtain ⟨cj, hcj, hvj⟩ := okb.cell j (by rw [byteCells_length]; exact hjl)
      rw [tb0, Nat.zero_add] at hcj
      simp only [byteCells_getD hjl] at hvj
      simp only [VR] at hvj
      subst hvj
      have ex : l.getD j 0 = x := by rw [List.getD, hj]; rfl
      rw [ex] at hcj
      have e8 : (⟨pb.blk, 0, none⟩ : Addr).add j = ⟨pb.blk, j, none⟩ := by
        unfold Addr.add
        by_cases hi : j = 0 <;> simp [hi]
      rw [e8]
      exact hcj
    · subst f2
      obtain ⟨z1, z2, z3, z4, z5, z6⟩ := freeze_facts w.drew ⟨pb.blk, 0, none⟩ l.length
      exact hr.drew.dropRow hkb hpb z1 z2 z3 z4 z5 z6 fun j c hj => ⟨Sub.bldH hk hst j c hj, fun e => by subst e; rw [s2] at hj; cases hj⟩
end Go.Proofs.YtmadddihphkmoaaGreatDoor

/-
  Contracts of strings.Builder's writing methods.
  Conditions: none.
-/
namespace Go.Proofs.YtmadddihphkmoaaGreatDoor
open Go.AM
open Go.Proofs
set_option maxRecDepth 100000

theorem u8_typ : (5 : Nat) < 4096 := by decide
theorem c_WriteByte (w₀ : World) (h : AHeap) (k : Nat) (rest : List AVal) (st : Bld) (T : TypeId) (hT : BldT T (rest.length + 2)) (ht : tyOf k = some T) (hk : h k = none) (hst : st.ok 5 h k) (c : UInt8) (hl : st.bytes.length + 1 ≤ 140737488355328) :
    ACall Tryz.prog w₀ 112 [.ptr (.own k) 0, .int .u8 c.toNat] (bldH h k rest st) (fun v h' => v = .nilIface ∧ ∃ st' : Bld, st'.ok 5 h k ∧ st'.bytes = st.bytes ++ [c] ∧ h' = bldH h k rest st') := by
  have hst2 : (⟨true, st.buf⟩ : Bld).ok 5 h k := hst
  have hhead := bldH_head (rest := rest) hst2
  refine qY (n := 17) (rs := [.tmp 4]) Tryz.func112 rfl rfl rfl rfl (Nat.le_of_ble_eq_true rfl) ?_
  simp only [Qf]
  refine awp_rseq [0, 1] (by rfl) fun K hK => ?_
  simp +decide only [qa, ev, qK, qH, putD, Slots.put, Slots.keep, if_true, if_false, true_and, ↓qc, qb]
  apply hK; clear hK K
  refine awp_rseq [0, 1] (by rfl) fun K hK => ?_
  simp +decide only [ev, putD, Slots.put, Slots.get, if_true, if_false, true_and, ↓qg, qd]
  refine Xp (by rfl) (by rfl) (c_copyCheck w₀ h k rest st T hT ht hst) fun x1q1 h1q1 hx1q1 => ?_
  obtain ⟨rfl, rfl⟩ := hx1q1
  simp +decide only [qa, putD, Slots.put, Slots.keep, if_true, if_false]
  apply hK; clear hK K
  refine awp_rseq [] (by rfl) fun K hK => ?_
  simp +decide only [ev, putD, Slots.put, Slots.get, if_true, if_false, true_and, ↓qg, qd, ↓QC, Qc, QI, ↓qF, qo, fa99_1, ↓qJ, Qb, qD ag97, Bld.slice_live, List.getD_cons_zero, List.getD_cons_succ, Xd w₀ hhead]
  refine Qk (cs := byteCells [c]) (by rfl) fun k6 hk6 => ?_
  refine aOps_appendBld (src := [c]) (h₀ := h) (k := k) (cs := rest) (st := ⟨true, st.buf⟩) (by rfl) (by rfl) Tryz.underlying97 Tryz.underlying97 (by intro k e; cases e) sz5 by5 ze5 u8_typ (by rfl) hk hst2 (Sub.set hk6) (by rfl) (SrcB.of (IsB.own (AHeap.set_same _ _ _) rfl (Nat.le_refl _))) (by simpa [Bld.bytes] using hl) fun st' hu' hst' hb' h' hk' hsub => ?_
  simp +decide only [ev, putD, Slots.put, Slots.get, if_true, if_false, true_and, ↓QC, Qc, QI, ↓qF, qo, fa99_1]
  refine qp (by rfl) (by rfl) hk' sz97 (Bld.slice_live _) (by rw [Bld.slice_cells]; rfl) (by simp) (Nat.zero_le _) (by rw [Bld.slice_cells]; simp [allScal, Bld.slice_scal]) ?_
  rw [Bld.slice_cells]
  simp only [setAt, List.set_cons_succ, List.set_cons_zero]
  have hhd : st'.head k = (⟨true, st.buf⟩ : Bld).head k := by unfold Bld.head; rw [hu']
  rw [hhd] at hsub
  simp +decide only [qa, putD, Slots.keep, if_false]
  apply hK; clear hK K
  refine awp_rseq [4] (by rfl) fun K hK => ?_
  simp +decide only [qa, ev, qK, qH, putD, Slots.put, Slots.keep, if_true, true_and, ↓qc, qb]
  apply hK; clear hK K
  refine qU ?_
  refine qO (bldH h k rest st') hsub (Qd (Qe)) ?_
  simp +decide only [Slots.get, if_true, true_and, QD]
  exact ⟨st', hst', hb', rfl⟩
theorem c_WriteString (w₀ : World) (h : AHeap) (k : Nat) (rest : List AVal) (st : Bld) (T : TypeId) (hT : BldT T (rest.length + 2)) (ht : tyOf k = some T) (hk : h k = none) (hst : st.ok 5 h k) (c : List UInt8) (hl : st.bytes.length + c.length ≤ 140737488355328) :
    ACall Tryz.prog w₀ 39 [.ptr (.own k) 0, .str c] (bldH h k rest st) (fun v h' => v = .tuple [.int .i64 c.length, .nilIface] ∧ ∃ st' : Bld, st'.ok 5 h k ∧ st'.bytes = st.bytes ++ c ∧ h' = bldH h k rest st') := by
  have hst2 : (⟨true, st.buf⟩ : Bld).ok 5 h k := hst
  have hhead := bldH_head (rest := rest) hst2
  refine qY (n := 19) (rs := [.tmp 4, .tmp 5]) Tryz.func39 rfl rfl rfl rfl (Nat.le_of_ble_eq_true rfl) ?_
  simp only [Qf]
  refine awp_rseq [0, 1] (by rfl) fun K hK => ?_
  simp +decide only [qa, ev, qK, qH, putD, Slots.put, Slots.keep, if_true, if_false, true_and, ↓qc, qb]
  apply hK; clear hK K
  refine awp_rseq [0, 1] (by rfl) fun K hK => ?_
  simp +decide only [ev, putD, Slots.put, Slots.get, if_true, if_false, true_and, ↓qg, qd]
  refine Xp (by rfl) (by rfl) (c_copyCheck w₀ h k rest st T hT ht hst) fun x1q1 h1q1 hx1q1 => ?_
  obtain ⟨rfl, rfl⟩ := hx1q1
  simp +decide only [qa, putD, Slots.put, Slots.keep, if_true, if_false]
  apply hK; clear hK K
  refine awp_rseq [1] (by rfl) fun K hK => ?_
  simp +decide only [ev, putD, Slots.put, Slots.get, if_true, if_false, true_and, ↓qg, qd, ↓QC, Qc, QI, ↓qF, qo, fa99_1, ↓qJ, Qb, qD ag97, Bld.slice_live, List.getD_cons_zero, List.getD_cons_succ, Xd w₀ hhead]
  refine aOps_appendBld (src := c) (h₀ := h) (k := k) (cs := rest) (st := ⟨true, st.buf⟩) (by rfl) (by rfl) Tryz.underlying97 Tryz.underlying9 (by intro k e; cases e) sz5 by5 ze5 u8_typ (by rfl) hk hst2 (Sub.refl _) (by rfl) (SrcB.str _ _ _) (by simpa [Bld.bytes] using hl) fun st' hu' hst' hb' h' hk' hsub => ?_
  simp +decide only [ev, putD, Slots.put, Slots.get, if_true, if_false, true_and, ↓QC, Qc, QI, ↓qF, qo, fa99_1]
  refine qp (by rfl) (by rfl) hk' sz97 (Bld.slice_live _) (by rw [Bld.slice_cells]; rfl) (by simp) (Nat.zero_le _) (by rw [Bld.slice_cells]; simp [allScal, Bld.slice_scal]) ?_
  rw [Bld.slice_cells]
  simp only [setAt, List.set_cons_succ, List.set_cons_zero]
  have hhd : st'.head k = (⟨true, st.buf⟩ : Bld).head k := by unfold Bld.head; rw [hu']
  rw [hhd] at hsub
  simp +decide only [qa, putD, Slots.keep, if_true, if_false]
  apply hK; clear hK K
  refine awp_rseq [4, 5] (by rfl) fun K hK => ?_
  simp +decide only [qa, ev, qK, qH, putD, Slots.put, Slots.get, Slots.keep, if_true, if_false, true_and, ↓qg, qd, ↓Xw, QH, Zk Tryz.underlying9, ↓qc, qb]
  apply hK; clear hK K
  refine qU ?_
  refine qO (bldH h k rest st') hsub (Qd (Qd (Qe))) ?_
  simp +decide only [Slots.get, if_true, if_false, true_and, resOf_two]
  exact ⟨st', hst', hb', rfl⟩
end Go.Proofs.YtmadddihphkmoaaGreatDoor

/-
  Contracts: quote of the scanner.
  Conditions: none.
-/
namespace Go.Proofs.YtmadddihphkmoaaGreatDoor
open Go.AM
open Go.Proofs
open Go.Col
open Go.Tok
open Go.RowKit (Below)
set_option maxRecDepth 100000

theorem Bld.slice_lenT {st : Bld} : st.slice = .nilSlice ∧ st.bytes = [] ∨ ∃ l o c, st.slice = .slice l o st.bytes.length c := by
  cases hb : st.buf with
  | none => exact .inl ⟨Bld.slice_nil hb, Bld.bytes_nil hb⟩
  | some q => exact .inr ⟨.own q.1, 0, .grow 1, by rw [Bld.slice_some (kb := q.1) (l := q.2) hb, Bld.bytes_some (kb := q.1) (l := q.2) hb]⟩
theorem c_bLenT (w₀ : World) (h : AHeap) (k : Nat) (rest : List AVal) (st : Bld) (hst : st.ok 5 h k) :
    ACall Tryz.prog w₀ 40 [.ptr (.own k) 0] (bldH h k rest st) (fun v h' => v = .int .i64 st.bytes.length ∧ h' = bldH h k rest st) := by
  have hhead := bldH_head (rest := rest) hst
  have r1 : rd w₀ (bldH h k rest st) (.own k) 1 = st.slice := Xd w₀ hhead 1
  have hl : pLen Tryz.prog 97 st.slice = ⟨True, .int .i64 st.bytes.length⟩ := by
    rcases Bld.slice_lenT (st := st) with ⟨e1, e2⟩ | ⟨l, o, c, e⟩
    · rw [e1, e2]; exact pLen_nil Tryz.underlying97
    · rw [e]; exact XH Tryz.underlying97 _ _ _ _
  refine qY (n := 8) (rs := [.tmp 2]) Tryz.func40 rfl rfl rfl rfl (Nat.le_of_ble_eq_true rfl) ?_
  simp only [Qf]
  refine awp_rseq [0] (by rfl) fun K hK => ?_
  simp +decide only [qa, ev, qK, qH, putD, Slots.put, Slots.keep, if_true, if_false, true_and, ↓qc, qb]
  apply hK; clear hK K
  refine awp_rseq [2] (by rfl) fun K hK => ?_
  simp +decide only [qa, ev, putD, Slots.put, Slots.get, Slots.keep, if_true, if_false, true_and, ↓qg, qd, ↓QC, Qc, QI, ↓qF, qo, fa99_1, ↓qJ, Qb, qD ag97, ↓Xw, QH, ↓qc, qb, r1, Bld.slice_live, hl]
  apply hK; clear hK K
  refine qU ?_
  refine qO _ (Sub.refl _) (Qd (Qe)) ?_
  simp +decide only [Slots.get, if_true, and_true, QD]
  all_goals first | rfl | exact ⟨rfl, rfl⟩ | (simp +decide only [if_true, if_false, *]; done) | (trace_state; fail)
theorem bldT_selfT : BldT 99 ([] : List AVal).length.succ.succ := ⟨by kernel_rfl, by kernel_rfl, by decide⟩
set_option maxHeartbeats 1000000 in
theorem c_quote (w₀ : World) (h : AHeap) (kx : Nat) (lf : Bool) (s : Str) (mv tv : AVal) (i : Nat) (eb_x : h kx = some ⟨[.bool lf, .str s, mv, .int .i64 i, tv], 0⟩) (hi : i < s.length) (hs : s.length ≤ 1099511627776) :
    ACall Tryz.prog w₀ 87 [.ptr (.own kx) 0] h (fun r h' => r = nxR (quoteE s i) ∧ h' = h) := by
  have hs_h : Sub h h := Sub.refl h
  refine qY (n := 44) (rs := [.cell 2 38, .tmp 3, .tmp 4]) Tryz.func87 rfl rfl rfl rfl (Nat.le_of_ble_eq_true rfl) ?_
  simp only [Qf]
  refine awp_rseq [0, 2] (by rfl) fun K hK => ?_
  refine Qh ze38 (cs := [.int .u8 0, .str [], .int .i64 0, .int .i64 0, .bool false]) (by rfl) fun k0q0 hk0q0 => ?_
  have hn_0q0 : h k0q0 = none := by first | assumption | (simp only [AHeap.set_none] at hk0q0; simp only [hk0q0])
  have hf_0q0 : h k0q0 = none := Sub.none hs_h hn_0q0
  have ne_0q0_x : k0q0 ≠ kx := AHeap.ne_some hn_0q0 eb_x
  simp +decide only [qa, ev, qK, qH, putD, Slots.put, Slots.keep, if_true, if_false, true_and, ↓qc, qb]
  apply hK; clear hK K
  refine awp_aseqT [0, 2, 5] (by decide) (by decide) ze99 (cs := [.nilPtr, .nilSlice]) (by rfl) fun k1q0 hk1q0 ht1q0 => ?_
  simp +decide only [Slots.put, Slots.keep, if_true, if_false]
  have ne_1q0_0q0 : k1q0 ≠ k0q0 := by simp only [AHeap.set_none] at hk1q0; simp only [hk1q0, ne_eq, not_false_eq_true]
  have hn_1q0 : h k1q0 = none := by first | assumption | (simp only [AHeap.set_none] at hk1q0; simp only [hk1q0])
  have hf_1q0 : h k1q0 = none := Sub.none hs_h hn_1q0
  have ne_1q0_x : k1q0 ≠ kx := AHeap.ne_some hn_1q0 eb_x
  obtain ⟨H, hH⟩ : ∃ H, H = h.set k0q0 ⟨[.int .u8 0, .str [], .int .i64 0, .int .i64 0, .bool false], 0⟩ := ⟨_, rfl⟩
  have hxH : H kx = some ⟨[.bool lf, .str s, mv, .int .i64 i, tv], 0⟩ := by rw [hH]; exact (by repeat (first | exact AHeap.set_same _ _ _ | assumption | refine (AHeap.set_ne _ _ (by first | assumption | exact Ne.symm (by assumption))).trans ?_))
  have h0H : H k0q0 = some ⟨[.int .u8 0, .str [], .int .i64 0, .int .i64 0, .bool false], 0⟩ := by rw [hH]; exact (by repeat (first | exact AHeap.set_same _ _ _ | assumption | refine (AHeap.set_ne _ _ (by first | assumption | exact Ne.symm (by assumption))).trans ?_))
  have hsH : Sub h H := by rw [hH]; exact (by repeat (first | exact Sub.refl _ | assumption | refine Sub.set_both ?_ _ _ | refine Sub.trans_set ?_ (by repeat (first | assumption | refine (AHeap.set_ne _ _ (by first | assumption | exact Ne.symm (by assumption))).trans ?_))))
  rw [← hH] at hk1q0 ⊢
  refine qN ?_
  refine awp_rseq [0, 2, 5, 6] (by rfl) fun K hK => ?_
  simp +decide only [qa, ev, qK, qH, putD, Slots.put, Slots.keep, if_true, if_false, true_and, ↓qc, qb]
  apply hK; clear hK K
  refine Qt ?_
  refine XW [0, 2, 5, 6] (fun g : Nat × Bld => [(0, .ptr (.own kx) 0), (2, .ptr (.own k0q0) 0), (5, .ptr (.own k1q0) 0), (6, .int .i64 g.1)]) (fun g : Nat × Bld => bldH H k1q0 [] g.2) (fun g : Nat × Bld => i + g.1 ≤ s.length ∧ g.2.ok 5 H k1q0 ∧ Xe (s.drop (i + g.1)) g.2.bytes g.1 = quoteE s i ∧ g.2.bytes.length ≤ g.1) (fun g : Nat × Bld => s.length - g.1) (1, Bld.none) (by rfl) (Sub.refl _) ⟨hi, Bld.none_ok, rfl, Nat.zero_le _⟩ ?_
  rintro ⟨n, st⟩ ⟨hn, hst, hgo, hbl⟩
  simp only at hn hst hgo hbl ⊢
  have hsb := Sub.bldH (rest := []) hk1q0 hst
  have hSb := hsH.trans hsb
  have hxb := hsb _ _ hxH
  have h0b := hsb _ _ h0H
  have rx := fun o => Xd w₀ hxb o
  refine qN ?_
  refine awp_dseq_all [0, 2, 5, 6, 19] mixed (by kernel_rfl) (by rfl) (by rfl) fun K hK => ?_
  simp +decide only [qa, ev, putD, Slots.put, Slots.get, Slots.keep, if_true, if_false, true_and, ↓qg, qd, ↓QC, Qc, QI, ↓qF, qo, fa89_1, ↓qJ, Qb, qD ag3, ↓qw, qh, qP, cond_false, qm, Xk, fa89_0, fa48_1, qD ag9, ↓Xw, QH, Zk Tryz.underlying9, pI_lss, List.getD_cons_zero, List.getD_cons_succ, Nat.zero_add, qj, qE, rx]
  try simp (disch := omega) only [wrap_i64]
  apply hK; clear hK K
  refine qM (b := _) rfl (fun hb1 => ?_) (fun hb1 => ?_)
  · try simp only [decide_eq_true_eq] at hb1
    have hin : i + n < s.length := by omega
    have hpn : qA s ((i : Int) + n) = s.getD (i + n) 0 := by rw [show (i : Int) + (n : Int) = ((i + n : Nat) : Int) by omega, Qn hin]
    have hpn1 : qA s ((i : Int) + ((n : Int) + 1)) = qA s ((i + n + 1 : Nat) : Int) := by congr 1
    rw [drop_eq hin] at hgo
    refine qZ ?_
    change Awp _ _ _ _ _ _ _
    refine qN ?_
    refine Qt ?_
    refine qN ?_
    refine awp_rseq [0, 2, 5, 6, 25] (by rfl) fun K hK => ?_
    simp +decide only [ev, putD, Slots.put, Slots.get, if_true, if_false, true_and, ↓qg, qd]
    refine qL (V := .int .u8 (s.getD (i + n) 0).toNat) (by rfl) (by rfl) (by rw [← hpn]; exact c_peek w₀ _ kx lf s mv tv i n hxb (by omega) (by omega) (by omega)) ?_
    simp +decide only [qa, ev, qK, qH, putD, Slots.put, Slots.get, Slots.keep, if_true, if_false, true_and, ↓qw, qh, qz, cond_false, qm, Xo]
    apply hK; clear hK K
    refine awp_joinT [0, 2, 5, 6] (fun m : Nat => [(0, .ptr (.own kx) 0), (2, .ptr (.own k0q0) 0), (5, .ptr (.own k1q0) 0), (6, .int .i64 m)]) (fun m : Nat => bldH H k1q0 [] st) (fun m : Nat => n ≤ m ∧ i + m < s.length ∧ Xe (s.drop (i + m + 1)) (st.bytes ++ [s.getD (i + m) 0]) (m + 1) = quoteE s i) ?_ ?_
    · refine qM (b := _) rfl (fun hb2 => ?_) (fun hb2 => ?_)
      · try simp only [decide_eq_true_eq] at hb2
        have hb2' : s.getD (i + n) 0 = 34 := (XB _ 34).mp hb2
        rw [hb2'] at hgo
        refine qN ?_
        refine awp_rseq [0, 2, 5, 6, 30] (by rfl) fun K hK => ?_
        simp +decide only [ev, qK, qH, putD, Slots.put, Slots.get, if_true, if_false, true_and, ↓qg, qd, ↓qw, qh, qz, cond_false, qm, Xk]
        try simp (disch := omega) only [wrap_i64]
        refine qL (V := .int .u8 (qA s ((i : Int) + ((n : Int) + 1))).toNat) (by rfl) (by rfl) (c_peek w₀ _ kx lf s mv tv i ((n : Int) + 1) hxb (by omega) (by omega) (by omega)) ?_
        simp +decide only [qa, ev, qK, qH, putD, Slots.put, Slots.get, Slots.keep, if_true, if_false, true_and, ↓qw, qh, qz, cond_false, qm, pI_neq]
        apply hK; clear hK K
        refine qM (b := _) rfl (fun hb3 => ?_) (fun hb3 => ?_)
        · try simp only [decide_eq_false_iff_not, Bool.not_eq_true'] at hb3
          have hb3' : (s.drop (i + n + 1)).head? ≠ some 34 := by
            intro e
            rw [List.head?_drop] at e
            obtain ⟨e1, e2⟩ := List.getElem?_eq_some_iff.1 e
            rw [hpn1, Qn e1, List.getD, e] at hb3
            exact hb3 rfl
          rw [quoteGo_end hb3'] at hgo
          refine qN ?_
          refine awp_rseq [2, 5, 6, 32] (by rfl) fun K hK => ?_
          refine qL (V := .int .i64 st.bytes.length) (by rfl) (by rfl) (c_bLenT w₀ H k1q0 [] st hst) ?_
          simp +decide only [qa, ev, qK, qH, putD, Slots.put, Slots.get, Slots.keep, if_true, if_false, true_and, ↓qw, qh, qz, cond_false, qm, Xo]
          apply hK; clear hK K
          refine qM (b := _) rfl (fun hb4 => ?_) (fun hb4 => ?_)
          · try simp only [decide_eq_true_eq] at hb4
            have hne : st.bytes = [] := List.eq_nil_of_length_eq_zero (by omega)
            have hgo' : quoteE s i = .err 4 := by rw [← hgo, if_pos hne]
            refine Ze ?_
            change Awp _ _ _ _ _ _ _
            refine awp_rseq [2, 3, 4] (by rfl) fun K hK => ?_
            simp +decide only [ev, qK, qH, putD, Slots.put, Slots.get, if_false, true_and, ↓Qo, ↓Qa, bld38_, evP, List.map_nil]
            refine qp (by rfl) (by rfl) (by repeat (first | exact AHeap.set_same _ _ _ | assumption | refine (AHeap.set_ne _ _ (by first | assumption | exact Ne.symm (by assumption))).trans ?_)) Xi (by rfl) (by rfl) (by first | exact Nat.le_refl _ | decide | (simp; done) | (simp; omega)) (Nat.zero_le _) (by rfl) ?_
            simp only [AVal.cells]
            simp +decide only [qa, ev, qK, qH, putD, Slots.put, Slots.get, Slots.keep, if_true, if_false, true_and, ↓qc, qb, setAt, List.set_cons_zero, List.set_cons_succ, Nat.zero_add, Nat.reduceAdd]
            apply hK; clear hK K
            refine qU ?_
            refine qO h (by repeat (first | exact Sub.refl _ | assumption | refine Sub.trans_set ?_ (by assumption))) (?_) ?_
            · simp +decide only [QF, qB, ql, Slots.get, if_true, if_false, and_true, qB, ql, qi ag38 Xi, Qi, qf, List.getD_cons_zero, List.getD_cons_succ, Nat.zero_add, Nat.reduceAdd, qC, qj, qE, allLive, Bool.and_true, qf, List.getD_cons_zero, List.getD_cons_succ, Nat.zero_add, Nat.reduceAdd, qC, qj, qE, allLive, Bool.and_true]
            
            simp +decide only [Slots.get, if_true, if_false, and_true, Qr, qB, ql, qi ag38 Xi, Qi, qf, List.getD_cons_zero, List.getD_cons_succ, Nat.zero_add, Nat.reduceAdd, qC, qj, qE, allLive, Bool.and_true, qf, List.getD_cons_zero, List.getD_cons_succ, Nat.zero_add, Nat.reduceAdd, qC, qj, qE, allLive, Bool.and_true, nxA, nxR]
            rw [hgo']
            rfl
          · try simp only [decide_eq_false_iff_not] at hb4
            have hne : ¬ st.bytes = [] := fun e => hb4 (by rw [e]; rfl)
            refine qZ ?_
            change Awp _ _ _ _ _ _ _
            refine awp_rseq [2, 3, 4] (by rfl) fun K hK => ?_
            refine Xp (by rfl) (by rfl) (c_bString w₀ H k1q0 [] st _ hk1q0 ht1q0 hst (by omega)) fun x8q0 h8q0 hx8q0 => ?_
            obtain ⟨hv8, hh8⟩ := hx8q0
            rw [hv8, hh8]
            rw [if_neg hne] at hgo
            simp +decide only [ev, qK, qH, putD, Slots.put, Slots.get, if_true, if_false, true_and, ↓Qo, ↓Qa, bld38_0_1, evP, List.map_cons, List.map_nil, ↓qg, qd, ↓qw, qh, qz, cond_false, qm, Xk]
            try simp (disch := omega) only [wrap_i64]
            refine qp (by rfl) (by rfl) (by repeat (first | exact AHeap.set_same _ _ _ | assumption | refine (AHeap.set_ne _ _ (by first | assumption | exact Ne.symm (by assumption))).trans ?_)) Xi (by rfl) (by rfl) (by first | exact Nat.le_refl _ | decide | (simp; done) | (simp; omega)) (Nat.zero_le _) (by rfl) ?_
            simp only [AVal.cells]
            simp +decide only [qa, ev, qK, qH, putD, Slots.put, Slots.get, Slots.keep, if_true, if_false, true_and, ↓qc, qb, setAt, List.set_cons_zero, List.set_cons_succ, Nat.zero_add, Nat.reduceAdd]
            apply hK; clear hK K
            refine qU ?_
            try simp only [Ql, QA]
            refine qO h (by repeat (first | exact Sub.refl _ | assumption | refine Sub.trans_set ?_ (by assumption))) (?_) ?_
            · simp +decide only [QF, qB, ql, Slots.get, if_true, if_false, and_true, qB, ql, qi ag38 Xi, Qi, qf, List.getD_cons_zero, List.getD_cons_succ, Nat.zero_add, Nat.reduceAdd, qC, qj, qE, allLive, Bool.and_true, qf, List.getD_cons_zero, List.getD_cons_succ, Nat.zero_add, Nat.reduceAdd, qC, qj, qE, allLive, Bool.and_true]
            
            simp +decide only [Slots.get, if_true, if_false, and_true, Qr, qB, ql, qi ag38 Xi, Qi, qf, List.getD_cons_zero, List.getD_cons_succ, Nat.zero_add, Nat.reduceAdd, qC, qj, qE, allLive, Bool.and_true, qf, List.getD_cons_zero, List.getD_cons_succ, Nat.zero_add, Nat.reduceAdd, qC, qj, qE, allLive, Bool.and_true, nxA, nxR]
            rw [← hgo]
            rfl
        · try simp only [decide_eq_true_eq, Bool.not_eq_false'] at hb3
          have hb3' : qA s ((i + n + 1 : Nat) : Int) = 34 := by rw [← hpn1]; exact (XB _ 34).mp hb3
          have hin1 : i + n + 1 < s.length := peekE_in (by rw [hb3']; decide)
          rw [Qn hin1] at hb3'
          rw [drop_eq hin1, hb3', quoteGo_two] at hgo
          refine qZ ?_
          change Awp _ _ _ _ _ _ _
          refine Xl [0, 2, 5, 6] (by rfl) ?_
          simp +decide only [qa, ev, qK, qH, putD, Slots.put, Slots.get, Slots.keep, if_true, if_false, true_and, ↓qg, qd, ↓qw, qh, qz, cond_false, qm, Xk, ↓qc, qb, nxA, nxR]
          try simp (disch := omega) only [wrap_i64]
          try simp only [qR]
          first
          | exact ⟨n + 1, rfl, Sub.refl _, by omega, by omega, by rw [← hgo, show i + (n + 1) = i + n + 1 by omega, hb3']⟩
          | exact ⟨n, rfl, Sub.refl _, by omega, by omega, by rw [← hgo, quoteGo_other (fun e => hb2 ((XB _ 34).mpr e))]⟩
      · try simp only [decide_eq_false_iff_not] at hb2
        refine qZ ?_
        try simp only [qR]
        first
        | exact ⟨n + 1, rfl, Sub.refl _, by omega, by omega, by rw [← hgo, show i + (n + 1) = i + n + 1 by omega, hb3']⟩
        | exact ⟨n, rfl, Sub.refl _, by omega, by omega, by rw [← hgo, quoteGo_other (fun e => hb2 ((XB _ 34).mpr e))]⟩
    · rintro m ⟨hnm, him, hgm⟩
      have hpm : qA s ((i : Int) + m) = s.getD (i + m) 0 := by rw [show (i : Int) + (m : Int) = ((i + m : Nat) : Int) by omega, Qn him]
      refine Xl [0, 2, 5, 6] (by rfl) ?_
      simp +decide only [ev, putD, Slots.put, Slots.get, if_true, if_false, true_and, ↓qg, qd, nxA, nxR]
      refine qL (V := .int .u8 (s.getD (i + m) 0).toNat) (by rfl) (by rfl) (by rw [← hpm]; exact c_peek w₀ _ kx lf s mv tv i m hxb (by omega) (by omega) (by omega)) ?_
      refine Xp (by rfl) (by rfl) (c_WriteByte w₀ H k1q0 [] st _ bldT_selfT ht1q0 hk1q0 hst (s.getD (i + m) 0) (by omega)) fun x10q3 h10q3 hx10q3 => ?_
      obtain ⟨hv10, st', hst', hbt', hh10⟩ := hx10q3
      rw [hh10]
      simp +decide only [qa, putD, Slots.put, Slots.keep, if_true, if_false]
      change Awp _ _ _ _ _ _ _
      refine Xl [0, 2, 5, 6] (by rfl) ?_
      simp +decide only [qa, ev, qK, qH, putD, Slots.put, Slots.get, Slots.keep, if_true, if_false, true_and, ↓qg, qd, ↓qw, qh, qz, cond_false, qm, Xk, ↓qc, qb]
      try simp (disch := omega) only [wrap_i64]
      try simp only [qR]
      refine ⟨(m + 1, st'), rfl, Sub.refl _, ⟨by simp only; omega, hst', ?_, by simp only; rw [hbt', List.length_append]; simp; omega⟩, by simp only; omega⟩
      simp only
      rw [hbt', ← Nat.add_assoc]
      exact hgm
  · try simp only [decide_eq_false_iff_not] at hb1
    have hend : quoteE s i = .err 4 := by rw [← hgo, List.drop_eq_nil_of_le (by omega), quoteGo_nil]
    refine Ze ?_
    change Awp _ _ _ _ _ _ _
    refine awp_rseq [2, 3, 4] (by rfl) fun K hK => ?_
    simp +decide only [ev, qK, qH, putD, Slots.put, Slots.get, if_false, true_and, ↓Qo, ↓Qa, bld38_, evP, List.map_nil]
    refine qp (by rfl) (by rfl) (by repeat (first | exact AHeap.set_same _ _ _ | assumption | refine (AHeap.set_ne _ _ (by first | assumption | exact Ne.symm (by assumption))).trans ?_)) Xi (by rfl) (by rfl) (by first | exact Nat.le_refl _ | decide | (simp; done) | (simp; omega)) (Nat.zero_le _) (by rfl) ?_
    simp only [AVal.cells]
    simp +decide only [qa, ev, qK, qH, putD, Slots.put, Slots.get, Slots.keep, if_true, if_false, true_and, ↓qc, qb, setAt, List.set_cons_zero, List.set_cons_succ, Nat.zero_add, Nat.reduceAdd]
    apply hK; clear hK K
    refine qU ?_
    refine qO h (by repeat (first | exact Sub.refl _ | assumption | refine Sub.trans_set ?_ (by assumption))) (?_) ?_
    · simp +decide only [QF, qB, ql, Slots.get, if_true, if_false, and_true, qB, ql, qi ag38 Xi, Qi, qf, List.getD_cons_zero, List.getD_cons_succ, Nat.zero_add, Nat.reduceAdd, qC, qj, qE, allLive, Bool.and_true, qf, List.getD_cons_zero, List.getD_cons_succ, Nat.zero_add, Nat.reduceAdd, qC, qj, qE, allLive, Bool.and_true]
    
    simp +decide only [Slots.get, if_true, if_false, and_true, Qr, qB, ql, qi ag38 Xi, Qi, qf, List.getD_cons_zero, List.getD_cons_succ, Nat.zero_add, Nat.reduceAdd, qC, qj, qE, allLive, Bool.and_true, qf, List.getD_cons_zero, List.getD_cons_succ, Nat.zero_add, Nat.reduceAdd, qC, qj, qE, allLive, Bool.and_true, nxA, nxR]
    rw [hend]
    rfl
end Go.Proofs.YtmadddihphkmoaaGreatDoor

/-
  Contracts: next of the scanner.
  Conditions: none.
-/
namespace Go.Proofs.YtmadddihphkmoaaGreatDoor
open Go.AM
open Go.Proofs
open Go.Col
open Go.Tok
open Go.RowKit (Below)
set_option maxRecDepth 100000

set_option maxHeartbeats 1000000 in
theorem c_next (w₀ : World) (h : AHeap) (kx : Nat) (lf : Bool) (s : Str) (mv tv : AVal) (i : Nat) (l : List TokC) (eb_x : h kx = some ⟨[.bool lf, .str s, mv, .int .i64 i, tv], 0⟩) (ht : IsL w₀ h 5 tv (l.map Zc)) (hl : l.length ≤ 1099511627776) (h32 : qA s i ≠ 32) (hs : s.length ≤ 1099511627776) :
    ACall Tryz.prog w₀ 62 [.ptr (.own kx) 0] h (fun r h' => r = nxR (QJ s i l) ∧ h' = h) := by
  have hs_h : Sub h h := Sub.refl h
  have hi := peekE_in h32
  have hdr : (s.drop ((i : Int)).toNat).take (((s.length : Nat) : Int).toNat - ((i : Int)).toNat) = s.drop i := by rw [Int.toNat_natCast, Int.toNat_natCast, List.take_of_length_le (by simp)]
  obtain ⟨eqs, heqs⟩ : ∃ e, e = List.isPrefixOf [61, 61] (s.drop i) := ⟨_, rfl⟩
  have hnx : QJ s i l = if (QM l).1 = true ∧ eqs = false then Xu s i (QM l).2
      else if qA s i = 34 then quoteE s i
      else if qA s i = 46 ∧ qA s (i + 1) = 32 then Tok.takeE s i 6 1
      else if eqs = true then Tok.takeE s i 7 2
      else if 0 < (Xy s i).n ∨ (Xy s i).e ≠ 0 then Xy s i
      else if QP (qA s i) = true ∧ qA s i ≠ 45 then nameE s i
      else signE s i := by rw [heqs]; rfl
  refine qY (n := 110) (rs := [.cell 2 38, .tmp 3, .tmp 4]) Tryz.func62 rfl rfl rfl rfl (Nat.le_of_ble_eq_true rfl) ?_
  simp only [Qf]
  refine awp_rseq [0, 2] (by rfl) fun K hK => ?_
  refine Qh ze38 (cs := [.int .u8 0, .str [], .int .i64 0, .int .i64 0, .bool false]) (by rfl) fun k0q0 hk0q0 => ?_
  have hn_0q0 : h k0q0 = none := by first | assumption | (simp only [AHeap.set_none] at hk0q0; simp only [hk0q0])
  have hf_0q0 : h k0q0 = none := Sub.none hs_h hn_0q0
  have ne_0q0_x : k0q0 ≠ kx := AHeap.ne_some hn_0q0 eb_x
  simp +decide only [qa, ev, qK, qH, putD, Slots.put, Slots.keep, if_true, if_false, true_and, ↓qc, qb]
  apply hK; clear hK K
  refine qN ?_
  refine awp_rseq [0, 2, 5, 6] (by rfl) fun K hK => ?_
  simp +decide only [ev, putD, Slots.put, Slots.get, if_true, if_false, true_and, ↓qg, qd]
  refine qL (V := .tuple [.bool (QM l).1, .bool (QM l).2]) (by rfl) (by rfl) (c_pictures w₀ _ kx lf s mv tv i l ((by repeat (first | exact AHeap.set_same _ _ _ | assumption | refine (AHeap.set_ne _ _ (by first | assumption | exact Ne.symm (by assumption))).trans ?_))) (ht.mono ((by repeat (first | exact Sub.refl _ | assumption | refine Sub.set_both ?_ _ _ | refine Sub.trans_set ?_ (by repeat (first | assumption | refine (AHeap.set_ne _ _ (by first | assumption | exact Ne.symm (by assumption))).trans ?_)))))) hl) ?_
  simp +decide only [qa, ev, putD, Slots.put, Slots.get, Slots.keep, if_true, if_false, true_and, ↓qg, qd, ↓QU, QB, QL, List.length_cons, List.length_nil, List.getD_cons_zero, List.getD_cons_succ, ↓qc, qb, List.getD_cons_zero, List.getD_cons_succ, Nat.zero_add, Nat.reduceAdd]
  apply hK; clear hK K
  refine awp_dseq_any [0, 2, 6, 30] mixed (by kernel_rfl) (by rfl) fun K hK => ?_
  simp +decide only [ev, putD, Slots.put, Slots.get, if_true, if_false, true_and, ↓vp_move, qd, ↓vg_move, vgP, vgQ_some, qI, qG, qy, implies_true, ↓vg_nilCheck, Qc, QI, cv_nil, cp_nil, ↓vg_fieldAddr, qo, fa89_0, cv_fieldAddr, cp_fieldAddr, fa48_1, ↓vg_load, pop_load, qD ag9, cv_load, cp_load, fa89_1, qD ag3, ↓vg_slice, pop_slice, evO, pSliceS_i0 Tryz.underlying9, pSliceS, bndA_none, bndA_int, cv_slice, cp_slice, cv_slicelo, cp_slicelo, XG, ne_eq, not_false_eq_true, ne_0q0_x.symm, Xd w₀ eb_x, List.getD_cons_zero, List.getD_cons_succ, Nat.zero_add, qj, qE, hdr]
  repeat (with_reducible refine And.intro ?_ ?_; · first | trivial | omega | (intro hg; simp only [Bool.and_eq_true, Bool.or_eq_true, Bool.not_eq_true', Bool.and_eq_false_iff, Bool.or_eq_false_iff, Bool.not_eq_false', decide_eq_true_eq, decide_eq_false_iff_not, XI] at hg; omega) )
  refine vOps_gcall (V := .bool eqs) (f := _) (cap := _) (xs := _) (by first | rfl | (simp +decide only [gv, qI, Slots.get, if_true, if_false, QV, qG])) (fun hg => ⟨rfl, ?_⟩) (fun hg => by rw [heqs]; exact c_pref w₀ _ (s.drop i) [61, 61]) ?_
  · try simp +decide only [gv, qI, Slots.get, if_true, if_false, qy] at hg
    simp +decide only [evs, ev, Slots.get, if_true, if_false, hg, Qs, List.append_nil, List.map_cons, List.map_nil, qK, qH]
  simp +decide only [vOps_nil, ev, qK, qH, putD, Slots.put, Slots.get, Slots.keep, if_true, if_false, true_and, gv, qI, qy, ↓vg_unOp, pop_unOp, vgP, vgQ_some, qG, implies_true, pU_not, cv_un, cp_un, ↓vp_pick, Qw, Qg, QZ, Xj]
  apply hK; clear hK K
  refine qM (b := _) rfl (fun hb1 => ?_) (fun hb1 => ?_)
  · try simp only [Bool.not_eq_true', Bool.and_eq_true] at hb1
    refine awp_rseq [2, 3, 4] (by rfl) fun K hK => ?_
    simp +decide only [ev, putD, Slots.put, Slots.get, if_true, if_false, true_and, ↓qg, qd]
    refine qL (V := nxR (Xu s i (QM l).2)) (by rfl) (by rfl) (c_picture w₀ _ kx lf s mv tv i _ ((by repeat (first | exact AHeap.set_same _ _ _ | assumption | refine (AHeap.set_ne _ _ (by first | assumption | exact Ne.symm (by assumption))).trans ?_))) h32 hs) ?_
    simp +decide only [ev, putD, Slots.put, Slots.get, if_true, if_false, true_and, ↓QU, QB, QL, List.length_cons, List.length_nil, List.getD_cons_zero, List.getD_cons_succ, List.getD_cons_zero, List.getD_cons_succ, Nat.zero_add, Nat.reduceAdd, nxA, nxR]
    refine qp (by rfl) (by rfl) (by repeat (first | exact AHeap.set_same _ _ _ | assumption | refine (AHeap.set_ne _ _ (by first | assumption | exact Ne.symm (by assumption))).trans ?_)) Xi (by rfl) (by rfl) (by first | exact Nat.le_refl _ | decide | (simp; done) | (simp; omega)) (Nat.zero_le _) (by rfl) ?_
    simp only [AHeap.set_set, AVal.cells]
    simp +decide only [qa, ev, putD, Slots.put, Slots.get, Slots.keep, if_true, if_false, true_and, ↓qc, qb, setAt, List.set_cons_zero, List.set_cons_succ, Nat.zero_add, Nat.reduceAdd]
    apply hK; clear hK K
    refine qU ?_
    try simp only [Ql]
    refine qO h (by repeat (first | exact Sub.refl _ | assumption | refine Sub.trans_set ?_ (by assumption))) (?_) ?_
    · simp +decide only [QF, qB, ql, Slots.get, if_true, if_false, and_true, qB, ql, qi ag38 Xi, Qi, qf, List.getD_cons_zero, List.getD_cons_succ, Nat.zero_add, Nat.reduceAdd, qC, qj, qE, allLive, Bool.and_true, qf, List.getD_cons_zero, List.getD_cons_succ, Nat.zero_add, Nat.reduceAdd, qC, qj, qE, allLive, Bool.and_true]
    
    simp +decide only [Slots.get, if_true, if_false, and_true, Qr, qB, ql, qi ag38 Xi, Qi, qf, List.getD_cons_zero, List.getD_cons_succ, Nat.zero_add, Nat.reduceAdd, qC, qj, qE, allLive, Bool.and_true, qf, List.getD_cons_zero, List.getD_cons_succ, Nat.zero_add, Nat.reduceAdd, qC, qj, qE, allLive, Bool.and_true, nxA, nxR]
    rw [hnx, if_pos hb1]
  · try simp only [Bool.not_eq_false', Bool.and_eq_false_iff] at hb1
    have hb1' : ¬ ((QM l).1 = true ∧ eqs = false) := by
      rintro ⟨q1, q2⟩
      rcases hb1 with z | z
      · rw [q1] at z; cases z
      · rw [q2] at z; cases z
    rw [hnx, if_neg hb1']
    refine qZ ?_
    change Awp _ _ _ _ _ _ _
    refine qN ?_
    refine awp_rseq [0, 2, 7] (by rfl) fun K hK => ?_
    simp +decide only [ev, putD, Slots.put, Slots.get, if_true, if_false, true_and, ↓qg, qd]
    refine qL (V := .int .u8 (qA s i).toNat) (by rfl) (by rfl) (c_peek0 w₀ _ kx lf s mv tv i ((by repeat (first | exact AHeap.set_same _ _ _ | assumption | refine (AHeap.set_ne _ _ (by first | assumption | exact Ne.symm (by assumption))).trans ?_))) (by omega)) ?_
    simp +decide only [qa, ev, putD, Slots.put, Slots.get, Slots.keep, if_true, if_false, true_and, ↓qc, qb]
    apply hK; clear hK K
    refine Qt ?_
    refine awp_rseq [0, 2, 7, 39] (by rfl) fun K hK => ?_
    simp +decide only [qa, ev, qK, qH, putD, Slots.put, Slots.get, Slots.keep, if_true, if_false, true_and, ↓qg, qd, ↓qw, qh, qz, cond_false, qm, Xo, ↓qc, qb]
    apply hK; clear hK K
    refine qM (b := _) rfl (fun hb2 => ?_) (fun hb2 => ?_)
    · try simp only [decide_eq_true_eq] at hb2
      have hb2' : qA s i = 34 := (XB _ 34).mp hb2
      refine awp_rseq [2, 3, 4] (by rfl) fun K hK => ?_
      simp +decide only [ev, putD, Slots.put, Slots.get, if_true, if_false, true_and, ↓qg, qd]
      refine qL (V := nxR (quoteE s i)) (by rfl) (by rfl) (c_quote w₀ _ kx lf s mv tv i ((by repeat (first | exact AHeap.set_same _ _ _ | assumption | refine (AHeap.set_ne _ _ (by first | assumption | exact Ne.symm (by assumption))).trans ?_))) hi hs) ?_
      simp +decide only [ev, putD, Slots.put, Slots.get, if_true, if_false, true_and, ↓QU, QB, QL, List.length_cons, List.length_nil, List.getD_cons_zero, List.getD_cons_succ, List.getD_cons_zero, List.getD_cons_succ, Nat.zero_add, Nat.reduceAdd, nxA, nxR]
      refine qp (by rfl) (by rfl) (by repeat (first | exact AHeap.set_same _ _ _ | assumption | refine (AHeap.set_ne _ _ (by first | assumption | exact Ne.symm (by assumption))).trans ?_)) Xi (by rfl) (by rfl) (by first | exact Nat.le_refl _ | decide | (simp; done) | (simp; omega)) (Nat.zero_le _) (by rfl) ?_
      simp only [AHeap.set_set, AVal.cells]
      simp +decide only [qa, ev, putD, Slots.put, Slots.get, Slots.keep, if_true, if_false, true_and, ↓qc, qb, setAt, List.set_cons_zero, List.set_cons_succ, Nat.zero_add, Nat.reduceAdd]
      apply hK; clear hK K
      refine qU ?_
      try simp only [Ql, QA]
      refine qO h (by repeat (first | exact Sub.refl _ | assumption | refine Sub.trans_set ?_ (by assumption))) (?_) ?_
      · simp +decide only [QF, qB, ql, Slots.get, if_true, if_false, and_true, qB, ql, qi ag38 Xi, Qi, qf, List.getD_cons_zero, List.getD_cons_succ, Nat.zero_add, Nat.reduceAdd, qC, qj, qE, allLive, Bool.and_true, qf, List.getD_cons_zero, List.getD_cons_succ, Nat.zero_add, Nat.reduceAdd, qC, qj, qE, allLive, Bool.and_true]
      
      simp +decide only [Slots.get, if_true, if_false, and_true, Qr, qB, ql, qi ag38 Xi, Qi, qf, List.getD_cons_zero, List.getD_cons_succ, Nat.zero_add, Nat.reduceAdd, qC, qj, qE, allLive, Bool.and_true, ne_eq, qf, List.getD_cons_zero, List.getD_cons_succ, Nat.zero_add, Nat.reduceAdd, qC, qj, qE, allLive, Bool.and_true, nxA, nxR, Tok.takeE]
      rw [if_pos hb2']
      try rfl
    · try simp only [decide_eq_false_iff_not] at hb2
      have hb2' : ¬ qA s i = 34 := fun q => hb2 ((XB _ 34).mpr q)
      rw [if_neg hb2']
      refine awp_rseq [0, 2, 47] (by rfl) fun K hK => ?_
      simp +decide only [ev, qK, qH, putD, Slots.put, Slots.get, if_true, if_false, true_and, ↓qg, qd, ↓qw, qh, qz, cond_false, qm, Xo, ↓Xf, agP, Qm, qI, qG, qy, implies_true]
      (refine XJ (V := .int .u8 (qA s (i + 1)).toNat) (f := _) (cap := _) (xs := _) (by first | rfl | (simp +decide only [gv, qI, Slots.get, if_true, if_false, QV, qG])) (fun hg => ⟨rfl, ?_⟩) (fun hg => c_peek w₀ _ kx lf s mv tv i 1 ((by repeat (first | exact AHeap.set_same _ _ _ | assumption | refine (AHeap.set_ne _ _ (by first | assumption | exact Ne.symm (by assumption))).trans ?_))) (by omega) (by omega) (by omega)) ?_; · (simp +decide only [gv, qI, Slots.get, if_true, if_false, qy] at hg; simp +decide only [evs, ev, Slots.get, if_true, if_false, hg, Qs, List.append_nil, List.map_cons, List.map_nil, qK, qH] <;> try rfl))
      simp +decide only [qa, ev, qK, qH, putD, Slots.put, Slots.get, Slots.keep, if_true, if_false, true_and, gv, qI, qy, ↓QW, qh, agP, Qm, qG, implies_true, qz, cond_false, XR, XT, qm, Xo, ↓QN, Qw, Qg, QZ, Xj, ↓qc, qb]
      apply hK; clear hK K
      refine qM (b := _) rfl (fun hb3 => ?_) (fun hb3 => ?_)
      · try simp only [decide_eq_true_eq, Bool.and_eq_true] at hb3
        have hb3' : qA s i = 46 ∧ qA s (i + 1) = 32 := ⟨(XB _ 46).mp hb3.1, (XB _ 32).mp hb3.2⟩
        refine awp_rseq [2, 3, 4] (by rfl) fun K hK => ?_
        simp +decide only [ev, putD, Slots.put, Slots.get, if_true, if_false, true_and, ↓qg, qd]
        refine qL (V := nxR (Tok.takeE s i 6 1)) (by rfl) (by rfl) (c_takeT w₀ _ kx lf s mv tv i 1 6 ((by repeat (first | exact AHeap.set_same _ _ _ | assumption | refine (AHeap.set_ne _ _ (by first | assumption | exact Ne.symm (by assumption))).trans ?_))) (by omega) hs) ?_
        simp +decide only [ev, putD, Slots.put, Slots.get, if_true, if_false, true_and, ↓QU, QB, QL, List.length_cons, List.length_nil, List.getD_cons_zero, List.getD_cons_succ, List.getD_cons_zero, List.getD_cons_succ, Nat.zero_add, Nat.reduceAdd, nxA, nxR, Tok.takeE]
        refine qp (by rfl) (by rfl) (by repeat (first | exact AHeap.set_same _ _ _ | assumption | refine (AHeap.set_ne _ _ (by first | assumption | exact Ne.symm (by assumption))).trans ?_)) Xi (by rfl) (by rfl) (by first | exact Nat.le_refl _ | decide | (simp; done) | (simp; omega)) (Nat.zero_le _) (by rfl) ?_
        simp only [AHeap.set_set, AVal.cells]
        simp +decide only [qa, ev, putD, Slots.put, Slots.get, Slots.keep, if_true, if_false, true_and, ↓qc, qb, setAt, List.set_cons_zero, List.set_cons_succ, Nat.zero_add, Nat.reduceAdd]
        apply hK; clear hK K
        refine qU ?_
        try simp only [Ql, QA]
        refine qO h (by repeat (first | exact Sub.refl _ | assumption | refine Sub.trans_set ?_ (by assumption))) (?_) ?_
        · simp +decide only [QF, qB, ql, Slots.get, if_true, if_false, and_true, qB, ql, qi ag38 Xi, Qi, qf, List.getD_cons_zero, List.getD_cons_succ, Nat.zero_add, Nat.reduceAdd, qC, qj, qE, allLive, Bool.and_true, qf, List.getD_cons_zero, List.getD_cons_succ, Nat.zero_add, Nat.reduceAdd, qC, qj, qE, allLive, Bool.and_true]
        
        simp +decide only [Slots.get, if_true, if_false, and_true, Qr, qB, ql, qi ag38 Xi, Qi, qf, List.getD_cons_zero, List.getD_cons_succ, Nat.zero_add, Nat.reduceAdd, qC, qj, qE, allLive, Bool.and_true, ne_eq, qf, List.getD_cons_zero, List.getD_cons_succ, Nat.zero_add, Nat.reduceAdd, qC, qj, qE, allLive, Bool.and_true, nxA, nxR, Tok.takeE]
        rw [if_pos hb3']
        try rfl
      · try simp only [decide_eq_false_iff_not, Bool.and_eq_false_iff] at hb3
        have hb3' : ¬ (qA s i = 46 ∧ qA s (i + 1) = 32) := fun q => by
          rcases hb3 with z | z
          · exact z ((XB _ 46).mpr q.1)
          · exact z ((XB _ 32).mpr q.2)
        rw [if_neg hb3']
        refine awp_dseq_any [0, 2, 60] mixed (by kernel_rfl) (by rfl) fun K hK => ?_
        simp +decide only [ev, putD, Slots.put, Slots.get, if_true, if_false, true_and, ↓vp_move, qd, ↓vp_nilCheck, Qc, QI, ↓vp_fieldAddr, qo, fa89_0, fa48_1, ↓vp_load, pop_load, qD ag9, fa89_1, qD ag3, ↓vp_slice, pop_slice, evO, pSliceS_i0 Tryz.underlying9, pSliceS, bndA_none, bndA_int, XG, ne_eq, not_false_eq_true, ne_0q0_x.symm, Xd w₀ eb_x, List.getD_cons_zero, List.getD_cons_succ, Nat.zero_add, qj, qE, hdr]
        repeat (with_reducible refine And.intro ?_ ?_; · first | trivial | omega | (intro hg; simp only [Bool.and_eq_true, Bool.or_eq_true, Bool.not_eq_true', Bool.and_eq_false_iff, Bool.or_eq_false_iff, Bool.not_eq_false', decide_eq_true_eq, decide_eq_false_iff_not, XI] at hg; omega) )
        refine vOps_callV (V := .bool eqs) (by rfl) (by rfl) (by rw [heqs]; exact c_pref w₀ _ (s.drop i) [61, 61]) ?_
        simp +decide only [vOps_nil, ev, putD, Slots.put, Slots.get, Slots.keep, if_true, if_false, true_and, ↓vp_assign, qb]
        apply hK; clear hK K
        refine qM (b := _) rfl (fun hb4 => ?_) (fun hb4 => ?_)
        · skip
          have h2 : i + 2 ≤ s.length := by
            rw [hb4] at heqs
            have := (List.isPrefixOf_iff_prefix.1 heqs.symm).length_le
            rw [List.length_drop] at this
            simp at this
            omega
          refine awp_rseq [2, 3, 4] (by rfl) fun K hK => ?_
          simp +decide only [ev, putD, Slots.put, Slots.get, if_true, if_false, true_and, ↓qg, qd]
          refine qL (V := nxR (Tok.takeE s i 7 2)) (by rfl) (by rfl) (c_takeT w₀ _ kx lf s mv tv i 2 7 ((by repeat (first | exact AHeap.set_same _ _ _ | assumption | refine (AHeap.set_ne _ _ (by first | assumption | exact Ne.symm (by assumption))).trans ?_))) h2 hs) ?_
          simp +decide only [ev, putD, Slots.put, Slots.get, if_true, if_false, true_and, ↓QU, QB, QL, List.length_cons, List.length_nil, List.getD_cons_zero, List.getD_cons_succ, List.getD_cons_zero, List.getD_cons_succ, Nat.zero_add, Nat.reduceAdd, nxA, nxR, Tok.takeE]
          refine qp (by rfl) (by rfl) (by repeat (first | exact AHeap.set_same _ _ _ | assumption | refine (AHeap.set_ne _ _ (by first | assumption | exact Ne.symm (by assumption))).trans ?_)) Xi (by rfl) (by rfl) (by first | exact Nat.le_refl _ | decide | (simp; done) | (simp; omega)) (Nat.zero_le _) (by rfl) ?_
          simp only [AHeap.set_set, AVal.cells]
          simp +decide only [qa, ev, putD, Slots.put, Slots.get, Slots.keep, if_true, if_false, true_and, ↓qc, qb, setAt, List.set_cons_zero, List.set_cons_succ, Nat.zero_add, Nat.reduceAdd]
          apply hK; clear hK K
          refine qU ?_
          try simp only [Ql, QA]
          refine qO h (by repeat (first | exact Sub.refl _ | assumption | refine Sub.trans_set ?_ (by assumption))) (?_) ?_
          · simp +decide only [QF, qB, ql, Slots.get, if_true, if_false, and_true, qB, ql, qi ag38 Xi, Qi, qf, List.getD_cons_zero, List.getD_cons_succ, Nat.zero_add, Nat.reduceAdd, qC, qj, qE, allLive, Bool.and_true, qf, List.getD_cons_zero, List.getD_cons_succ, Nat.zero_add, Nat.reduceAdd, qC, qj, qE, allLive, Bool.and_true]
          
          simp +decide only [Slots.get, if_true, if_false, and_true, Qr, qB, ql, qi ag38 Xi, Qi, qf, List.getD_cons_zero, List.getD_cons_succ, Nat.zero_add, Nat.reduceAdd, qC, qj, qE, allLive, Bool.and_true, ne_eq, qf, List.getD_cons_zero, List.getD_cons_succ, Nat.zero_add, Nat.reduceAdd, qC, qj, qE, allLive, Bool.and_true, nxA, nxR, Tok.takeE]
          rw [if_pos hb4]
          try rfl
        · skip
          have hb4' : ¬ eqs = true := by rw [hb4]; decide
          rw [if_neg hb4']
          refine qZ ?_
          change Awp _ _ _ _ _ _ _
          refine qN ?_
          refine awp_rseq [0, 2, 8, 9, 10] (by rfl) fun K hK => ?_
          simp +decide only [ev, putD, Slots.put, Slots.get, if_true, if_false, true_and, ↓qg, qd]
          refine qL (V := nxR (Xy s i)) (by rfl) (by rfl) (c_number w₀ _ kx lf s mv tv i ((by repeat (first | exact AHeap.set_same _ _ _ | assumption | refine (AHeap.set_ne _ _ (by first | assumption | exact Ne.symm (by assumption))).trans ?_))) hi hs) ?_
          simp +decide only [ev, putD, Slots.put, Slots.get, if_true, if_false, true_and, ↓qg, qd, ↓QU, QB, QL, List.length_cons, List.length_nil, List.getD_cons_zero, List.getD_cons_succ, List.getD_cons_zero, List.getD_cons_succ, Nat.zero_add, Nat.reduceAdd, nxA, nxR]
          refine Qh ze38 (cs := [.int .u8 0, .str [], .int .i64 0, .int .i64 0, .bool false]) (by rfl) fun k11q6 hk11q6 => ?_
          have ne_11q6_0q0 : k11q6 ≠ k0q0 := by simp only [AHeap.set_none] at hk11q6; simp only [hk11q6, ne_eq, not_false_eq_true]
          have hn_11q6 : h k11q6 = none := by first | assumption | (simp only [AHeap.set_none] at hk11q6; simp only [hk11q6])
          have hf_11q6 : h k11q6 = none := Sub.none hs_h hn_11q6
          have ne_11q6_x : k11q6 ≠ kx := AHeap.ne_some hn_11q6 eb_x
          refine qp (by rfl) (by rfl) (by repeat (first | exact AHeap.set_same _ _ _ | assumption | refine (AHeap.set_ne _ _ (by first | assumption | exact Ne.symm (by assumption))).trans ?_)) Xi (by rfl) (by rfl) (by first | exact Nat.le_refl _ | decide | (simp; done) | (simp; omega)) (Nat.zero_le _) (by rfl) ?_
          simp only [AHeap.set_set, AVal.cells]
          simp +decide only [qa, ev, putD, Slots.put, Slots.get, Slots.keep, if_true, if_false, true_and, ↓qc, qb, setAt, List.set_cons_zero, List.set_cons_succ, Nat.zero_add, Nat.reduceAdd]
          apply hK; clear hK K
          refine awp_rseq [0, 2, 8, 9, 10, 88] (by rfl) fun K hK => ?_
          simp +decide only [qa, ev, qK, qH, putD, Slots.put, Slots.get, Slots.keep, if_true, if_false, true_and, ↓qg, qd, ↓qw, qh, qz, cond_false, qm, pI_gtr, ↓Xf, agP, Qm, qI, qG, qV, implies_true, ↓QW, XR, XT, pI_neq, ↓QN, Qw, Qg, Za, pickV_or]
          apply hK; clear hK K
          refine qM (b := _) rfl (fun hb5 => ?_) (fun hb5 => ?_)
          · try simp only [decide_eq_true_eq, decide_eq_false_iff_not, Bool.not_eq_true', Bool.or_eq_true] at hb5
            have hb5' : 0 < (Xy s i).n ∨ (Xy s i).e ≠ 0 := hb5.imp (fun q => by omega) id
            refine awp_rseq [2, 3, 4] (by rfl) fun K hK => ?_
            simp +decide only [ev, putD, Slots.put, Slots.get, if_true, if_false, true_and, ↓qJ, Qb, qi ag38 Xi, ↓qg, qd, Xa, qf, List.getD_cons_zero, List.getD_cons_succ, Nat.zero_add, Nat.reduceAdd, qC, qj, qE, allLive, Bool.and_true]
            refine qp (by rfl) (by rfl) (by repeat (first | exact AHeap.set_same _ _ _ | assumption | refine (AHeap.set_ne _ _ (by first | assumption | exact Ne.symm (by assumption))).trans ?_)) Xi (by rfl) (by rfl) (by first | exact Nat.le_refl _ | decide | (simp; done) | (simp; omega)) (Nat.zero_le _) (by rfl) ?_
            simp only [AVal.cells]
            simp +decide only [qa, ev, putD, Slots.put, Slots.get, Slots.keep, if_true, if_false, true_and, ↓qc, qb, setAt, List.set_cons_zero, List.set_cons_succ, Nat.zero_add, Nat.reduceAdd]
            apply hK; clear hK K
            refine qU ?_
            try simp only [Ql]
            refine qO h (by repeat (first | exact Sub.refl _ | assumption | refine Sub.trans_set ?_ (by assumption))) (?_) ?_
            · simp +decide only [QF, qB, ql, Slots.get, if_true, if_false, and_true, qB, ql, qi ag38 Xi, Qi, qf, List.getD_cons_zero, List.getD_cons_succ, Nat.zero_add, Nat.reduceAdd, qC, qj, qE, allLive, Bool.and_true, qf, List.getD_cons_zero, List.getD_cons_succ, Nat.zero_add, Nat.reduceAdd, qC, qj, qE, allLive, Bool.and_true]
            
            simp +decide only [Slots.get, if_true, if_false, and_true, Qr, qB, ql, qi ag38 Xi, Qi, qf, List.getD_cons_zero, List.getD_cons_succ, Nat.zero_add, Nat.reduceAdd, qC, qj, qE, allLive, Bool.and_true, ne_eq, qf, List.getD_cons_zero, List.getD_cons_succ, Nat.zero_add, Nat.reduceAdd, qC, qj, qE, allLive, Bool.and_true, nxA, nxR]
            rw [if_pos hb5']
            try rfl
          · try simp only [decide_eq_true_eq, decide_eq_false_iff_not, Bool.not_eq_false', Bool.or_eq_false_iff] at hb5
            have hb5' : ¬ (0 < (Xy s i).n ∨ (Xy s i).e ≠ 0) := fun q => q.elim (fun q => hb5.1 (by omega)) (fun q => q hb5.2)
            rw [if_neg hb5']
            refine qZ ?_
            change Awp _ _ _ _ _ _ _
            refine qN ?_
            refine awp_rseq [0, 2, 99] (by rfl) fun K hK => ?_
            simp +decide only [ev, putD, Slots.put, Slots.get, if_true, if_false, true_and, ↓qg, qd]
            refine qL (V := .int .u8 (qA s i).toNat) (by rfl) (by rfl) (c_peek0 w₀ _ kx lf s mv tv i ((by repeat (first | exact AHeap.set_same _ _ _ | assumption | refine (AHeap.set_ne _ _ (by first | assumption | exact Ne.symm (by assumption))).trans ?_))) (by omega)) ?_
            refine qL (V := .bool (QP (qA s i))) (by rfl) (by rfl) (c_wordy w₀ _ _) ?_
            simp +decide only [ev, putD, Slots.put, Slots.get, if_true, if_false, true_and, ↓qg, qd, ↓Xf, agP, Qm, qI, qG, qy, implies_true]
            (refine XJ (V := .int .u8 (qA s i).toNat) (f := _) (cap := _) (xs := _) (by first | rfl | (simp +decide only [gv, qI, Slots.get, if_true, if_false, QV, qG])) (fun hg => ⟨rfl, ?_⟩) (fun hg => c_peek0 w₀ _ kx lf s mv tv i ((by repeat (first | exact AHeap.set_same _ _ _ | assumption | refine (AHeap.set_ne _ _ (by first | assumption | exact Ne.symm (by assumption))).trans ?_))) (by omega)) ?_; · (simp +decide only [gv, qI, Slots.get, if_true, if_false, qy] at hg; simp +decide only [evs, ev, Slots.get, if_true, if_false, hg, Qs, List.append_nil, List.map_cons, List.map_nil, qK, qH] <;> try rfl))
            simp +decide only [qa, ev, qK, qH, putD, Slots.put, Slots.get, Slots.keep, if_true, if_false, true_and, gv, qI, qy, ↓QW, qh, agP, Qm, qG, implies_true, qz, cond_false, XR, XT, qm, pI_neq, ↓QN, Qw, Qg, QZ, Xj]
            apply hK; clear hK K
            refine qM (b := _) rfl (fun hb6 => ?_) (fun hb6 => ?_)
            · try simp only [decide_eq_false_iff_not, Bool.not_eq_true', Bool.and_eq_true] at hb6
              have hb6' : QP (qA s i) = true ∧ qA s i ≠ 45 := ⟨hb6.1, fun q => hb6.2 ((XB _ 45).mpr q)⟩
              refine awp_rseq [2, 3, 4] (by rfl) fun K hK => ?_
              simp +decide only [ev, putD, Slots.put, Slots.get, if_true, if_false, true_and, ↓qg, qd]
              refine qL (V := nxR (nameE s i)) (by rfl) (by rfl) (c_name w₀ _ kx lf s mv tv i ((by repeat (first | exact AHeap.set_same _ _ _ | assumption | refine (AHeap.set_ne _ _ (by first | assumption | exact Ne.symm (by assumption))).trans ?_))) hi (by rw [← Qn hi]; exact hb6.1) hs) ?_
              simp +decide only [ev, putD, Slots.put, Slots.get, if_true, if_false, true_and, ↓QU, QB, QL, List.length_cons, List.length_nil, List.getD_cons_zero, List.getD_cons_succ, List.getD_cons_zero, List.getD_cons_succ, Nat.zero_add, Nat.reduceAdd, nxA, nxR]
              refine qp (by rfl) (by rfl) (by repeat (first | exact AHeap.set_same _ _ _ | assumption | refine (AHeap.set_ne _ _ (by first | assumption | exact Ne.symm (by assumption))).trans ?_)) Xi (by rfl) (by rfl) (by first | exact Nat.le_refl _ | decide | (simp; done) | (simp; omega)) (Nat.zero_le _) (by rfl) ?_
              simp only [AVal.cells]
              simp +decide only [qa, ev, putD, Slots.put, Slots.get, Slots.keep, if_true, if_false, true_and, ↓qc, qb, setAt, List.set_cons_zero, List.set_cons_succ, Nat.zero_add, Nat.reduceAdd]
              apply hK; clear hK K
              refine qU ?_
              try simp only [Ql]
              refine qO h (by repeat (first | exact Sub.refl _ | assumption | refine Sub.trans_set ?_ (by assumption))) (?_) ?_
              · simp +decide only [QF, qB, ql, Slots.get, if_true, if_false, and_true, qB, ql, qi ag38 Xi, Qi, qf, List.getD_cons_zero, List.getD_cons_succ, Nat.zero_add, Nat.reduceAdd, qC, qj, qE, allLive, Bool.and_true, qf, List.getD_cons_zero, List.getD_cons_succ, Nat.zero_add, Nat.reduceAdd, qC, qj, qE, allLive, Bool.and_true]
              
              simp +decide only [Slots.get, if_true, if_false, and_true, Qr, qB, ql, qi ag38 Xi, Qi, qf, List.getD_cons_zero, List.getD_cons_succ, Nat.zero_add, Nat.reduceAdd, qC, qj, qE, allLive, Bool.and_true, ne_eq, qf, List.getD_cons_zero, List.getD_cons_succ, Nat.zero_add, Nat.reduceAdd, qC, qj, qE, allLive, Bool.and_true, nxA, nxR]
              rw [if_pos hb6']
              try rfl
            · try simp only [decide_eq_true_eq, Bool.not_eq_false', Bool.and_eq_false_iff] at hb6
              have hb6' : ¬ (QP (qA s i) = true ∧ qA s i ≠ 45) := fun q => by
                rcases hb6 with z | z
                · rw [q.1] at z; cases z
                · exact q.2 ((XB _ 45).mp z)
              rw [if_neg hb6']
              refine qZ ?_
              change Awp _ _ _ _ _ _ _
              refine awp_rseq [2, 3, 4] (by rfl) fun K hK => ?_
              simp +decide only [ev, putD, Slots.put, Slots.get, if_true, if_false, true_and, ↓qg, qd]
              refine qL (V := nxR (signE s i)) (by rfl) (by rfl) (c_sign w₀ _ kx lf s mv tv i ((by repeat (first | exact AHeap.set_same _ _ _ | assumption | refine (AHeap.set_ne _ _ (by first | assumption | exact Ne.symm (by assumption))).trans ?_))) hi hs) ?_
              simp +decide only [ev, putD, Slots.put, Slots.get, if_true, if_false, true_and, ↓QU, QB, QL, List.length_cons, List.length_nil, List.getD_cons_zero, List.getD_cons_succ, List.getD_cons_zero, List.getD_cons_succ, Nat.zero_add, Nat.reduceAdd, nxA, nxR]
              refine qp (by rfl) (by rfl) (by repeat (first | exact AHeap.set_same _ _ _ | assumption | refine (AHeap.set_ne _ _ (by first | assumption | exact Ne.symm (by assumption))).trans ?_)) Xi (by rfl) (by rfl) (by first | exact Nat.le_refl _ | decide | (simp; done) | (simp; omega)) (Nat.zero_le _) (by rfl) ?_
              simp only [AVal.cells]
              simp +decide only [qa, ev, putD, Slots.put, Slots.get, Slots.keep, if_true, if_false, true_and, ↓qc, qb, setAt, List.set_cons_zero, List.set_cons_succ, Nat.zero_add, Nat.reduceAdd]
              apply hK; clear hK K
              refine qU ?_
              refine qO h (by repeat (first | exact Sub.refl _ | assumption | refine Sub.trans_set ?_ (by assumption))) (?_) ?_
              · simp +decide only [QF, qB, ql, Slots.get, if_true, if_false, and_true, qB, ql, qi ag38 Xi, Qi, qf, List.getD_cons_zero, List.getD_cons_succ, Nat.zero_add, Nat.reduceAdd, qC, qj, qE, allLive, Bool.and_true, qf, List.getD_cons_zero, List.getD_cons_succ, Nat.zero_add, Nat.reduceAdd, qC, qj, qE, allLive, Bool.and_true]
              
              simp +decide only [Slots.get, if_true, if_false, and_true, Qr, qB, ql, qi ag38 Xi, Qi, qf, List.getD_cons_zero, List.getD_cons_succ, Nat.zero_add, Nat.reduceAdd, qC, qj, qE, allLive, Bool.and_true, qf, List.getD_cons_zero, List.getD_cons_succ, Nat.zero_add, Nat.reduceAdd, qC, qj, qE, allLive, Bool.and_true, nxA, nxR]
              try rfl
end Go.Proofs.YtmadddihphkmoaaGreatDoor

/-
  Contracts: the reader of the package columns: take.
  Conditions: none.
-/
namespace Go.Proofs.YtmadddihphkmoaaGreatDoor
open Go.AM
open Go.Proofs
open Go.Col
set_option maxRecDepth 100000

def QY (cb : Option Buf) (x : Rd) : List AVal := [XM 3 cb, .int .i64 x.line, .int .i64 x.col, .bool x.odd]
/-- The reader's heap: its struct, its cards, the marks of the last card; all else lies in B (the marks of the other cards in M). -/
def rdH (kx : Nat) (B : AHeap) (cb mb : Option Buf) (x : Rd) : AHeap := Xv (Xv (B.set kx ⟨QY cb x, 0⟩) cb) mb
def Zb (p : CardC × AVal) : List AVal := [.bool p.1.left, .str p.1.text, p.2]
structure RdInv (w₀ : World) (h : AHeap) (kx : Nat) (B M : AHeap) (cb mb : Option Buf) (x : Rd) : Prop where
  sub : Sub h B
  subM : Sub M B
  hk : B kx = none
  okc : bufOk (B.set kx ⟨QY cb x, 0⟩) 3 cb
  okm : bufOk (Xv (B.set kx ⟨QY cb x, 0⟩) cb) 3 mb
  cards : (x.cards = [] ∧ cb = none ∧ mb = none) ∨ ∃ (done : List (CardC × AVal)) (c : CardC) (kc : Nat), x.cards = done.map (·.1) ++ [c] ∧ cb = some ⟨kc, (done.map Zb).flatten ++ [.bool c.left, .str c.text, XM 3 mb]⟩ ∧ bufC mb = (c.marks.map markC).flatten ∧ ∀ p ∈ done, IsL w₀ M 3 p.2 (p.1.marks.map markC)

theorem bufNew {H : AHeap} {b : Option Buf} {j : Nat} (hj : Xv H b j = none) (c : Blk) : (Xv H b).set j c = Xv (H.set j c) b ∧ H j = none := by
  cases b with
  | none => exact ⟨rfl, hj⟩
  | some b =>
    have hne : j ≠ b.blk := fun e => by subst e; rw [show Xv H (some b) = H.set b.blk ⟨b.cells, 0⟩ from rfl, AHeap.set_same] at hj; cases hj
    exact ⟨AHeap.set_comm _ _ _ hne, by rw [show Xv H (some b) = H.set b.blk ⟨b.cells, 0⟩ from rfl, AHeap.set_ne _ _ hne] at hj; exact hj⟩
theorem bufOkNew {H : AHeap} {es : Nat} {b : Option Buf} (hb : bufOk H es b) {j : Nat} (hj : Xv H b j = none) (c : Blk) : bufOk (H.set j c) es b := by
  cases b with
  | none => trivial
  | some b =>
    refine ⟨?_, hb.2⟩
    have hne : j ≠ b.blk := fun e => by subst e; rw [show Xv H (some b) = H.set b.blk ⟨b.cells, 0⟩ from rfl, AHeap.set_same] at hj; cases hj
    rw [AHeap.set_ne _ _ hne.symm]
    exact hb.1
/-- Two growing slices beside each other. -/
theorem bufSwap {H : AHeap} {es : Nat} {a b : Option Buf} (ha : bufOk H es a) (hb : bufOk (Xv H a) es b) : Xv (Xv H a) b = Xv (Xv H b) a ∧ bufOk H es b ∧ bufOk (Xv H b) es a := by
  cases a with
  | none => exact ⟨rfl, hb, trivial⟩
  | some a =>
    cases b with
    | none => exact ⟨rfl, trivial, ha⟩
    | some b =>
      have hne : b.blk ≠ a.blk := fun e => by
        have := hb.1
        rw [e, show Xv H (some a) = H.set a.blk ⟨a.cells, 0⟩ from rfl, AHeap.set_same] at this
        cases this
      have hb1 : H b.blk = none := by
        have := hb.1
        rwa [show Xv H (some a) = H.set a.blk ⟨a.cells, 0⟩ from rfl, AHeap.set_ne _ _ hne] at this
      exact ⟨AHeap.set_comm _ _ _ hne, ⟨hb1, hb.2⟩, ⟨(AHeap.set_ne _ _ hne.symm).trans ha.1, ha.2⟩⟩
theorem rdH_new {w₀ : World} {h : AHeap} {kx : Nat} {B M : AHeap} {cb mb : Option Buf} {x : Rd} (hi : RdInv w₀ h kx B M cb mb x) {j : Nat} (hj : rdH kx B cb mb x j = none) (c : Blk) :
    (rdH kx B cb mb x).set j c = rdH kx (B.set j c) cb mb x ∧ RdInv w₀ h kx (B.set j c) M cb mb x ∧ j ≠ kx ∧ B j = none := by
  unfold rdH at hj
  obtain ⟨e1, h1⟩ := bufNew hj c
  obtain ⟨e2, h2⟩ := bufNew h1 c
  have hne : j ≠ kx := fun e => by subst e; rw [AHeap.set_same] at h2; cases h2
  have h3 : B j = none := by rwa [AHeap.set_ne _ _ hne] at h2
  have e3 : (B.set kx ⟨QY cb x, 0⟩).set j c = (B.set j c).set kx ⟨QY cb x, 0⟩ := AHeap.set_comm _ _ _ hne
  refine ⟨?_, ⟨Sub.trans_set hi.sub (hi.sub.none h3), Sub.trans_set hi.subM (hi.subM.none h3), (AHeap.set_ne _ _ hne.symm).trans hi.hk, ?_, ?_, hi.cards⟩, hne, h3⟩
  · unfold rdH
    rw [e1, e2, e3]
  · rw [← e3]
    exact bufOkNew hi.okc h1 c
  · rw [← e3, ← e2]
    exact bufOkNew hi.okm hj c
section
variable {w₀ : World} {h : AHeap} {kx : Nat} {B M : AHeap} {cb mb : Option Buf} {x : Rd}
theorem RdInv.at (hi : RdInv w₀ h kx B M cb mb x) : rdH kx B cb mb x kx = some ⟨QY cb x, 0⟩ := bufAt hi.okm (bufAt hi.okc (AHeap.set_same _ _ _))
theorem RdInv.other (hi : RdInv w₀ h kx B M cb mb x) {j : Nat} {c : Blk} (hj : B j = some c) : rdH kx B cb mb x j = some c :=
  bufAt hi.okm (bufAt hi.okc ((AHeap.set_ne _ _ (fun e => by subst e; rw [hi.hk] at hj; cases hj)).trans hj))
theorem RdInv.above (hi : RdInv w₀ h kx B M cb mb x) : Sub h (rdH kx B cb mb x) := fun _ _ hj => hi.other (hi.sub _ _ hj)
/-- A block beside is written. -/
theorem RdInv.put (hi : RdInv w₀ h kx B M cb mb x) {j : Nat} {c : Blk} (hj : B j = some c) (hh : h j = none) (hM : M j = none) (d : Blk) : (rdH kx B cb mb x).set j d = rdH kx (B.set j d) cb mb x ∧ RdInv w₀ h kx (B.set j d) M cb mb x := by
  have hne : j ≠ kx := fun e => by subst e; rw [hi.hk] at hj; cases hj
  have hj1 : B.set kx ⟨QY cb x, 0⟩ j = some c := (AHeap.set_ne _ _ hne).trans hj
  have e3 : (B.set kx ⟨QY cb x, 0⟩).set j d = (B.set j d).set kx ⟨QY cb x, 0⟩ := AHeap.set_comm _ _ _ hne
  refine ⟨?_, ⟨Sub.trans_set hi.sub hh, Sub.trans_set hi.subM hM, (AHeap.set_ne _ _ hne.symm).trans hi.hk, ?_, ?_, hi.cards⟩⟩
  · unfold rdH
    rw [bufSet hi.okm (bufAt hi.okc hj1), bufSet hi.okc hj1, e3]
  · rw [← e3]
    exact bufOkSet hi.okc hj1 d
  · rw [← e3, ← bufSet hi.okc hj1]
    exact bufOkSet hi.okm (bufAt hi.okc hj1) d
theorem cell3_wide : ∀ p : CardC × AVal, (Zb p).length = 3 := fun _ => rfl
theorem RdInv.many (hi : RdInv w₀ h kx B M cb mb x) : (bufC cb).length / 3 = x.cards.length := by
  rcases hi.cards with ⟨c1, c2, _⟩ | ⟨done, c', kc, c1, c2, c3, c4⟩
  · rw [c1, c2]; rfl
  · rw [c1, c2]
    simp only [bufC, List.length_append, List.length_map, List.length_cons, List.length_nil]
    rw [flatten_len (es := 3) (by intro y hy; obtain ⟨p, _, rfl⟩ := List.mem_map.1 hy; rfl), List.length_map]
    omega
theorem buf_len (P : Program) {t e : TypeId} (ht : P.underlying t = some (.slice e)) (es : Nat) (b : Option Buf) : pLen P t (XM es b) = ⟨True, .int .i64 ((bufC b).length / es : Nat)⟩ := by
  cases b with
  | none => simp [XM, bufC, pLen, ht]
  | some b => simp only [XM, bufC, pLen, ht]
end
end Go.Proofs.YtmadddihphkmoaaGreatDoor

/-
  Contracts: card of the scanner.
  Conditions: none.
-/
namespace Go.Proofs.YtmadddihphkmoaaGreatDoor
open Go.AM
open Go.Proofs
open Go.Col
open Go.Tok
open Go.RowKit (Below)
set_option maxRecDepth 100000

/-! ### The tokens of a card, step by step -/
def tokAt (c : CardC) (j : Nat) (t : Nx) : TokC := ⟨t.kind, t.text, (atE c j).1, (atE c j).2.1, decide ((atE c j).2.1 < 12)⟩
def cardR (c : CardC) (i : Nat) (l : List TokC) : List TokC × FaultC := cardGo c (c.text.length + 1 - i) i l
theorem cardGo_step (c : CardC) (f i : Nat) (l : List TokC) : cardGo c (f + 1) i l =
    if c.text.length ≤ Xb c.text (QM l).1 i then (l, okF)
    else if errE (QJ c.text (Xb c.text (QM l).1 i) l) l.length ≠ 0 then (l, ⟨errE (QJ c.text (Xb c.text (QM l).1 i) l) l.length, (atE c (Xb c.text (QM l).1 i)).1, (atE c (Xb c.text (QM l).1 i)).2.1⟩)
    else cardGo c f (Xb c.text (QM l).1 i + (QJ c.text (Xb c.text (QM l).1 i) l).n) (l ++ [tokAt c (Xb c.text (QM l).1 i) (QJ c.text (Xb c.text (QM l).1 i) l)]) := rfl
theorem cardGo_fuel (c : CardC) : ∀ (f g i : Nat) (l : List TokC), c.text.length < i + f → c.text.length < i + g → cardGo c f i l = cardGo c g i l
  | 0, g, i, l, h, h' => by
    have hj := skipE_ge c.text (QM l).1 i
    cases g with
    | zero => rfl
    | succ g => rw [cardGo_step, if_pos (by omega)]; rfl
  | f + 1, 0, i, l, h, h' => by
    have hj := skipE_ge c.text (QM l).1 i
    rw [cardGo_step, if_pos (by omega)]; rfl
  | f + 1, g + 1, i, l, h, h' => by
    have hj := skipE_ge c.text (QM l).1 i
    rw [cardGo_step, cardGo_step]
    split
    · rfl
    · rename_i hl
      split
      · rfl
      · rename_i he
        have hn := next_len (by omega) (errE_ok (Decidable.of_not_not he))
        have := hn.n0
        exact cardGo_fuel c f g _ _ (by omega) (by omega)
theorem cardR_step (c : CardC) (i : Nat) (l : List TokC) : cardR c i l =
    if c.text.length ≤ Xb c.text (QM l).1 i then (l, okF)
    else if errE (QJ c.text (Xb c.text (QM l).1 i) l) l.length ≠ 0 then (l, ⟨errE (QJ c.text (Xb c.text (QM l).1 i) l) l.length, (atE c (Xb c.text (QM l).1 i)).1, (atE c (Xb c.text (QM l).1 i)).2.1⟩)
    else cardR c (Xb c.text (QM l).1 i + (QJ c.text (Xb c.text (QM l).1 i) l).n) (l ++ [tokAt c (Xb c.text (QM l).1 i) (QJ c.text (Xb c.text (QM l).1 i) l)]) := by
  have hj := skipE_ge c.text (QM l).1 i
  by_cases h : c.text.length < i
  · unfold cardR
    rw [show c.text.length + 1 - i = 0 by omega, if_pos (by omega)]
    rfl
  · unfold cardR
    rw [show c.text.length + 1 - i = (c.text.length - i) + 1 by omega, cardGo_step]
    split
    · rfl
    · split
      · rfl
      · rename_i hl he
        have hn := next_len (by omega) (errE_ok (Decidable.of_not_not he))
        have := hn.n0
        exact cardGo_fuel c _ _ _ _ (by omega) (by omega)

/-- What holds of each token that is read. -/
theorem cardGo_inv (c : CardC) (P : TokC → Prop) (hP : ∀ (j : Nat) (l : List TokC), j < c.text.length → qA c.text j ≠ 32 → (QJ c.text j l).e = 0 → P (tokAt c j (QJ c.text j l))) : ∀ (f i : Nat) (l : List TokC), (∀ t ∈ l, P t) → ∀ t ∈ (cardGo c f i l).1, P t
  | 0, i, l, h => h
  | f + 1, i, l, h => by
    rw [cardGo_step]
    split
    · exact h
    · rename_i hl
      split
      · exact h
      · rename_i he
        refine cardGo_inv c P hP f _ _ fun t ht => ?_
        rw [List.mem_append, List.mem_singleton] at ht
        rcases ht with ht | rfl
        · exact h t ht
        · exact hP _ _ (by omega) (skip_not (by omega)) (errE_ok (Decidable.of_not_not he))
theorem cardT_inv (c : CardC) (P : TokC → Prop) (hP : ∀ (j : Nat) (l : List TokC), validC c = true → j < c.text.length → qA c.text j ≠ 32 → (QJ c.text j l).e = 0 → P (tokAt c j (QJ c.text j l))) (l : List TokC) (h : ∀ t ∈ l, P t) : ∀ t ∈ (cardT c l).1, P t := by
  unfold cardT
  split
  · exact h
  · rename_i h0
    have hv : validC c = true := by
      unfold atE at h0
      split at h0
      · rename_i q; exact q.1
      · exact absurd (show ((0 : Int), (0 : Int), (1 : Int)).2.2 ≠ 0 by decide) h0
    exact cardGo_inv c P (fun j l a b d => hP j l hv a b d) _ _ _ h
theorem scanGo_inv (P : TokC → Prop) : ∀ (cs : List CardC), (∀ c ∈ cs, ∀ (j : Nat) (l : List TokC), validC c = true → j < c.text.length → qA c.text j ≠ 32 → (QJ c.text j l).e = 0 → P (tokAt c j (QJ c.text j l))) → ∀ (l : List TokC), (∀ t ∈ l, P t) → ∀ t ∈ (scanGo cs l).1, P t
  | [], _, l, h => h
  | c :: r, hP, l, h => by
    rw [scanGo]
    split
    · exact fun t ht => by cases ht
    · exact scanGo_inv P r (fun d hd => hP d (by simp [hd])) _ (cardT_inv c P (hP c (by simp)) l h)
theorem cardGo_many (c : CardC) : ∀ (f i : Nat) (l : List TokC), l.length ≤ 65536 → (cardGo c f i l).1.length ≤ 65536
  | 0, i, l, h => h
  | f + 1, i, l, h => by
    rw [cardGo_step]
    split
    · exact h
    · split
      · exact h
      · rename_i he
        refine cardGo_many c f _ _ ?_
        have hlt : ¬ 65536 ≤ l.length := fun q => by
          have h0 := errE_ok (Decidable.of_not_not he)
          unfold errE at he
          rw [if_pos ⟨h0, q⟩] at he
          exact he (by decide)
        simp
        omega
theorem cardT_many (c : CardC) (l : List TokC) (h : l.length ≤ 65536) : (cardT c l).1.length ≤ 65536 := by
  unfold cardT
  split
  · exact h
  · exact cardGo_many c _ _ _ h
theorem scanGo_many : ∀ (cs : List CardC) (l : List TokC), l.length ≤ 65536 → (scanGo cs l).1.length ≤ 65536
  | [], l, h => h
  | c :: r, l, h => by
    rw [scanGo]
    split
    · exact Nat.zero_le _
    · exact scanGo_many r _ (cardT_many c l h)

/-! ### The scanner's heap -/
def scH (kx : Nat) (B : AHeap) (tb : Option Buf) (lf : Bool) (s : Str) (mv : AVal) (i : Nat) : AHeap := Xv (B.set kx ⟨[.bool lf, .str s, mv, .int .i64 i, XM 5 tb], 0⟩) tb
structure ScInv (kx : Nat) (B : AHeap) (tb : Option Buf) (l : List TokC) : Prop where
  hk : B kx = none
  ok : ∀ c, bufOk (B.set kx c) 5 tb
  eq : bufC tb = (l.map Zc).flatten
theorem tokC_wide {l : List TokC} : ∀ x ∈ l.map Zc, x.length = 5 := fun x hx => by obtain ⟨y, _, rfl⟩ := List.mem_map.1 hx; rfl
section
variable {w₀ : World} {kx : Nat} {B : AHeap} {tb : Option Buf} {l : List TokC} {lf : Bool} {s : Str} {mv : AVal} {i : Nat}
theorem ScInv.at (hi : ScInv kx B tb l) : scH kx B tb lf s mv i kx = some ⟨[.bool lf, .str s, mv, .int .i64 i, XM 5 tb], 0⟩ := bufAt (hi.ok _) (AHeap.set_same _ _ _)
theorem ScInv.other (hi : ScInv kx B tb l) {j : Nat} {c : Blk} (hj : B j = some c) : scH kx B tb lf s mv i j = some c :=
  bufAt (hi.ok _) ((AHeap.set_ne _ _ (fun e => by subst e; rw [hi.hk] at hj; cases hj)).trans hj)
theorem ScInv.above (hi : ScInv kx B tb l) : Sub B (scH kx B tb lf s mv i) := fun _ _ hj => hi.other hj
theorem ScInv.toks (hi : ScInv kx B tb l) (c : Blk) : IsL w₀ (Xv (B.set kx c) tb) 5 (XM 5 tb) (l.map Zc) := IsL.buf (hi.ok c) (by decide) hi.eq tokC_wide (Sub.refl _)
theorem ScInv.set (hi : ScInv kx B tb l) (c : Blk) : (scH kx B tb lf s mv i).set kx c = Xv (B.set kx c) tb := by
  unfold scH
  rw [bufSet (hi.ok _) (AHeap.set_same _ _ _), AHeap.set_set]
theorem ScInv.lay (hi : ScInv kx B tb l) {j : Nat} (hj : scH kx B tb lf s mv i j = none) (c : Blk) :
    (scH kx B tb lf s mv i).set j c = scH kx (B.set j c) tb lf s mv i ∧ ScInv kx (B.set j c) tb l ∧ j ≠ kx ∧ B j = none := by
  have hj' := hj
  unfold scH at hj
  obtain ⟨e1, h1⟩ := bufNew hj c
  have hne : j ≠ kx := fun e => by subst e; rw [AHeap.set_same] at h1; cases h1
  have h3 : B j = none := by rwa [AHeap.set_ne _ _ hne] at h1
  have e3 : ∀ d, (B.set kx d).set j c = (B.set j c).set kx d := fun d => AHeap.set_comm _ _ _ hne
  refine ⟨?_, ⟨(AHeap.set_ne _ _ hne.symm).trans hi.hk, fun d => ?_, hi.eq⟩, hne, h3⟩
  · unfold scH
    rw [e1, e3]
  · rw [← e3]
    refine bufOkNew (hi.ok d) ?_ c
    rw [← ScInv.set hi (lf := lf) (s := s) (mv := mv) (i := i) d, AHeap.set_ne _ _ hne]
    exact hj'
theorem ScInv.down (hi : ScInv kx B tb l) {B' : AHeap} (hs : Sub B' B) : ScInv kx B' tb l := ⟨hs.none hi.hk, fun c => (hi.ok c).sub (Sub.set_both hs _ _), hi.eq⟩
theorem ScInv.none (hi : ScInv kx B tb l) {B' : AHeap} {j : Nat} {b : Blk} (hj : B j = some b) (hj' : B' j = Option.none) : scH kx B' tb lf s mv i j = Option.none := by
  have hne : j ≠ kx := fun e => by rw [e, hi.hk] at hj; cases hj
  have hok := hi.ok ⟨[], 0⟩
  unfold scH
  cases tb with
  | none => exact (AHeap.set_ne _ _ hne).trans hj'
  | some q =>
    have hq : j ≠ q.blk := fun e => by
      have := hok.1
      rw [← e, AHeap.set_ne _ _ hne, hj] at this
      cases this
    exact (AHeap.set_ne _ _ hq).trans ((AHeap.set_ne _ _ hne).trans hj')
theorem scH_sub {B' : AHeap} (hs : Sub B' B) : Sub (scH kx B' tb lf s mv i) (scH kx B tb lf s mv i) := by
  unfold scH
  cases tb with
  | none => exact Sub.set_both hs _ _
  | some b => exact Sub.set_both (Sub.set_both hs _ _) _ _
end
end Go.Proofs.YtmadddihphkmoaaGreatDoor

/-
  Contracts: card of the scanner.
  Conditions: none.
-/
namespace Go.Proofs.YtmadddihphkmoaaGreatDoor
open Go.AM
open Go.Proofs
open Go.Col
open Go.Tok
open Go.RowKit (Below)
set_option maxRecDepth 100000

structure ScG where
  i : Nat
  l : List TokC
  tb : Option Buf
structure ScOk (kx : Nat) (B : AHeap) (c : CardC) (R : List TokC × FaultC) (g : ScG) : Prop where
  inv : ScInv kx B g.tb g.l
  i : g.i ≤ c.text.length
  eq : cardR c g.i g.l = R
  len : g.l.length ≤ 65536
set_option maxHeartbeats 1000000 in
theorem c_card (w₀ : World) (kx : Nat) (B : AHeap) (tb : Option Buf) (c : CardC) (mv : AVal) (l : List TokC) (hi : ScInv kx B tb l) (hm : IsL w₀ B 3 mv (c.marks.map markC)) (hml : c.marks.length ≤ 4611686018427387904) (hct : c.text.length ≤ 1099511627776) (hl : l.length ≤ 65536) :
    ACall Tryz.prog w₀ 33 [.ptr (.own kx) 0] (scH kx B tb c.left c.text mv 0)
      (fun v h' => v = QE (cardT c l).2 ∧ (cardT c l).1.length ≤ 65536 ∧ ∃ tb' i', h' = scH kx B tb' c.left c.text mv i' ∧ ScInv kx B tb' (cardT c l).1) := by
  have hlm := hm.live
  obtain ⟨H0, hH0⟩ : ∃ H0, H0 = scH kx B tb c.left c.text mv 0 := ⟨_, rfl⟩
  have eb_x : H0 kx = some ⟨[.bool c.left, .str c.text, mv, .int .i64 (0 : Nat), XM 5 tb], 0⟩ := by rw [hH0]; exact hi.at
  have hs_H0 : Sub B H0 := by rw [hH0]; exact hi.above
  have ht0 : (if (atE c 0).2.2 ≠ 0 then (l, (⟨(atE c 0).2.2, 0, 0⟩ : FaultC)) else cardR c 0 l) = cardT c l := rfl
  rw [← hH0]
  refine qY (n := 82) (rs := [.cell 2 31]) Tryz.func33 rfl rfl rfl rfl (Nat.le_of_ble_eq_true rfl) ?_
  simp only [Qf]
  refine awp_rseq [0, 2] (by rfl) fun K hK => ?_
  refine Qh ze31 (cs := [.int .i64 0, .int .i64 0, .int .i64 0]) (by rfl) fun k0q0 hk0q0 => ?_
  have hn_0q0 : H0 k0q0 = none := by first | assumption | (simp only [AHeap.set_none] at hk0q0; simp only [hk0q0])
  have hf_0q0 : B k0q0 = none := Sub.none hs_H0 hn_0q0
  have ne_0q0_x : k0q0 ≠ kx := AHeap.ne_some hn_0q0 eb_x
  simp +decide only [qa, putD, Slots.put, Slots.keep, if_true, if_false]
  apply hK; clear hK K
  refine qN ?_
  refine awp_rseq [0, 2, 4] (by rfl) fun K hK => ?_
  simp +decide only [ev, putD, Slots.put, Slots.get, if_true, if_false, true_and, ↓qg, qd, ↓QC, Qc, QI, ↓qF, qo, fa89_0, ↓qJ, Qb, qi ag48 sz48, XG, ne_eq, not_false_eq_true, ne_0q0_x.symm, Xd w₀ eb_x, qf, List.getD_cons_zero, List.getD_cons_succ, Nat.zero_add, Nat.reduceAdd, qC, qE, allLive, Bool.and_true, hlm]
  refine qL (V := .tuple [posA (atE c 0).1 (atE c 0).2.1, .int .i64 (atE c 0).2.2]) (by rfl) (by rfl) (c_At w₀ _ c mv 0 (hm.mono (by repeat (first | exact Sub.refl _ | assumption | refine Sub.set_both ?_ _ _ | refine Sub.trans_set ?_ (by repeat (first | assumption | refine (AHeap.set_ne _ _ (by first | assumption | exact Ne.symm (by assumption))).trans ?_))))) hml (by omega) (by omega)) ?_
  simp +decide only [ev, putD, Slots.put, Slots.get, if_true, if_false, true_and, ↓qg, qd, ↓QU, QB, QL, List.length_cons, List.length_nil, List.getD_cons_zero, List.getD_cons_succ, List.getD_cons_zero, List.getD_cons_succ, Nat.zero_add, Nat.reduceAdd, posA]
  refine Qh ze29 (cs := [.int .i64 0, .int .i64 0]) (by rfl) fun k1q8 hk1q8 => ?_
  have ne_1q8_0q0 : k1q8 ≠ k0q0 := by simp only [AHeap.set_none] at hk1q8; simp only [hk1q8, ne_eq, not_false_eq_true]
  have hn_1q8 : H0 k1q8 = none := by first | assumption | (simp only [AHeap.set_none] at hk1q8; simp only [hk1q8])
  have hf_1q8 : B k1q8 = none := Sub.none hs_H0 hn_1q8
  have ne_1q8_x : k1q8 ≠ kx := AHeap.ne_some hn_1q8 eb_x
  refine qp (by rfl) (by rfl) (by repeat (first | exact AHeap.set_same _ _ _ | assumption | refine (AHeap.set_ne _ _ (by first | assumption | exact Ne.symm (by assumption))).trans ?_)) sz29 (by rfl) (by rfl) (by first | exact Nat.le_refl _ | decide | (simp; done) | (simp; omega)) (Nat.zero_le _) (by rfl) ?_
  simp only [AHeap.set_set, AVal.cells]
  simp +decide only [qa, ev, putD, Slots.put, Slots.get, Slots.keep, if_true, if_false, true_and, ↓qc, qb, setAt, List.set_cons_zero, List.set_cons_succ, Nat.zero_add]
  apply hK; clear hK K
  refine awp_rseq [0, 2, 4, 19] (by rfl) fun K hK => ?_
  simp +decide only [qa, ev, qK, qH, putD, Slots.put, Slots.get, Slots.keep, if_true, if_false, true_and, ↓qg, qd, ↓qw, qh, qz, cond_false, qm, pI_neq]
  apply hK; clear hK K
  refine qM (b := _) rfl (fun hb1 => ?_) (fun hb1 => ?_)
  · try simp only [decide_eq_false_iff_not, Bool.not_eq_true'] at hb1
    refine awp_rseq [2] (by rfl) fun K hK => ?_
    simp +decide only [ev, qK, qH, putD, Slots.put, Slots.get, if_true, if_false, true_and, ↓qg, qd, ↓Qo, ↓Qa, bld31_0, evP, List.map_cons, List.map_nil]
    refine qp (by rfl) (by rfl) (by repeat (first | exact AHeap.set_same _ _ _ | assumption | refine (AHeap.set_ne _ _ (by first | assumption | exact Ne.symm (by assumption))).trans ?_)) QR (by rfl) (by rfl) (by first | exact Nat.le_refl _ | decide | (simp; done) | (simp; omega)) (Nat.zero_le _) (by rfl) ?_
    simp only [AVal.cells]
    simp +decide only [qa, ev, putD, Slots.get, Slots.keep, if_true, if_false, setAt, List.set_cons_zero, List.set_cons_succ, Nat.zero_add, Nat.reduceAdd]
    apply hK; clear hK K
    refine qU ?_
    try simp only [Ql]
    refine retA_retE (?_) ?_
    · simp +decide only [QF, ql, Slots.get, if_true, and_true, ql, qi XL QR, Qi, qf, List.getD_cons_zero, List.getD_cons_succ, Nat.zero_add, Nat.reduceAdd, qj, allLive, Bool.and_true, qf, List.getD_cons_zero, List.getD_cons_succ, Nat.zero_add, Nat.reduceAdd, qj, allLive, Bool.and_true]
    
    simp +decide only [Slots.get, if_true, resOfG_one, ql, qi XL QR, Qi, qf, List.getD_cons_zero, List.getD_cons_succ, Nat.zero_add, Nat.reduceAdd, qj, allLive, Bool.and_true, qf, List.getD_cons_zero, List.getD_cons_succ, Nat.zero_add, Nat.reduceAdd, qj, allLive, Bool.and_true, QE]
    rw [if_pos hb1] at ht0
    rw [← ht0]
    exact ⟨scH kx B tb c.left c.text mv 0, by rw [← hH0]; exact (by repeat (first | exact Sub.refl _ | assumption | refine Sub.set_both ?_ _ _ | refine Sub.trans_set ?_ (by repeat (first | assumption | refine (AHeap.set_ne _ _ (by first | assumption | exact Ne.symm (by assumption))).trans ?_)))), rfl, hl, tb, 0, rfl, hi⟩
  · try simp only [decide_eq_true_eq, Bool.not_eq_false'] at hb1
    have hv0 : (atE c 0).2.2 = 0 := by simpa using hb1
    rw [if_neg (by rw [hv0]; simp)] at ht0
    obtain ⟨a1, a2, a3, a4⟩ := hi.lay (j := k0q0) (lf := c.left) (s := c.text) (mv := mv) (i := 0) (by rw [← hH0]; exact hk0q0) ⟨[.int .i64 0, .int .i64 0, .int .i64 0], 0⟩
    obtain ⟨B1, hB1⟩ : ∃ B1, B1 = B.set k0q0 ⟨[.int .i64 0, .int .i64 0, .int .i64 0], 0⟩ := ⟨_, rfl⟩
    rw [← hB1] at a1 a2
    have hB1s : Sub B B1 := by rw [hB1]; exact Sub.set a4
    have hB1k : B1 k0q0 = some ⟨[.int .i64 0, .int .i64 0, .int .i64 0], 0⟩ := by rw [hB1]; exact AHeap.set_same _ _ _
    have hv : validC c = true := by
      unfold atE at hv0
      split at hv0
      · rename_i q; exact q.1
      · cases hv0
    refine Awp.forget (h' := scH kx B1 tb c.left c.text mv 0) (by rw [← a1, ← hH0]; exact Sub.set hk1q8) ?_
    refine qZ ?_
    change Awp _ _ _ _ _ _ _
    refine qN ?_
    refine Qt ?_
    refine XW [0, 2] (fun g : ScG => [(0, .ptr (.own kx) 0), (2, .ptr (.own k0q0) 0)]) (fun g : ScG => scH kx B1 g.tb c.left c.text mv g.i) (fun g : ScG => ScOk kx B1 c (cardT c l) g) (fun g : ScG => c.text.length - g.i) ⟨0, l, tb⟩ (by rfl) (Sub.refl _) ⟨a2, Nat.zero_le _, ht0, hl⟩ ?_
    rintro ⟨i, l1, tb1⟩ ⟨i1, i2, i3, i4⟩
    simp only at i1 i2 i3 i4 ⊢
    have hjl := skipE_le c.text (QM l1).1 i i2
    have hjg := skipE_ge c.text (QM l1).1 i
    have hnot := skip_not (s := c.text) (next := (QM l1).1) (i := i)
    have hstep := cardR_step c i l1
    have hsk := c_skip w₀ (scH kx B1 tb1 c.left c.text mv i) kx c.left c.text mv (XM 5 tb1) i l1 i1.at (i1.toks _) (fun d => by rw [i1.set]; exact i1.toks d) (by omega) hct i2
    have hst := i1.set (lf := c.left) (s := c.text) (mv := mv) (i := i) ⟨[.bool c.left, .str c.text, mv, .int .i64 (Xb c.text (QM l1).1 i), XM 5 tb1], 0⟩
    obtain ⟨j, hj⟩ : ∃ j, j = Xb c.text (QM l1).1 i := ⟨_, rfl⟩
    rw [← hj] at hjl hjg hnot hstep hsk hst
    rw [i3] at hstep
    have hval : atE c j = ((atE c j).1, (atE c j).2.1, 0) := by
      unfold atE
      rw [if_pos ⟨hv, by omega, by omega⟩]
    refine qN ?_
    refine awp_rseq [0, 2, 23] (by rfl) fun K hK => ?_
    simp +decide only [ev, putD, Slots.put, Slots.get, if_true, if_false, true_and, ↓qg, qd]
    refine Xp (by rfl) (by rfl) (hsk) fun x4q1 h4q1 hx4q1 => ?_
    obtain ⟨hv4, hh4⟩ := hx4q1
    rw [hv4, hh4, hst]
    simp +decide only [qa, putD, Slots.put, Slots.keep, if_true, if_false]
    apply hK; clear hK K
    refine qM (b := _) rfl (fun hb2 => ?_) (fun hb2 => ?_)
    · try simp only [decide_eq_true_eq] at hb2
      refine qZ ?_
      change Awp _ _ _ _ _ _ _
      refine Qt ?_
      have hjlt : j < c.text.length := by simpa using hb2
      have h32 := hnot hjlt
      obtain ⟨H1, hH1⟩ : ∃ H1, H1 = scH kx B1 tb1 c.left c.text mv j := ⟨_, rfl⟩
      have htk : IsL w₀ H1 5 (XM 5 tb1) (l1.map Zc) := by rw [hH1]; exact i1.toks _
      replace eb_x : H1 kx = some ⟨[.bool c.left, .str c.text, mv, .int .i64 j, XM 5 tb1], 0⟩ := by rw [hH1]; exact i1.at
      have eb_0q0 : H1 k0q0 = some ⟨[.int .i64 0, .int .i64 0, .int .i64 0], 0⟩ := by rw [hH1]; exact i1.other hB1k
      have hs_H1 : Sub B H1 := by rw [hH1]; exact hB1s.trans i1.above
      have htl := htk.live
      have hlen := htk.len Tryz.underlying25
      rw [List.length_map] at hlen
      rw [if_neg (by omega)] at hstep
      obtain ⟨t, ht⟩ : ∃ t, t = QJ c.text j l1 := ⟨_, rfl⟩
      rw [← ht] at hstep
      show Awp _ _ _ _ _ _ (scH kx B1 tb1 c.left c.text mv j)
      rw [← hH1]
      refine awp_dseq_F 13 [11] [0, 2, 5] mixed (by kernel_rfl) (by rfl) fun K hK => ?_
      simp only [List.take_succ_cons, List.take_zero, List.drop_succ_cons, List.drop_zero]
      simp +decide only [ev, putD, Slots.put, Slots.get, if_true, if_false, true_and, ↓fp_move, qd, ↓fp_nilCheck, Qc, QI, ↓fp_fieldAddr, qo, fa89_0, ↓fp_load, pop_load, qi ag48 sz48, fa89_1, qD ag3, Xd w₀ eb_x, qf, List.getD_cons_zero, List.getD_cons_succ, Nat.zero_add, Nat.reduceAdd, qC, qj, qE, allLive, Bool.and_true, hlm]
      refine fOps_callV (V := .tuple [posA (atE c j).1 (atE c j).2.1, .int .i64 (atE c j).2.2]) (by rfl) (by rfl) (by first | trivial | (simp +decide only [AVal.okIn, okInL, and_true, true_and, QE, markC, posA, cardA, nxA, nxR, AHeap.set_same, Option.isSome_some]; done) | (simp [AVal.okIn, okInL, AHeap.set]; done)) (fun g hg => c_At w₀ _ c mv j (hm.mono (hs_H1.trans hg)) hml (by omega) (by omega)) ?_
      simp +decide only [ev, putD, Slots.put, Slots.get, if_true, if_false, true_and, ↓fp_move, qd, ↓fp_extract, QB, QL, List.length_cons, List.length_nil, List.getD_cons_zero, List.getD_cons_succ, List.getD_cons_zero, List.getD_cons_succ, Nat.zero_add, Nat.reduceAdd, posA]
      refine fOps_lay (by rfl) ?_
      refine Qh ze29 (cs := [.int .i64 0, .int .i64 0]) (by rfl) fun k5q12 hk5q12 => ?_
      have hn_5q12 : H1 k5q12 = none := by first | assumption | (simp only [AHeap.set_none] at hk5q12; simp only [hk5q12])
      have hf_5q12 : B k5q12 = none := Sub.none hs_H1 hn_5q12
      have ne_5q12_x : k5q12 ≠ kx := AHeap.ne_some hn_5q12 eb_x
      have ne_5q12_0q0 : k5q12 ≠ k0q0 := AHeap.ne_some hn_5q12 eb_0q0
      rw [qa]
      try simp only [fOps_nil]
      refine qp (by rfl) (by rfl) (by repeat (first | exact AHeap.set_same _ _ _ | assumption | refine (AHeap.set_ne _ _ (by first | assumption | exact Ne.symm (by assumption))).trans ?_)) sz29 (by rfl) (by rfl) (by first | exact Nat.le_refl _ | decide | (simp; done) | (simp; omega)) (Nat.zero_le _) (by rfl) ?_
      simp only [AHeap.set_set, AVal.cells]
      simp +decide only [qa, ev, putD, Slots.put, Slots.get, Slots.keep, if_true, if_false, true_and, ↓qc, qb, setAt, List.set_cons_zero, List.set_cons_succ, Nat.zero_add]
      apply hK; clear hK K
      refine awp_rseq [0, 2, 5, 7, 8, 9] (by rfl) fun K hK => ?_
      simp +decide only [ev, putD, Slots.put, Slots.get, if_true, if_false, true_and, ↓qg, qd]
      refine qL (V := nxR t) (by rfl) (by rfl) (by rw [ht]; exact c_next w₀ _ kx c.left c.text mv (XM 5 tb1) j l1 ((by repeat (first | exact AHeap.set_same _ _ _ | assumption | refine (AHeap.set_ne _ _ (by first | assumption | exact Ne.symm (by assumption))).trans ?_))) (htk.mono (by repeat (first | exact Sub.refl _ | assumption | refine Sub.set_both ?_ _ _ | refine Sub.trans_set ?_ (by repeat (first | assumption | refine (AHeap.set_ne _ _ (by first | assumption | exact Ne.symm (by assumption))).trans ?_))))) (by omega) h32 hct) ?_
      simp +decide only [ev, putD, Slots.put, Slots.get, if_true, if_false, true_and, ↓qg, qd, ↓QU, QB, QL, List.length_cons, List.length_nil, List.getD_cons_zero, List.getD_cons_succ, List.getD_cons_zero, List.getD_cons_succ, Nat.zero_add, Nat.reduceAdd, nxA, nxR]
      refine Qh ze38 (cs := [.int .u8 0, .str [], .int .i64 0, .int .i64 0, .bool false]) (by rfl) fun k6q6 hk6q6 => ?_
      have ne_6q6_5q12 : k6q6 ≠ k5q12 := by simp only [AHeap.set_none] at hk6q6; simp only [hk6q6, ne_eq, not_false_eq_true]
      have hn_6q6 : H1 k6q6 = none := by first | assumption | (simp only [AHeap.set_none] at hk6q6; simp only [hk6q6])
      have hf_6q6 : B k6q6 = none := Sub.none hs_H1 hn_6q6
      have ne_6q6_x : k6q6 ≠ kx := AHeap.ne_some hn_6q6 eb_x
      have ne_6q6_0q0 : k6q6 ≠ k0q0 := AHeap.ne_some hn_6q6 eb_0q0
      refine qp (by rfl) (by rfl) (by repeat (first | exact AHeap.set_same _ _ _ | assumption | refine (AHeap.set_ne _ _ (by first | assumption | exact Ne.symm (by assumption))).trans ?_)) Xi (by rfl) (by rfl) (by first | exact Nat.le_refl _ | decide | (simp; done) | (simp; omega)) (Nat.zero_le _) (by rfl) ?_
      simp only [AHeap.set_set, AVal.cells]
      simp +decide only [qa, ev, putD, Slots.put, Slots.get, Slots.keep, if_true, if_false, true_and, ↓qc, qb, setAt, List.set_cons_zero, List.set_cons_succ, Nat.zero_add, Nat.reduceAdd]
      apply hK; clear hK K
      refine qN ?_
      refine awp_rseq [0, 2, 5, 7, 8, 9, 51] (by rfl) fun K hK => ?_
      simp +decide only [qa, ev, qK, qH, putD, Slots.put, Slots.get, Slots.keep, if_true, if_false, true_and, ↓qg, qd, ↓qw, qh, qz, cond_false, qm, Xo, ↓Xf, agP, Qm, qI, qG, qy, implies_true, ↓ag_nilCheck, Qc, QI, cv_nil, cp_nil, ↓XE, qo, fa89_2, cv_fieldAddr, cp_fieldAddr, ↓Zm, XY, agL_mk, agL_ld1, qD ag25, ↓ag_len, QH, cv_len, cp_len, ↓QW, XR, XT, pI_geq, ↓QN, Qw, Qg, QZ, Xj, XG, ne_eq, not_false_eq_true, ne_5q12_x.symm, ne_6q6_x.symm, Xd w₀ eb_x, List.getD_cons_zero, List.getD_cons_succ, Nat.zero_add, htl, hlen]
      apply hK; clear hK K
      refine awp_joinT [0, 2, 5, 7, 8, 9] (fun z : Unit => [(0, .ptr (.own kx) 0), (2, .ptr (.own k0q0) 0), (5, .ptr (.own k5q12) 0), (7, .ptr (.own k6q6) 0), (8, .int .i64 t.n), (9, .int .i64 (errE t l1.length))]) (fun z : Unit => (H1.set k5q12 ⟨[.int .i64 (atE c j).1, .int .i64 (atE c j).2.1], 0⟩).set k6q6 ⟨[.int .u8 t.kind.toNat, .str t.text, .int .i64 0, .int .i64 0, .bool false], 0⟩) (fun z : Unit => True) ?_ ?_
      · refine qM (b := _) rfl (fun hb3 => ?_) (fun hb3 => ?_)
        · try simp only [decide_eq_true_eq, Bool.and_eq_true] at hb3
          have hee : errE t l1.length = 3 := by unfold errE; rw [if_pos ⟨hb3.1, by omega⟩]
          refine Xl [0, 2, 5, 7, 8, 9] (by rfl) ?_
          simp +decide only [qa, ev, qK, qH, putD, Slots.put, Slots.keep, if_true, if_false, true_and, and_true, ↓qc, qb, QE]
          try simp only [qR]
          first
          | exact ⟨(), by rw [hee]; rfl, Sub.refl _, trivial⟩
          | exact ⟨(), by rw [hee]; rfl, Sub.refl _⟩
        · try simp only [decide_eq_false_iff_not, Bool.and_eq_false_iff] at hb3
          have hee : errE t l1.length = t.e := by unfold errE; rw [if_neg (fun q => hb3.elim (fun z => z q.1) (fun z => z (by omega)))]
          refine qZ ?_
          try simp only [qR]
          first
          | exact ⟨(), by rw [hee]; rfl, Sub.refl _, trivial⟩
          | exact ⟨(), by rw [hee]; rfl, Sub.refl _⟩
      · intro _ _
        refine qN ?_
        refine awp_rseq [0, 2, 5, 7, 8, 9, 53] (by rfl) fun K hK => ?_
        simp +decide only [qa, ev, qK, qH, putD, Slots.put, Slots.get, Slots.keep, if_true, if_false, true_and, ↓qg, qd, ↓qw, qh, qz, cond_false, qm, pI_neq]
        apply hK; clear hK K
        refine qM (b := _) rfl (fun hb4 => ?_) (fun hb4 => ?_)
        · try simp only [decide_eq_false_iff_not, Bool.not_eq_true'] at hb4
          rw [if_pos hb4] at hstep
          have hSB : Sub (scH kx B tb1 c.left c.text mv j) H1 := by rw [hH1]; exact scH_sub hB1s
          have hz0 : (scH kx B tb1 c.left c.text mv j) k0q0 = none := i1.none hB1k a4
          have hz5 := Sub.none hSB hn_5q12
          have hz6 := Sub.none hSB hn_6q6
          refine awp_rseq [2] (by rfl) fun K hK => ?_
          simp +decide only [ev, qK, qH, putD, Slots.put, Slots.get, if_true, if_false, true_and, ↓qg, qd, ↓qJ, Qb, qi ag29 sz29, ↓Qo, ↓Qa, bld31_0_1, evP, List.map_cons, List.map_nil, XG, ne_eq, not_false_eq_true, ne_6q6_5q12.symm, Xa, qf, List.getD_cons_zero, List.getD_cons_succ, Nat.zero_add, qj, allLive, Bool.and_true]
          refine qp (by rfl) (by rfl) (by repeat (first | exact AHeap.set_same _ _ _ | assumption | refine (AHeap.set_ne _ _ (by first | assumption | exact Ne.symm (by assumption))).trans ?_)) QR (by rfl) (by rfl) (by first | exact Nat.le_refl _ | decide | (simp; done) | (simp; omega)) (Nat.zero_le _) (by rfl) ?_
          simp only [AVal.cells]
          simp +decide only [qa, ev, putD, Slots.get, Slots.keep, if_true, if_false, setAt, List.set_cons_zero, List.set_cons_succ, Nat.zero_add, Nat.reduceAdd]
          apply hK; clear hK K
          refine qU ?_
          try simp only [Ql, QA]
          refine retA_retE (?_) ?_
          · simp +decide only [QF, ql, Slots.get, if_true, and_true, ql, qi XL QR, Qi, qf, List.getD_cons_zero, List.getD_cons_succ, Nat.zero_add, Nat.reduceAdd, qj, allLive, Bool.and_true, qf, List.getD_cons_zero, List.getD_cons_succ, Nat.zero_add, Nat.reduceAdd, qj, allLive, Bool.and_true]
          
          simp +decide only [Slots.get, if_true, resOfG_one, ql, qi XL QR, Qi, qf, List.getD_cons_zero, List.getD_cons_succ, Nat.zero_add, Nat.reduceAdd, qj, allLive, Bool.and_true, qf, List.getD_cons_zero, List.getD_cons_succ, Nat.zero_add, Nat.reduceAdd, qj, allLive, Bool.and_true, QE]
          rw [hstep]
          exact ⟨scH kx B tb1 c.left c.text mv j, (by repeat (first | exact Sub.refl _ | assumption | refine Sub.set_both ?_ _ _ | refine Sub.trans_set ?_ (by repeat (first | assumption | refine (AHeap.set_ne _ _ (by first | assumption | exact Ne.symm (by assumption))).trans ?_)))), rfl, i4, tb1, j, rfl, i1.down hB1s⟩
        · try simp only [decide_eq_true_eq, Bool.not_eq_false'] at hb4
          have hez : errE t l1.length = 0 := by simpa using hb4
          rw [if_neg (by rw [hez]; simp)] at hstep
          have hte := errE_ok hez
          have hlt : l1.length < 65536 := by
            unfold errE at hez
            split at hez
            · cases hez
            · rename_i q; exact Nat.lt_of_not_le fun z => q ⟨hte, z⟩
          have hnk : NxOk c.text j t := by
            rw [ht] at hte ⊢
            exact next_ok hjlt (by rwa [Qn hjlt] at h32) hte
          have hn0 := hnk.n0
          have hn1 := hnk.n1
          refine qZ ?_
          change Awp _ _ _ _ _ _ _
          refine awp_dseq_G 5 [1, 2, 3] [k5q12] [0, 2, 7, 8] mixed (by kernel_rfl) (by rfl) fun K hK => ?_
          simp only [List.take_succ_cons, List.take_zero, List.drop_succ_cons, List.drop_zero]
          simp +decide only [fOps_nil, ev, qK, qH, putD, Slots.put, Slots.get, if_true, if_false, true_and, ↓fp_load, pop_load, qi ag29 sz29, ↓fp_fieldAddr, qo, fa29_1, qD ag3, ↓fp_binOp, qh, qz, cond_false, qm, pI_lss, fa38_2, XG, ne_eq, not_false_eq_true, ne_6q6_5q12.symm, Xa, qf, List.getD_cons_zero, List.getD_cons_succ, Nat.zero_add, qj, allLive, Bool.and_true]
          refine And.intro (by simp (decide := true) [lateOK, ev, Slots.get]) ?_
          refine kOps_step ?_
          refine qp (by rfl) (by rfl) (by repeat (first | exact AHeap.set_same _ _ _ | assumption | refine (AHeap.set_ne _ _ (by first | assumption | exact Ne.symm (by assumption))).trans ?_)) sz29 (by rfl) (by rfl) (by first | exact Nat.le_refl _ | decide | (simp; done) | (simp; omega)) (Nat.zero_le _) (by rfl) ?_
          simp only [AHeap.set_set, AVal.cells]
          rw [qa]
          refine And.intro (by intro k hk; simp only [List.mem_cons, List.not_mem_nil, or_false] at hk; first | rfl | (first | subst hk | (rcases hk with rfl | rfl | rfl | rfl | rfl)); all_goals simp [AHeap.set, ne_6q6_5q12.symm]) ?_
          simp +decide only [ev, putD, Slots.put, Slots.get, if_true, if_false, true_and, ↓kp_fieldAddr, qo, fa38_3, setAt, List.set_cons_zero, List.set_cons_succ, Nat.zero_add, Nat.reduceAdd]
          refine kOps_step ?_
          refine qp (by rfl) (by rfl) (by repeat (first | exact AHeap.set_same _ _ _ | assumption | refine (AHeap.set_ne _ _ (by first | assumption | exact Ne.symm (by assumption))).trans ?_)) sz4 (by rfl) (by rfl) (by first | exact Nat.le_refl _ | decide | (simp; done) | (simp; omega)) (Nat.zero_le _) (by rfl) ?_
          simp only [AHeap.set_set, AVal.cells]
          rw [qa]
          refine And.intro (by intro k hk; simp only [List.mem_cons, List.not_mem_nil, or_false] at hk; first | rfl | (first | subst hk | (rcases hk with rfl | rfl | rfl | rfl | rfl)); all_goals simp [AHeap.set, ne_6q6_5q12.symm]) ?_
          simp +decide only [kOps_nil, ev, putD, Slots.get, Slots.keep, if_true, if_false, setAt, List.set_cons_zero, List.set_cons_succ]
          apply hK; clear hK K
          refine awp_dseq_F 7 [0] [0, 2, 8] mixed (by kernel_rfl) (by rfl) fun K hK => ?_
          simp only [List.take_succ_cons, List.take_zero, List.drop_succ_cons, List.drop_zero]
          simp +decide only [ev, putD, Slots.put, Slots.get, if_true, if_false, true_and, ↓fp_move, qd, ↓fp_nilCheck, Qc, QI, ↓fp_fieldAddr, qo, fa89_2, ↓fp_load, pop_load, qD ag25, qi ag38 Xi, XG, ne_eq, not_false_eq_true, ne_5q12_x.symm, ne_6q6_x.symm, Xd w₀ eb_x, Xa, qf, List.getD_cons_zero, List.getD_cons_succ, Nat.zero_add, Nat.reduceAdd, qC, qj, qE, allLive, Bool.and_true, htl]
          refine fOps_lay (by rfl) ?_
          refine Qk (cs := Zc (tokAt c j t)) (by kernel_rfl) fun k12q6 hk12q6 => ?_
          have ne_12q6_5q12 : k12q6 ≠ k5q12 := by simp only [AHeap.set_none] at hk12q6; simp only [hk12q6, ne_eq, not_false_eq_true]
          have ne_12q6_6q6 : k12q6 ≠ k6q6 := by simp only [AHeap.set_none] at hk12q6; simp only [hk12q6, ne_eq, not_false_eq_true]
          have hn_12q6 : H1 k12q6 = none := by first | assumption | (simp only [AHeap.set_none] at hk12q6; simp only [hk12q6])
          have hf_12q6 : B k12q6 = none := Sub.none hs_H1 hn_12q6
          have ne_12q6_x : k12q6 ≠ kx := AHeap.ne_some hn_12q6 eb_x
          have ne_12q6_0q0 : k12q6 ≠ k0q0 := AHeap.ne_some hn_12q6 eb_0q0
          rw [qa]
          try simp only [fOps_nil]
          refine XF (es := 5) (zs := l1.map Zc) (xs := [Zc (tokAt c j t)]) (h₀ := B1.set kx ⟨[.bool c.left, .str c.text, mv, .int .i64 j, XM 5 tb1], 0⟩) (b := tb1) (by rfl) (by rfl) Tryz.underlying25 Tryz.underlying25 (fun k e => by cases e) Xi by38 ze38 (by rfl) (by decide) (by rfl) (i1.ok _) i1.eq tokC_wide (by rw [show Xv (B1.set kx ⟨[.bool c.left, .str c.text, mv, .int .i64 j, XM 5 tb1], 0⟩) tb1 = H1 from hH1.symm]; exact (by repeat (first | exact Sub.refl _ | assumption | refine Sub.set_both ?_ _ _ | refine Sub.trans_set ?_ (by repeat (first | assumption | refine (AHeap.set_ne _ _ (by first | assumption | exact Ne.symm (by assumption))).trans ?_))))) (by rfl) (IsL.own (AHeap.set_same _ _ _) (by simp [Zc]) (by rfl) (by rfl) (.exact 1) (Nat.le_refl _)) (by rfl) (by simp; omega) (by simp; omega) fun tb2 h12 o1 o2 o3 => ?_
          have hlv2 := bufV_live 5 tb2
          simp +decide only [ev, putD, Slots.put, Slots.get, if_true, if_false, true_and, ↓QC, Qc, QI, ↓qF, qo, fa89_2, Nat.zero_add]
          refine qp (v := XM 5 tb2) (by rfl) (by rfl) (o3 _ _ (bufAt o1 (AHeap.set_same _ _ _))) sz25 hlv2 (by cases tb2 <;> rfl) (by cases tb2 <;> simp [XM]) (Nat.zero_le _) (by cases tb2 <;> rfl) ?_
          rw [show (XM 5 tb2).cells = [XM 5 tb2] by cases tb2 <;> rfl]
          simp only [setAt, List.set_cons_zero, List.set_cons_succ]
          simp +decide only [qa, putD, Slots.keep, if_true, if_false]
          apply hK; clear hK K
          have j1 : ScInv kx B1 tb2 (l1 ++ [tokAt c j t]) := ⟨i1.hk, fun d => by have := bufOkSet o1 (AHeap.set_same _ _ _) d; rwa [AHeap.set_set] at this, by rw [o2, List.map_append]; rfl⟩
          have hfor : Sub (scH kx B1 tb2 c.left c.text mv j) (h12.set kx ⟨[.bool c.left, .str c.text, mv, .int .i64 j, XM 5 tb2], 0⟩) := by
            have := Sub.set_both o3 kx ⟨[.bool c.left, .str c.text, mv, .int .i64 j, XM 5 tb2], 0⟩
            rw [bufSet o1 (AHeap.set_same _ _ _), AHeap.set_set] at this
            exact this
          refine Awp.forget (h' := scH kx B1 tb2 c.left c.text mv j) hfor ?_
          have r13 := fun o => Xd w₀ (j1.at (lf := c.left) (s := c.text) (mv := mv) (i := j)) o
          refine Xl [0, 2] (by rfl) ?_
          simp +decide only [ev, putD, Slots.put, Slots.get, if_true, if_false, true_and, ↓qg, qd, ↓QC, Qc, QI, ↓qF, qo, fa89_1, ↓qJ, Qb, qD ag3, ↓qw, qh, qP, cond_false, qm, Xk, List.getD_cons_zero, List.getD_cons_succ, Nat.zero_add, qj, QE, r13]
          try simp (disch := omega) only [wrap_i64]
          refine qp (v := .int .i64 ((j : Int) + t.n)) (by rfl) (by rfl) j1.at sz3 (by rfl) (by rfl) (by simp) (Nat.zero_le _) (by rfl) ?_
          simp only [setAt, AVal.cells, List.set_cons_zero, List.set_cons_succ]
          rw [j1.set, show (j : Int) + (t.n : Int) = ((j + t.n : Nat) : Int) by omega]
          simp +decide only [qa, putD, Slots.keep, if_true, if_false]
          try simp only [qR, inBlockA_normal]
          exact ⟨⟨j + t.n, l1 ++ [tokAt c j t], tb2⟩, rfl, Sub.refl _, ⟨j1, hn1, hstep.symm, by simp only [List.length_append, List.length_cons, List.length_nil]; omega⟩, by simp only; omega⟩
    · try simp only [decide_eq_false_iff_not] at hb2
      refine Ze ?_
      change Awp _ _ _ _ _ _ _
      have hjge : ¬ j < c.text.length := by simpa using hb2
      obtain ⟨H1, hH1⟩ : ∃ H1, H1 = scH kx B1 tb1 c.left c.text mv j := ⟨_, rfl⟩
      have eb_0q0 : H1 k0q0 = some ⟨[.int .i64 0, .int .i64 0, .int .i64 0], 0⟩ := by rw [hH1]; exact i1.other hB1k
      have hs_H1 : Sub B H1 := by rw [hH1]; exact hB1s.trans i1.above
      rw [if_pos (by omega)] at hstep
      show Awp _ _ _ _ _ _ (scH kx B1 tb1 c.left c.text mv j)
      rw [← hH1]
      refine awp_rseq [2] (by rfl) fun K hK => ?_
      simp +decide only [ev, qK, qH, putD, Slots.put, Slots.get, if_false, true_and, ↓Qo, ↓Qa, bld31_, evP, List.map_nil]
      refine qp (by rfl) (by rfl) (by repeat (first | exact AHeap.set_same _ _ _ | assumption | refine (AHeap.set_ne _ _ (by first | assumption | exact Ne.symm (by assumption))).trans ?_)) QR (by rfl) (by rfl) (by first | exact Nat.le_refl _ | decide | (simp; done) | (simp; omega)) (Nat.zero_le _) (by rfl) ?_
      simp only [AVal.cells]
      simp +decide only [qa, ev, putD, Slots.get, Slots.keep, if_true, if_false, setAt, List.set_cons_zero, List.set_cons_succ, Nat.zero_add, Nat.reduceAdd]
      apply hK; clear hK K
      refine qU ?_
      refine retA_retE (?_) ?_
      · simp +decide only [QF, ql, Slots.get, if_true, and_true, ql, qi XL QR, Qi, qf, List.getD_cons_zero, List.getD_cons_succ, Nat.zero_add, Nat.reduceAdd, qj, allLive, Bool.and_true, qf, List.getD_cons_zero, List.getD_cons_succ, Nat.zero_add, Nat.reduceAdd, qj, allLive, Bool.and_true]
      
      simp +decide only [Slots.get, if_true, resOfG_one, ql, qi XL QR, Qi, qf, List.getD_cons_zero, List.getD_cons_succ, Nat.zero_add, Nat.reduceAdd, qj, allLive, Bool.and_true, qf, List.getD_cons_zero, List.getD_cons_succ, Nat.zero_add, Nat.reduceAdd, qj, allLive, Bool.and_true, QE]
      have hSB : Sub (scH kx B tb1 c.left c.text mv j) H1 := by rw [hH1]; exact scH_sub hB1s
      have hz0 : (scH kx B tb1 c.left c.text mv j) k0q0 = none := i1.none hB1k a4
      rw [hstep]
      exact ⟨scH kx B tb1 c.left c.text mv j, (by repeat (first | exact Sub.refl _ | assumption | refine Sub.set_both ?_ _ _ | refine Sub.trans_set ?_ (by repeat (first | assumption | refine (AHeap.set_ne _ _ (by first | assumption | exact Ne.symm (by assumption))).trans ?_)))), rfl, i4, tb1, j, rfl, i1.down hB1s⟩
end Go.Proofs.YtmadddihphkmoaaGreatDoor

/-
  Contracts: the reader of the package columns: take, walked.
  Conditions: none.
-/
namespace Go.Proofs.YtmadddihphkmoaaGreatDoor
open Go.AM
open Go.Proofs
open Go.Col
set_option maxRecDepth 100000

theorem XO {x : Rd} {l : List CardC} {c : CardC} (hx : x.cards = l ++ [c]) (line col : Int) (t : Str) : addE x line col t = ⟨l ++ [addC c line col t], line, col, Qy (c.text ++ t)⟩ := by
  unfold addE
  rw [hx]
  simp
theorem bufV_some (es : Nat) (b : Buf) : XM es (some b) = .slice (.own b.blk) 0 (b.cells.length / es) (.grow es) := rfl
/-- A part behind the last card, in the reader's heap. -/
theorem c_addR (w₀ : World) (h : AHeap) (kx : Nat) (B M : AHeap) (cb mb : Option Buf) (x : Rd) (hi : RdInv w₀ h kx B M cb mb x) (hx : x.cards ≠ []) (line col : Int) (t : Str) (hb : ∀ c ∈ x.cards, c.text.length ≤ 549755813888 ∧ c.marks.length ≤ 549755813888) (hn : x.cards.length ≤ 549755813888) (ht : t.length ≤ 80) :
    ACall Tryz.prog w₀ 53 [.ptr (.own kx) 0, .int .i64 line, .int .i64 col, .str t] (rdH kx B cb mb x)
      (fun v h' => v = .tuple [] ∧ ∃ cb' mb', h' = rdH kx B cb' mb' (addE x line col t) ∧ RdInv w₀ h kx B M cb' mb' (addE x line col t)) := by
  rcases hi.cards with ⟨c1, _⟩ | ⟨done, c, kc, c1, c2, c3, c4⟩
  · exact absurd c1 hx
  have hD : ((done.map Zb).flatten).length = done.length * 3 := by
    rw [flatten_len (es := 3) (by intro y hy; obtain ⟨p, _, rfl⟩ := List.mem_map.1 hy; rfl), List.length_map]
  have hlen : x.cards.length = done.length + 1 := by rw [c1]; simp
  have hcm : c ∈ x.cards := by rw [c1]; simp
  obtain ⟨b1, b2⟩ := hb c hcm
  have hokc := hi.okc
  have hokm := hi.okm
  have hL : ((done.map Zb).flatten ++ [.bool c.left, .str c.text, XM 3 mb]).length / 3 = done.length + 1 := by
    rw [List.length_append, hD]
    simp only [List.length_cons, List.length_nil]
    omega
  have hv : XM 3 cb = .slice (.own kc) 0 (done.length + 1) (.grow 3) := by
    rw [c2, bufV_some, hL]
  subst c2
  have hkc : kc ≠ kx := fun e => by
    have := hokc.1
    simp only [e, AHeap.set_same] at this
    cases this
  have hBc : B kc = none := by
    have := hokc.1
    rwa [AHeap.set_ne _ _ hkc] at this
  have call := c_add w₀ (Xv (B.set kx ⟨QY (some ⟨kc, (done.map Zb).flatten ++ [.bool c.left, .str c.text, XM 3 mb]⟩) x, 0⟩) (some ⟨kc, (done.map Zb).flatten ++ [.bool c.left, .str c.text, XM 3 mb]⟩)) kx kc (done.map Zb).flatten done.length mb c x.line x.col x.odd line col t
    (by rw [show Xv (B.set kx ⟨QY (some ⟨kc, (done.map Zb).flatten ++ [.bool c.left, .str c.text, XM 3 mb]⟩) x, 0⟩) (some ⟨kc, (done.map Zb).flatten ++ [.bool c.left, .str c.text, XM 3 mb]⟩) = (B.set kx ⟨QY (some ⟨kc, (done.map Zb).flatten ++ [.bool c.left, .str c.text, XM 3 mb]⟩) x, 0⟩).set kc ⟨(done.map Zb).flatten ++ [.bool c.left, .str c.text, XM 3 mb], 0⟩ from rfl, AHeap.set_ne _ _ hkc.symm, AHeap.set_same]; unfold QY; rw [hv])
    (AHeap.set_same _ _ _) hD hokm c3 (by omega) (by omega) (by omega)
  refine call.mono fun v h' hr => ?_
  obtain ⟨e1, mb', e2, o1, o2⟩ := hr
  have hadd := XO c1 line col t
  have hL' : ((done.map Zb).flatten ++ [.bool c.left, .str (addC c line col t).text, XM 3 mb']).length / 3 = done.length + 1 := by
    rw [List.length_append, hD]
    simp only [List.length_cons, List.length_nil]
    omega
  have hcells : QY (some ⟨kc, (done.map Zb).flatten ++ [.bool c.left, .str (addC c line col t).text, XM 3 mb']⟩) (addE x line col t) = [.slice (.own kc) 0 (done.length + 1) (.grow 3), .int .i64 line, .int .i64 col, .bool (Qy (c.text ++ t))] := by
    unfold QY
    rw [hadd, bufV_some, hL']
  have hH : (((Xv (B.set kx ⟨QY (some ⟨kc, (done.map Zb).flatten ++ [.bool c.left, .str c.text, XM 3 mb]⟩) x, 0⟩) (some ⟨kc, (done.map Zb).flatten ++ [.bool c.left, .str c.text, XM 3 mb]⟩)).set kx ⟨[.slice (.own kc) 0 (done.length + 1) (.grow 3), .int .i64 line, .int .i64 col, .bool (Qy (c.text ++ t))], 0⟩).set kc ⟨(done.map Zb).flatten ++ [.bool c.left, .str (addC c line col t).text, XM 3 mb'], 0⟩)
      = Xv (B.set kx ⟨QY (some ⟨kc, (done.map Zb).flatten ++ [.bool c.left, .str (addC c line col t).text, XM 3 mb']⟩) (addE x line col t), 0⟩) (some ⟨kc, (done.map Zb).flatten ++ [.bool c.left, .str (addC c line col t).text, XM 3 mb']⟩) := by
    rw [hcells]
    simp only [Xv]
    rw [AHeap.set_comm _ _ _ hkc.symm, AHeap.set_set, AHeap.set_set]
  rw [hH] at e2 o1
  refine ⟨e1, _, mb', e2, ⟨hi.sub, hi.subM, hi.hk, ?_, o1, .inr ⟨done, addC c line col t, kc, by rw [hadd], ?_, o2, c4⟩⟩⟩
  · refine ⟨(AHeap.set_ne _ _ hkc).trans hBc, ?_, ?_⟩
    · rw [List.length_append, hD]
      simp only [List.length_cons, List.length_nil]
      omega
    · have hlv := hokc.2.2
      rw [allLive_append, Bool.and_eq_true] at hlv ⊢
      refine ⟨hlv.1, ?_⟩
      show (true && (true && ((XM 3 mb').live && true))) = true
      rw [bufV_live]
      rfl
  · have hleft : (addC c line col t).left = c.left := rfl
    rw [hleft]

theorem bufPut {H : AHeap} {es : Nat} {b : Option Buf} {j : Nat} {c d : Blk} (hb : bufOk (H.set j c) es b) : Xv (H.set j d) b = (Xv H b).set j d ∧ bufOk H es b ∧ Xv H b j = H j := by
  cases b with
  | none => exact ⟨rfl, trivial, rfl⟩
  | some b =>
    have hne : b.blk ≠ j := fun e => by
      have := hb.1
      rw [e, AHeap.set_same] at this
      cases this
    have h1 : H b.blk = none := by have := hb.1; rwa [AHeap.set_ne _ _ hne] at this
    exact ⟨AHeap.set_comm _ _ _ hne, ⟨h1, hb.2⟩, AHeap.set_ne _ _ hne.symm⟩
theorem RdInv.chunks {w₀ : World} {h : AHeap} {kx : Nat} {B M : AHeap} {cb mb : Option Buf} {x : Rd} (hi : RdInv w₀ h kx B M cb mb x) : ∃ zs : List (List AVal), bufC cb = zs.flatten ∧ (∀ z ∈ zs, z.length = 3) ∧ zs.length = x.cards.length := by
  rcases hi.cards with ⟨c1, c2, _⟩ | ⟨done, c, kc, c1, c2, c3, c4⟩
  · exact ⟨[], by rw [c2]; rfl, by simp, by rw [c1]; rfl⟩
  · refine ⟨done.map Zb ++ [[.bool c.left, .str c.text, XM 3 mb]], by rw [c2]; simp [bufC], ?_, by rw [c1]; simp⟩
    intro z hz
    rw [List.mem_append] at hz
    rcases hz with hz | hz
    · obtain ⟨p, _, rfl⟩ := List.mem_map.1 hz; rfl
    · rw [List.mem_singleton.1 hz]; rfl
/-- A new card stands behind the others: the last card's marks are at rest. -/
theorem RdInv.push {w₀ : World} {h : AHeap} {kx : Nat} {B M : AHeap} {cb mb : Option Buf} {x : Rd} (hi : RdInv w₀ h kx B M cb mb x) (left : Bool) {cb' : Option Buf} {h5 : AHeap}
    (o1 : bufOk (Xv (B.set kx ⟨QY cb x, 0⟩) mb) 3 cb') (o2 : bufC cb' = bufC cb ++ [.bool left, .str [], .nilSlice]) (o3 : Sub (Xv (Xv (B.set kx ⟨QY cb x, 0⟩) mb) cb') h5) :
    RdInv w₀ h kx (Xv B mb) (Xv M mb) cb' none ⟨x.cards ++ [⟨left, [], []⟩], x.line, x.col, x.odd⟩ ∧ Sub (rdH kx (Xv B mb) cb' none ⟨x.cards ++ [⟨left, [], []⟩], x.line, x.col, x.odd⟩) (h5.set kx ⟨QY cb' ⟨x.cards ++ [⟨left, [], []⟩], x.line, x.col, x.odd⟩, 0⟩) ∧ (∀ j c, B j = some c → Xv B mb j = some c) ∧ ∀ j c, B j = some c → M j = none → Xv M mb j = none := by
  obtain ⟨q1, q2, q3⟩ := bufSwap hi.okc hi.okm
  obtain ⟨p1, p2, p3⟩ := bufPut (d := ⟨QY cb x, 0⟩) q2
  have hsub : Sub B (Xv B mb) := Sub.buf p2
  rw [p1] at o1 o3
  obtain ⟨r1, r2, r3⟩ := bufPut (d := ⟨QY cb' ⟨x.cards ++ [⟨left, [], []⟩], x.line, x.col, x.odd⟩, 0⟩) o1
  obtain ⟨s1, _, _⟩ := bufPut (d := ⟨QY cb x, 0⟩) o1
  have pM : bufOk M 3 mb := p2.sub hi.subM
  have hsubM : Sub M (Xv M mb) := Sub.buf pM
  have hMB : Sub (Xv M mb) (Xv B mb) := by
    cases mb with
    | none => exact hi.subM
    | some b => exact Sub.set_both hi.subM _ _
  refine ⟨⟨hi.sub.trans hsub, hMB, p3.trans hi.hk, ?_, trivial, .inr ?_⟩, ?_, fun j c hj => hsub _ _ hj, fun j c hj hM => ?_⟩
  · have := bufOkSet o1 (AHeap.set_same _ _ _) ⟨QY cb' ⟨x.cards ++ [⟨left, [], []⟩], x.line, x.col, x.odd⟩, 0⟩
    rwa [AHeap.set_set] at this
  · have hsome : ∃ kc, cb' = some ⟨kc, bufC cb ++ [.bool left, .str [], .nilSlice]⟩ := by
      cases cb' with
      | none => simp [bufC] at o2
      | some b => exact ⟨b.blk, by rw [← o2]; rfl⟩
    obtain ⟨kc', hcb'⟩ := hsome
    rcases hi.cards with ⟨c1, c2, c3⟩ | ⟨done, c, kc, c1, c2, c3, c4⟩
    · refine ⟨[], ⟨left, [], []⟩, kc', by rw [c1]; rfl, by rw [hcb', c2]; rfl, rfl, by simp⟩
    · refine ⟨done ++ [(c, XM 3 mb)], ⟨left, [], []⟩, kc', by rw [c1]; simp, ?_, rfl, ?_⟩
      · rw [hcb', c2]
        simp [bufC, Zb, XM]
      · intro p hp
        rw [List.mem_append] at hp
        rcases hp with hp | hp
        · exact (c4 p hp).mono hsubM
        · rw [List.mem_singleton.1 hp]
          exact IsL.buf pM (by decide) c3 (by intro y hy; obtain ⟨m, _, rfl⟩ := List.mem_map.1 hy; rfl) (Sub.refl _)
  · show Sub (Xv ((Xv B mb).set kx ⟨QY cb' ⟨x.cards ++ [⟨left, [], []⟩], x.line, x.col, x.odd⟩, 0⟩) cb') _
    rw [r1]
    rw [s1] at o3
    have := Sub.set_both o3 kx ⟨QY cb' ⟨x.cards ++ [⟨left, [], []⟩], x.line, x.col, x.odd⟩, 0⟩
    rwa [AHeap.set_set] at this
  · cases mb with
    | none => exact hM
    | some b =>
      have : j ≠ b.blk := fun e => by
        have := p2.1
        rw [← e, hj] at this
        cases this
      exact (AHeap.set_ne _ _ this).trans hM
end Go.Proofs.YtmadddihphkmoaaGreatDoor

/-
  Contracts: the reader of the package columns: take, walked.
  Conditions: none.
-/
namespace Go.Proofs.YtmadddihphkmoaaGreatDoor
open Go.AM
open Go.Proofs
open Go.Col
set_option maxRecDepth 100000

theorem take1 {x : Rd} {r : RowC} (h1 : r.more = false) (h2 : x.odd = true) : takeE x r = (x, ⟨4, x.line, x.col⟩) := by unfold takeE; rw [h1, h2]; rfl
theorem take2 {x : Rd} {r : RowC} (h1 : r.more = false) (h2 : x.odd = false) : takeE x r = (addE ⟨x.cards ++ [⟨decide (r.col < 12), [], []⟩], x.line, x.col, x.odd⟩ r.line r.col r.text, okF) := by unfold takeE; rw [h1, h2]; rfl
theorem take3 {x : Rd} {r : RowC} (h1 : r.more = true) (h2 : x.cards = []) : takeE x r = (x, ⟨6, r.line, 7⟩) := by unfold takeE; rw [h1, if_neg (by simp), if_neg (by simp), if_pos h2]
theorem take4 {x : Rd} {r : RowC} (h1 : r.more = true) (h2 : x.cards ≠ []) (h3 : r.col < 12 ∨ (x.odd = true ∧ r.text.getD 0 0 ≠ 34)) : takeE x r = (x, ⟨4, r.line, r.col⟩) := by unfold takeE; rw [h1, if_neg (by simp), if_neg (by simp), if_neg h2, if_pos h3]
theorem take5 {x : Rd} {r : RowC} (h1 : r.more = true) (h2 : x.cards ≠ []) (h3 : ¬ (r.col < 12 ∨ (x.odd = true ∧ r.text.getD 0 0 ≠ 34))) (h4 : x.odd = true) : takeE x r = (addE x r.line (r.col + 1) (r.text.drop 1), okF) := by unfold takeE; rw [h1, if_neg (by simp), if_neg (by simp), if_neg h2, if_neg h3, if_pos h4]
theorem take6 {x : Rd} {r : RowC} (h1 : r.more = true) (h2 : x.cards ≠ []) (h3 : ¬ (r.col < 12 ∨ (x.odd = true ∧ r.text.getD 0 0 ≠ 34))) (h4 : x.odd = false) : takeE x r = (addE x r.line r.col r.text, okF) := by unfold takeE; rw [h1, if_neg (by simp), if_neg (by simp), if_neg h2, if_neg h3, if_neg (by rw [h4]; decide)]
theorem c_take (w₀ : World) (h : AHeap) (kx : Nat) (B M : AHeap) (cb mb : Option Buf) (x : Rd) (hi : RdInv w₀ h kx B M cb mb x) (r : RowC) (hb : ∀ c ∈ x.cards, c.text.length ≤ 549755813887 ∧ c.marks.length ≤ 549755813887) (hn : x.cards.length ≤ 549755813887) (ht : r.text.length ≤ 80) (ht0 : r.text ≠ []) (hc0 : 0 ≤ r.col) (hc1 : r.col ≤ 80) :
    ACall Tryz.prog w₀ 26 [.ptr (.own kx) 0, rowA r] (rdH kx B cb mb x)
      (fun v h' => v = QE (takeE x r).2 ∧ ∃ B' M' cb' mb', h' = rdH kx B' cb' mb' (takeE x r).1 ∧ RdInv w₀ h kx B' M' cb' mb' (takeE x r).1 ∧ Sub B B' ∧ ∀ j, B j ≠ none → M j = none → M' j = none) := by
  have hlvc := bufV_live 3 cb
  have hmany := hi.many
  have hlen := buf_len Tryz.prog Tryz.underlying40 3 cb
  rw [hmany] at hlen
  have htp : 0 < r.text.length := List.length_pos_iff.2 ht0
  refine qY (n := 100) (rs := [.cell 4 31]) Tryz.func26 rfl rfl rfl rfl (Nat.le_of_ble_eq_true rfl) ?_
  simp only [Qf]
  refine awp_rseq [0, 3, 4] (by rfl) fun K hK => ?_
  refine aOps_box (by rfl) (by rfl) (by rfl) fun k0q0 hk0q0 => ?_
  try have hf_0q0 : (rdH kx B cb mb x) k0q0 = none := by first | assumption | (simp only [AHeap.set_none] at hk0q0; simp only [hk0q0])
  skip
  refine Qh ze31 (cs := [.int .i64 0, .int .i64 0, .int .i64 0]) (by rfl) fun k0q1 hk0q1 => ?_
  have ne_0q1_0q0 : k0q1 ≠ k0q0 := by simp only [AHeap.set_none] at hk0q1; simp only [hk0q1, ne_eq, not_false_eq_true]
  try have hf_0q1 : (rdH kx B cb mb x) k0q1 = none := by first | assumption | (simp only [AHeap.set_none] at hk0q1; simp only [hk0q1])
  simp +decide only [qa, ev, putD, Slots.put, Slots.get, Slots.keep, if_true, if_false, AVal.cells, Nat.zero_add, rowA]
  obtain ⟨a1, a2, a3, a4⟩ := rdH_new hi hk0q0 ⟨[.int .i64 r.line, .bool r.more, .str r.text, .int .i64 r.col], 0⟩
  have hk1' : rdH kx (B.set k0q0 ⟨[.int .i64 r.line, .bool r.more, .str r.text, .int .i64 r.col], 0⟩) cb mb x k0q1 = none := by rw [← a1]; exact hk0q1
  obtain ⟨b1, b2, b3, b4⟩ := rdH_new a2 hk1' ⟨[.int .i64 0, .int .i64 0, .int .i64 0], 0⟩
  have hheap : ((rdH kx B cb mb x).set k0q0 ⟨[.int .i64 r.line, .bool r.more, .str r.text, .int .i64 r.col], 0⟩).set k0q1 ⟨[.int .i64 0, .int .i64 0, .int .i64 0], 0⟩ = rdH kx ((B.set k0q0 ⟨[.int .i64 r.line, .bool r.more, .str r.text, .int .i64 r.col], 0⟩).set k0q1 ⟨[.int .i64 0, .int .i64 0, .int .i64 0], 0⟩) cb mb x := by rw [a1, b1]
  have hat : (((rdH kx B cb mb x).set k0q0 ⟨[.int .i64 r.line, .bool r.more, .str r.text, .int .i64 r.col], 0⟩).set k0q1 ⟨[.int .i64 0, .int .i64 0, .int .i64 0], 0⟩) kx = some ⟨QY cb x, 0⟩ := by rw [hheap]; exact b2.at
  have hrx := fun o => Xd w₀ hat o
  apply hK; clear hK K
  refine qN ?_
  refine Qt ?_
  refine awp_rseq [0, 3, 4, 13] (by rfl) fun K hK => ?_
  simp +decide only [qa, ev, qK, qH, putD, Slots.put, Slots.get, Slots.keep, if_true, if_false, true_and, ↓qF, qo, fa76_1, ↓qJ, Qb, qD ag4, ↓ap_unOp, pop_unOp, pU_not, ↓qg, qd, ↓Xf, agP, Qm, qI, qG, qy, implies_true, ↓ag_nilCheck, Qc, QI, cv_nil, cp_nil, ↓XE, fa72_2, cv_fieldAddr, cp_fieldAddr, ↓Zm, XY, agL_mk, agL_ld1, ↓QN, Qw, Qg, QZ, Xj, ↓qc, qb, XG, ne_eq, not_false_eq_true, ne_0q1_0q0.symm, Xa, List.getD_cons_zero, List.getD_cons_succ, Nat.zero_add, qC, hrx, QY]
  apply hK; clear hK K
  refine qM (b := _) rfl (fun hb1 => ?_) (fun hb1 => ?_)
  · try simp only [Bool.not_eq_true', Bool.and_eq_true] at hb1
    refine awp_rseq [4] (by rfl) fun K hK => ?_
    simp +decide only [ev, qK, qH, putD, Slots.put, Slots.get, if_true, if_false, true_and, ↓qg, qd, ↓QC, Qc, QI, ↓qF, qo, fa72_1, ↓qJ, Qb, qi ag29 sz29, ↓Qo, ↓Qa, bld31_0_1, evP, List.map_cons, List.map_nil, qf, List.getD_cons_zero, List.getD_cons_succ, Nat.zero_add, Nat.reduceAdd, qj, allLive, Bool.and_true, hrx, QY]
    refine qp (by rfl) (by rfl) (by repeat (first | exact AHeap.set_same _ _ _ | assumption | refine (AHeap.set_ne _ _ (by first | assumption | exact Ne.symm (by assumption))).trans ?_)) QR (by rfl) (by rfl) (by first | exact Nat.le_refl _ | decide | (simp; done) | (simp; omega)) (Nat.zero_le _) (by rfl) ?_
    simp only [AHeap.set_set, AVal.cells]
    simp +decide only [qa, ev, putD, Slots.get, Slots.keep, if_true, if_false, setAt, List.set_cons_zero, List.set_cons_succ, Nat.zero_add, Nat.reduceAdd]
    apply hK; clear hK K
    refine qU ?_
    try simp only [Ql, QA]
    refine qO (rdH kx B cb mb x) (by repeat (first | exact Sub.refl _ | assumption | refine Sub.trans_set ?_ (by assumption))) (?_) ?_
    · simp +decide only [QF, ql, Slots.get, if_true, and_true, ql, qi XL QR, Qi, qf, List.getD_cons_zero, List.getD_cons_succ, Nat.zero_add, Nat.reduceAdd, qj, allLive, Bool.and_true, qf, List.getD_cons_zero, List.getD_cons_succ, Nat.zero_add, Nat.reduceAdd, qj, allLive, Bool.and_true]
    
    simp +decide only [Slots.get, if_true, resOfG_one, ql, qi XL QR, Qi, qf, List.getD_cons_zero, List.getD_cons_succ, Nat.zero_add, Nat.reduceAdd, qj, allLive, Bool.and_true, ne_eq, qf, List.getD_cons_zero, List.getD_cons_succ, Nat.zero_add, Nat.reduceAdd, qj, allLive, Bool.and_true, QE]
    rw [take1 hb1.1 hb1.2]
    exact ⟨rfl, B, M, cb, mb, rfl, hi, Sub.refl _, fun _ _ h => h⟩
  · try simp only [Bool.not_eq_false', Bool.and_eq_false_iff] at hb1
    refine awp_rseq [0, 3, 4, 28] (by rfl) fun K hK => ?_
    simp +decide only [qa, ev, putD, Slots.put, Slots.get, Slots.keep, if_true, if_false, true_and, ↓qF, qo, fa76_1, ↓qJ, Qb, qD ag4, ↓ap_unOp, pop_unOp, pU_not, ↓qc, qb, XG, ne_eq, not_false_eq_true, ne_0q1_0q0.symm, Xa, List.getD_cons_zero, List.getD_cons_succ, Nat.zero_add, qC]
    apply hK; clear hK K
    refine qM (b := _) rfl (fun hb2 => ?_) (fun hb2 => ?_)
    · try simp only [Bool.not_eq_true'] at hb2
      rw [hheap]
      obtain ⟨B₁, hB₁⟩ : ∃ B₁, B₁ = (B.set k0q0 ⟨[.int .i64 r.line, .bool r.more, .str r.text, .int .i64 r.col], 0⟩).set k0q1 ⟨[.int .i64 0, .int .i64 0, .int .i64 0], 0⟩ := ⟨_, rfl⟩
      rw [← hB₁] at b2 ⊢
      have e0 : B₁ k0q0 = some ⟨[.int .i64 r.line, .bool r.more, .str r.text, .int .i64 r.col], 0⟩ := by rw [hB₁, AHeap.set_ne _ _ ne_0q1_0q0.symm, AHeap.set_same]
      have e1 : B₁ k0q1 = some ⟨[.int .i64 0, .int .i64 0, .int .i64 0], 0⟩ := by rw [hB₁, AHeap.set_same]
      have s0 := fun o => Xd w₀ (b2.other e0) o
      have sx := fun o => Xd w₀ b2.at o
      obtain ⟨q1, q2, q3⟩ := bufSwap b2.okc b2.okm
      obtain ⟨zs, z1, z2, z3⟩ := b2.chunks
      refine awp_dseq_F 10 [0] [0, 3, 4] mixed (by kernel_rfl) (by rfl) fun K hK => ?_
      simp only [List.take_succ_cons, List.take_zero, List.drop_succ_cons, List.drop_zero]
      simp +decide only [ev, qK, qH, putD, Slots.put, Slots.get, if_true, if_false, true_and, ↓fp_move, qd, ↓fp_nilCheck, Qc, QI, ↓fp_fieldAddr, qo, fa72_0, ↓fp_load, pop_load, qD ag40, fa76_3, qD ag3, ↓fp_binOp, qh, qz, cond_false, qm, pI_lss, ↓fp_build, ↓Qa, bld48_0, evP, List.map_cons, List.map_nil, List.getD_cons_zero, List.getD_cons_succ, Nat.zero_add, qj, QY, hlvc, s0, sx]
      refine fOps_lay (by rfl) ?_
      refine Qk (cs := [.bool (decide (r.col < 12)), .str [], .nilSlice]) (by kernel_rfl) fun k5q9 hk5q9 => ?_
      try have hf_5q9 : (rdH kx B cb mb x) k5q9 = none := by first | assumption | (simp only [AHeap.set_none] at hk5q9; simp only [hk5q9])
      rw [qa]
      try simp only [fOps_nil]
      refine XF (es := 3) (zs := zs) (xs := [[.bool (decide (r.col < 12)), .str [], .nilSlice]]) (h₀ := Xv (B₁.set kx ⟨QY cb x, 0⟩) mb) (b := cb) (by rfl) (by rfl) Tryz.underlying40 Tryz.underlying40 (fun k e => by cases e) sz48 by48 ze48 (by rfl) (by decide) (by rfl) q3 z1 z2 (by rw [← q1]; exact Sub.set hk5q9) (by rfl) (IsL.own (AHeap.set_same _ _ _) (by simp) (by rfl) (by rfl) (.exact 1) (Nat.le_refl _)) (by rfl) (by simp; omega) (by simp; omega) fun cb' h5 o1 o2 o3 => ?_
      have hlv' := bufV_live 3 cb'
      simp +decide only [ev, putD, Slots.put, Slots.get, if_true, if_false, true_and, ↓QC, Qc, QI, ↓qF, qo, fa72_0, Nat.zero_add]
      refine qp (v := XM 3 cb') (by rfl) (by rfl) (o3 _ _ (bufAt o1 (bufAt q2 (AHeap.set_same _ _ _)))) sz40 hlv' (by cases cb' <;> rfl) (by cases cb' <;> simp [QY, XM]) (Nat.zero_le _) (by cases cb' <;> rfl) ?_
      rw [show (XM 3 cb').cells = [XM 3 cb'] by cases cb' <;> rfl]
      simp only [setAt, QY, List.set_cons_zero]
      simp +decide only [qa, putD, Slots.keep, if_true, if_false]
      apply hK; clear hK K
      obtain ⟨i1, u1, u2, u3⟩ := b2.push (decide (r.col < 12)) o1 (by rw [o2, List.flatten_append, ← z1]; rfl) o3
      refine Awp.forget (h' := rdH kx (Xv B₁ mb) cb' none ⟨x.cards ++ [⟨decide (r.col < 12), [], []⟩], x.line, x.col, x.odd⟩) u1 ?_
      have t0 := fun o => Xd w₀ (i1.other (u2 _ _ e0)) o
      have hb' : ∀ c ∈ x.cards ++ [⟨decide (r.col < 12), [], []⟩], c.text.length ≤ 549755813888 ∧ c.marks.length ≤ 549755813888 := by
        intro c hc
        rw [List.mem_append] at hc
        rcases hc with hc | hc
        · have := hb c hc
          omega
        · rw [List.mem_singleton.1 hc]
          exact ⟨by simp, by simp⟩
      refine Xl [4] (by rfl) ?_
      simp +decide only [ev, putD, Slots.put, Slots.get, if_true, if_false, true_and, ↓qg, qd, ↓qF, qo, fa76_0, ↓qJ, Qb, qD ag3, fa76_3, fa76_2, qD ag9, ne_eq, List.getD_cons_zero, List.getD_cons_succ, Nat.zero_add, qj, qE, QE, t0]
      refine Xp (by rfl) (by rfl) (c_addR w₀ h kx _ _ cb' none _ i1 (by simp) r.line r.col r.text hb' (by simp; omega) ht) fun x6q7 h6q7 hx6q7 => ?_
      obtain ⟨-, cb2, mb2, rfl, i2⟩ := hx6q7
      have hz := i2.other (u2 _ _ e1)
      have hsB : Sub B (Xv B₁ mb) := fun j c hj => u2 _ _ (by rw [hB₁]; exact Sub.trans_set (Sub.trans_set (Sub.refl _) a4) (by rwa [AHeap.set_ne _ _ ne_0q1_0q0] at b4) j c hj)
      have hsM : ∀ j, B j ≠ none → M j = none → Xv M mb j = none := fun j hj hM => by
        cases hjc : B j with
        | none => exact absurd hjc hj
        | some c => exact u3 j c (by rw [hB₁]; exact Sub.trans_set (Sub.trans_set (Sub.refl _) a4) (by rwa [AHeap.set_ne _ _ ne_0q1_0q0] at b4) j c hjc) hM
      have hfin := take2 (x := x) (r := r) (by simpa using hb2) (by simpa [hb2] using hb1)
      simp +decide only [qa, putD, Slots.put, Slots.keep, if_true, if_false]
      change Awp _ _ _ _ _ _ _
      refine awp_rseq [4] (by rfl) fun K hK => ?_
      simp +decide only [ev, qK, qH, putD, Slots.put, Slots.get, if_false, true_and, ↓Qo, ↓Qa, bld31_, evP, List.map_nil]
      refine qp (v := .agg [.int .i64 0, .int .i64 0, .int .i64 0]) (by rfl) (by rfl) hz QR (by rfl) (by rfl) (by simp []) (Nat.zero_le _) (by rfl) ?_
      simp only [setAt, AVal.cells, List.set_cons_zero, List.set_cons_succ, Nat.zero_add, Nat.reduceAdd]
      rw [Zj hz]
      simp +decide only [qa, putD, Slots.keep, if_true, if_false]
      apply hK; clear hK K
      refine qU ?_
      refine retA_retE (?_) ?_
      · simp +decide only [QF, ql, Slots.get, if_true, and_true, ql, qi XL QR, qf, List.getD_cons_zero, List.getD_cons_succ, Nat.zero_add, Nat.reduceAdd, qj, allLive, Bool.and_true, qf, List.getD_cons_zero, List.getD_cons_succ, Nat.zero_add, Nat.reduceAdd, qj, allLive, Bool.and_true, Xd w₀ hz]
      
      simp +decide only [Slots.get, if_true, resOfG_one, ql, qi XL QR, qf, List.getD_cons_zero, List.getD_cons_succ, Nat.zero_add, Nat.reduceAdd, qj, allLive, Bool.and_true, qf, List.getD_cons_zero, List.getD_cons_succ, Nat.zero_add, Nat.reduceAdd, qj, allLive, Bool.and_true, Xd w₀ hz]
      refine ⟨_, Sub.refl _, ?_⟩
      rw [hfin]
      exact ⟨rfl, _, _, _, _, rfl, i2, hsB, hsM⟩
    · try simp only [Bool.not_eq_false'] at hb2
      refine awp_rseq [0, 3, 4, 53] (by rfl) fun K hK => ?_
      simp +decide only [qa, ev, qK, qH, putD, Slots.put, Slots.get, Slots.keep, if_true, if_false, true_and, ↓qg, qd, ↓QC, Qc, QI, ↓qF, qo, fa72_0, ↓qJ, Qb, qD ag40, ↓Xw, QH, ↓qw, qh, qz, cond_false, qm, Xo, ↓qc, qb, List.getD_cons_zero, Nat.zero_add, hrx, QY, hlvc, hlen]
      apply hK; clear hK K
      refine qM (b := _) rfl (fun hb3 => ?_) (fun hb3 => ?_)
      · try simp only [decide_eq_true_eq] at hb3
        refine awp_rseq [4] (by rfl) fun K hK => ?_
        simp +decide only [ev, putD, Slots.put, Slots.get, if_true, if_false, true_and, ↓qF, qo, fa76_0, ↓qJ, Qb, qD ag3, XG, ne_eq, not_false_eq_true, ne_0q1_0q0.symm, Xa, List.getD_cons_zero, Nat.zero_add, qj]
        refine qL (V := QE ⟨6, r.line, 7⟩) (by rfl) (by rfl) (c_fault w₀ _ 6 r.line 7) ?_
        refine qp (by rfl) (by rfl) (by repeat (first | exact AHeap.set_same _ _ _ | assumption | refine (AHeap.set_ne _ _ (by first | assumption | exact Ne.symm (by assumption))).trans ?_)) QR (by rfl) (by rfl) (by first | exact Nat.le_refl _ | decide | (simp; done) | (simp; omega)) (Nat.zero_le _) (by rfl) ?_
        simp only [AHeap.set_set, AVal.cells]
        simp +decide only [qa, ev, putD, Slots.put, Slots.get, Slots.keep, if_true, if_false, setAt, List.set_cons_zero, List.set_cons_succ, Nat.zero_add, Nat.reduceAdd, QE]
        apply hK; clear hK K
        refine qU ?_
        try simp only [Ql, QA]
        refine qO (rdH kx B cb mb x) (by repeat (first | exact Sub.refl _ | assumption | refine Sub.trans_set ?_ (by assumption))) (?_) ?_
        · simp +decide only [QF, ql, Slots.get, if_true, and_true, ql, qi XL QR, Qi, qf, List.getD_cons_zero, List.getD_cons_succ, Nat.zero_add, Nat.reduceAdd, qj, allLive, Bool.and_true, qf, List.getD_cons_zero, List.getD_cons_succ, Nat.zero_add, Nat.reduceAdd, qj, allLive, Bool.and_true]
        
        simp +decide only [Slots.get, if_true, resOfG_one, ql, qi XL QR, Qi, qf, List.getD_cons_zero, List.getD_cons_succ, Nat.zero_add, Nat.reduceAdd, qj, allLive, Bool.and_true, ne_eq, qf, List.getD_cons_zero, List.getD_cons_succ, Nat.zero_add, Nat.reduceAdd, qj, allLive, Bool.and_true, QE]
        rw [take3 (by simpa using hb2) (List.eq_nil_of_length_eq_zero (by omega))]
        exact ⟨rfl, B, M, cb, mb, rfl, hi, Sub.refl _, fun _ _ h => h⟩
      · try simp only [decide_eq_false_iff_not] at hb3
        have hm : r.more = true := by simpa using hb2
        have hne : x.cards ≠ [] := fun e => hb3 (by rw [e]; rfl)
        refine awp_rseq [0, 3, 4, 63] (by rfl) fun K hK => ?_
        simp +decide only [qa, ev, qK, qH, putD, Slots.put, Slots.get, Slots.keep, if_true, if_false, true_and, ↓qF, qo, fa76_3, ↓qJ, Qb, qD ag3, ↓qw, qh, qz, cond_false, qm, pI_lss, ↓qg, qd, ↓Xf, agP, Qm, qI, qG, QV, guardB_cond, qy, qV, cv_cv, implies_true, ↓ag_nilCheck, Qc, QI, cv_nil, cp_nil, ↓XE, fa72_2, cv_fieldAddr, cp_fieldAddr, ↓Zm, XY, agL_mk, agL_ld2, agL_ld3, qD ag4, fa76_2, qD ag9, ↓ag_index, pop_index, pIndex_str Tryz.underlying9, cv_indexl, cp_indexl, ↓QW, XR, XT, pI_neq, ↓ag_pick, Qw, Qg, Za, cp_nest1, Xj, pickV_or, cv_pick, cp_pick, ↓QN, ↓qc, qb, XG, ne_eq, not_false_eq_true, ne_0q1_0q0.symm, Xa, List.getD_cons_zero, List.getD_cons_succ, Nat.zero_add, qC, qj, qE, hrx, QY, Int.toNat_zero]
        repeat (with_reducible refine And.intro ?_ ?_; · first | trivial | omega | (intro hg; simp only [Bool.and_eq_true, Bool.or_eq_true, Bool.not_eq_true', Bool.and_eq_false_iff, Bool.or_eq_false_iff, Bool.not_eq_false', decide_eq_true_eq, decide_eq_false_iff_not, XI] at hg; omega) )
        apply hK; clear hK K
        refine qM (b := _) rfl (fun hb4 => ?_) (fun hb4 => ?_)
        · try simp only [decide_eq_true_eq, decide_eq_false_iff_not, Bool.not_eq_true', Bool.and_eq_true, Bool.or_eq_true] at hb4
          refine awp_rseq [4] (by rfl) fun K hK => ?_
          simp +decide only [ev, putD, Slots.put, Slots.get, if_true, if_false, true_and, ↓qF, qo, fa76_0, ↓qJ, Qb, qD ag3, fa76_3, XG, ne_eq, not_false_eq_true, ne_0q1_0q0.symm, Xa, List.getD_cons_zero, List.getD_cons_succ, Nat.zero_add, qj]
          refine qL (V := QE ⟨4, r.line, r.col⟩) (by rfl) (by rfl) (c_fault w₀ _ 4 r.line r.col) ?_
          refine qp (by rfl) (by rfl) (by repeat (first | exact AHeap.set_same _ _ _ | assumption | refine (AHeap.set_ne _ _ (by first | assumption | exact Ne.symm (by assumption))).trans ?_)) QR (by rfl) (by rfl) (by first | exact Nat.le_refl _ | decide | (simp; done) | (simp; omega)) (Nat.zero_le _) (by rfl) ?_
          simp only [AHeap.set_set, AVal.cells]
          simp +decide only [qa, ev, putD, Slots.put, Slots.get, Slots.keep, if_true, if_false, setAt, List.set_cons_zero, List.set_cons_succ, Nat.zero_add, Nat.reduceAdd, QE]
          apply hK; clear hK K
          refine qU ?_
          try simp only [Ql, QA]
          refine qO (rdH kx B cb mb x) (by repeat (first | exact Sub.refl _ | assumption | refine Sub.trans_set ?_ (by assumption))) (?_) ?_
          · simp +decide only [QF, ql, Slots.get, if_true, and_true, ql, qi XL QR, Qi, qf, List.getD_cons_zero, List.getD_cons_succ, Nat.zero_add, Nat.reduceAdd, qj, allLive, Bool.and_true, qf, List.getD_cons_zero, List.getD_cons_succ, Nat.zero_add, Nat.reduceAdd, qj, allLive, Bool.and_true]
          
          simp +decide only [Slots.get, if_true, resOfG_one, ql, qi XL QR, Qi, qf, List.getD_cons_zero, List.getD_cons_succ, Nat.zero_add, Nat.reduceAdd, qj, allLive, Bool.and_true, ne_eq, qf, List.getD_cons_zero, List.getD_cons_succ, Nat.zero_add, Nat.reduceAdd, qj, allLive, Bool.and_true, QE]
          rw [take4 hm hne (hb4.imp id (fun e => ⟨e.1, fun q => e.2 (by rw [q]; rfl)⟩))]
          exact ⟨rfl, B, M, cb, mb, rfl, hi, Sub.refl _, fun _ _ h => h⟩
        · try simp only [decide_eq_true_eq, decide_eq_false_iff_not, Bool.not_eq_false', Bool.and_eq_false_iff, Bool.or_eq_false_iff] at hb4
          have hnq : ¬ (r.col < 12 ∨ (x.odd = true ∧ r.text.getD 0 0 ≠ 34)) := by
            rintro (e | ⟨e1, e2⟩)
            · exact hb4.1 e
            · rcases hb4.2 with e | e
              · rw [e1] at e; cases e
              · exact e2 ((XB _ 34).mp e)
          refine awp_rseq [0, 3, 4, 84] (by rfl) fun K hK => ?_
          simp +decide only [qa, ev, putD, Slots.put, Slots.get, Slots.keep, if_true, if_false, true_and, ↓qg, qd, ↓QC, Qc, QI, ↓qF, qo, fa72_2, ↓qJ, Qb, qD ag4, ↓qc, qb, List.getD_cons_zero, List.getD_cons_succ, Nat.zero_add, qC, hrx, QY]
          apply hK; clear hK K
          refine qM (b := _) rfl (fun hb5 => ?_) (fun hb5 => ?_)
          · skip
            rw [hheap]
            obtain ⟨B₁, hB₁⟩ : ∃ B₁, B₁ = (B.set k0q0 ⟨[.int .i64 r.line, .bool r.more, .str r.text, .int .i64 r.col], 0⟩).set k0q1 ⟨[.int .i64 0, .int .i64 0, .int .i64 0], 0⟩ := ⟨_, rfl⟩
            rw [← hB₁] at b2 ⊢
            have e0 : B₁ k0q0 = some ⟨[.int .i64 r.line, .bool r.more, .str r.text, .int .i64 r.col], 0⟩ := by rw [hB₁, AHeap.set_ne _ _ ne_0q1_0q0.symm, AHeap.set_same]
            have e1 : B₁ k0q1 = some ⟨[.int .i64 0, .int .i64 0, .int .i64 0], 0⟩ := by rw [hB₁, AHeap.set_same]
            have s0 := fun o => Xd w₀ (b2.other e0) o
            have sx := fun o => Xd w₀ b2.at o
            have hcut : (r.text.drop (1 : Int).toNat).take ((r.text.length : Int).toNat - (1 : Int).toNat) = r.text.drop 1 := by
              rw [Int.toNat_natCast, show Int.toNat 1 = 1 from rfl, List.take_of_length_le (by simp)]
            refine awp_draw_tail 9 mixed (by kernel_rfl) (by rfl) (by rfl) ?_
            simp +decide only [ev, qK, qH, putD, Slots.put, Slots.get, if_true, if_false, true_and, ↓qg, qd, ↓qF, qo, fa76_0, ↓qJ, Qb, qD ag3, fa76_3, ↓qw, qh, qz, cond_false, qm, Xk, fa76_2, qD ag9, ne_eq, List.getD_cons_zero, List.getD_cons_succ, Nat.zero_add, qj, qE, QE, s0]
            try simp (disch := omega) only [wrap_i64]
            try simp +decide only [ev, qK, qH, putD, Slots.put, Slots.get, if_true, if_false, true_and, ↓ap_slice, pop_slice, evO, pSliceS_i0 Tryz.underlying9, pSliceS, bndA_none, bndA_int, hcut]
            repeat (with_reducible refine And.intro ?_ ?_; · first | trivial | omega | (intro hg; simp only [Bool.and_eq_true, Bool.or_eq_true, Bool.not_eq_true', Bool.and_eq_false_iff, Bool.or_eq_false_iff, Bool.not_eq_false', decide_eq_true_eq, decide_eq_false_iff_not, XI] at hg; omega) )
            refine Xp (by rfl) (by rfl) (c_addR w₀ h kx _ _ cb mb _ b2 hne r.line (r.col + 1) (r.text.drop 1) (by intro c hc; have := hb c hc; omega) (by omega) (by simp; omega)) fun x12q9 h12q9 hx12q9 => ?_
            obtain ⟨-, cb2, mb2, rfl, i2⟩ := hx12q9
            have hz := i2.other e1
            have hsB : Sub B B₁ := fun j c hj => by rw [hB₁]; exact Sub.trans_set (Sub.trans_set (Sub.refl _) a4) (by rwa [AHeap.set_ne _ _ ne_0q1_0q0] at b4) j c hj
            have hsM : ∀ j, B j ≠ none → M j = none → M j = none := fun _ _ h => h
            have hfin := take5 (x := x) (r := r) hm hne hnq hb5
            simp +decide only [qa, putD, Slots.put, if_false]
            change Awp _ _ _ _ _ _ _
            refine awp_rseq [4] (by rfl) fun K hK => ?_
            simp +decide only [ev, qK, qH, putD, Slots.put, Slots.get, if_false, true_and, ↓Qo, ↓Qa, bld31_, evP, List.map_nil]
            refine qp (v := .agg [.int .i64 0, .int .i64 0, .int .i64 0]) (by rfl) (by rfl) hz QR (by rfl) (by rfl) (by simp []) (Nat.zero_le _) (by rfl) ?_
            simp only [setAt, AVal.cells, List.set_cons_zero, List.set_cons_succ, Nat.zero_add, Nat.reduceAdd]
            rw [Zj hz]
            simp +decide only [qa, putD, Slots.keep, if_true, if_false]
            apply hK; clear hK K
            refine qU ?_
            refine retA_retE (?_) ?_
            · simp +decide only [QF, ql, Slots.get, if_true, and_true, ql, qi XL QR, qf, List.getD_cons_zero, List.getD_cons_succ, Nat.zero_add, Nat.reduceAdd, qj, allLive, Bool.and_true, qf, List.getD_cons_zero, List.getD_cons_succ, Nat.zero_add, Nat.reduceAdd, qj, allLive, Bool.and_true, Xd w₀ hz]
            
            simp +decide only [Slots.get, if_true, resOfG_one, ql, qi XL QR, qf, List.getD_cons_zero, List.getD_cons_succ, Nat.zero_add, Nat.reduceAdd, qj, allLive, Bool.and_true, qf, List.getD_cons_zero, List.getD_cons_succ, Nat.zero_add, Nat.reduceAdd, qj, allLive, Bool.and_true, Xd w₀ hz]
            refine ⟨_, Sub.refl _, ?_⟩
            rw [hfin]
            exact ⟨rfl, _, _, _, _, rfl, i2, hsB, hsM⟩
          · skip
            rw [hheap]
            obtain ⟨B₁, hB₁⟩ : ∃ B₁, B₁ = (B.set k0q0 ⟨[.int .i64 r.line, .bool r.more, .str r.text, .int .i64 r.col], 0⟩).set k0q1 ⟨[.int .i64 0, .int .i64 0, .int .i64 0], 0⟩ := ⟨_, rfl⟩
            rw [← hB₁] at b2 ⊢
            have e0 : B₁ k0q0 = some ⟨[.int .i64 r.line, .bool r.more, .str r.text, .int .i64 r.col], 0⟩ := by rw [hB₁, AHeap.set_ne _ _ ne_0q1_0q0.symm, AHeap.set_same]
            have e1 : B₁ k0q1 = some ⟨[.int .i64 0, .int .i64 0, .int .i64 0], 0⟩ := by rw [hB₁, AHeap.set_same]
            have s0 := fun o => Xd w₀ (b2.other e0) o
            have sx := fun o => Xd w₀ b2.at o
            refine Xl [4] (by rfl) ?_
            simp +decide only [ev, putD, Slots.put, Slots.get, if_true, if_false, true_and, ↓qg, qd, ↓qF, qo, fa76_0, ↓qJ, Qb, qD ag3, fa76_3, fa76_2, qD ag9, ne_eq, List.getD_cons_zero, List.getD_cons_succ, Nat.zero_add, qj, qE, QE, s0]
            refine Xp (by rfl) (by rfl) (c_addR w₀ h kx _ _ cb mb _ b2 hne r.line r.col r.text (by intro c hc; have := hb c hc; omega) (by omega) ht) fun x1q7 h1q7 hx1q7 => ?_
            obtain ⟨-, cb2, mb2, rfl, i2⟩ := hx1q7
            have hz := i2.other e1
            have hsB : Sub B B₁ := fun j c hj => by rw [hB₁]; exact Sub.trans_set (Sub.trans_set (Sub.refl _) a4) (by rwa [AHeap.set_ne _ _ ne_0q1_0q0] at b4) j c hj
            have hsM : ∀ j, B j ≠ none → M j = none → M j = none := fun _ _ h => h
            have hfin := take6 (x := x) (r := r) hm hne hnq hb5
            simp +decide only [qa, putD, Slots.put, Slots.keep, if_true, if_false]
            change Awp _ _ _ _ _ _ _
            refine awp_rseq [4] (by rfl) fun K hK => ?_
            simp +decide only [ev, qK, qH, putD, Slots.put, Slots.get, if_false, true_and, ↓Qo, ↓Qa, bld31_, evP, List.map_nil]
            refine qp (v := .agg [.int .i64 0, .int .i64 0, .int .i64 0]) (by rfl) (by rfl) hz QR (by rfl) (by rfl) (by simp []) (Nat.zero_le _) (by rfl) ?_
            simp only [setAt, AVal.cells, List.set_cons_zero, List.set_cons_succ, Nat.zero_add, Nat.reduceAdd]
            rw [Zj hz]
            simp +decide only [qa, putD, Slots.keep, if_true, if_false]
            apply hK; clear hK K
            refine qU ?_
            refine retA_retE (?_) ?_
            · simp +decide only [QF, ql, Slots.get, if_true, and_true, ql, qi XL QR, qf, List.getD_cons_zero, List.getD_cons_succ, Nat.zero_add, Nat.reduceAdd, qj, allLive, Bool.and_true, qf, List.getD_cons_zero, List.getD_cons_succ, Nat.zero_add, Nat.reduceAdd, qj, allLive, Bool.and_true, Xd w₀ hz]
            
            simp +decide only [Slots.get, if_true, resOfG_one, ql, qi XL QR, qf, List.getD_cons_zero, List.getD_cons_succ, Nat.zero_add, Nat.reduceAdd, qj, allLive, Bool.and_true, qf, List.getD_cons_zero, List.getD_cons_succ, Nat.zero_add, Nat.reduceAdd, qj, allLive, Bool.and_true, Xd w₀ hz]
            refine ⟨_, Sub.refl _, ?_⟩
            rw [hfin]
            exact ⟨rfl, _, _, _, _, rfl, i2, hsB, hsM⟩
end Go.Proofs.YtmadddihphkmoaaGreatDoor

/-
  Contracts: Clip of marks and of cards; bounds of what has been read.
  Conditions: none.
-/
namespace Go.Proofs.YtmadddihphkmoaaGreatDoor
open Go.AM
open Go.Proofs
open Go.Col
set_option maxRecDepth 100000

theorem c_clipM (w₀ : World) (h : AHeap) (v : AVal) (xs : List (List AVal)) (hv : IsL w₀ h 3 v xs) : ACall Tryz.prog w₀ 27 [v] h (fun r h' => r = capL v ∧ h' = h) := by
  have hlen := hv.len Tryz.underlying46
  have h3 := hv.slice3 Tryz.underlying46 sz56 .i64 .i64 none rfl
  refine qY (n := 9) (rs := [.tmp 2]) Tryz.func27 rfl rfl rfl rfl (Nat.le_of_ble_eq_true rfl) ?_
  simp only [Qf]
  refine awp_rseq [0] (by rfl) fun K hK => ?_
  simp +decide only [qa, ev, qK, qH, putD, Slots.put, Slots.keep, if_true, if_false, true_and, ↓qc, qb]
  apply hK; clear hK K
  refine awp_rseq [2] (by rfl) fun K hK => ?_
  simp +decide only [qa, ev, putD, Slots.put, Slots.get, Slots.keep, if_true, if_false, true_and, ↓qg, qd, ↓Xw, QH, ↓ap_slice, pop_slice, evO, ↓qc, qb, hlen, h3]
  apply hK; clear hK K
  refine qU ?_
  refine qO _ (Sub.refl _) (Qd (Qe)) ?_
  simp +decide only [Slots.get, if_true, and_true, QD]
  all_goals first | rfl | exact ⟨rfl, rfl⟩ | (simp +decide only [if_true, if_false, *]; done) | (trace_state; fail)
theorem c_clipC (w₀ : World) (h : AHeap) (v : AVal) (xs : List (List AVal)) (hv : IsL w₀ h 3 v xs) : ACall Tryz.prog w₀ 28 [v] h (fun r h' => r = capL v ∧ h' = h) := by
  have hlen := hv.len Tryz.underlying40
  have h3 := hv.slice3 Tryz.underlying40 sz48 .i64 .i64 none rfl
  refine qY (n := 9) (rs := [.tmp 2]) Tryz.func28 rfl rfl rfl rfl (Nat.le_of_ble_eq_true rfl) ?_
  simp only [Qf]
  refine awp_rseq [0] (by rfl) fun K hK => ?_
  simp +decide only [qa, ev, qK, qH, putD, Slots.put, Slots.keep, if_true, if_false, true_and, ↓qc, qb]
  apply hK; clear hK K
  refine awp_rseq [2] (by rfl) fun K hK => ?_
  simp +decide only [qa, ev, putD, Slots.put, Slots.get, Slots.keep, if_true, if_false, true_and, ↓qg, qd, ↓Xw, QH, ↓ap_slice, pop_slice, evO, ↓qc, qb, hlen, h3]
  apply hK; clear hK K
  refine qU ?_
  refine qO _ (Sub.refl _) (Qd (Qe)) ?_
  simp +decide only [Slots.get, if_true, and_true, QD]
  all_goals first | rfl | exact ⟨rfl, rfl⟩ | (simp +decide only [if_true, if_false, *]; done) | (trace_state; fail)
/-- What has been read is not greater than its lines. -/
structure RdSm (N : Nat) (x : Rd) : Prop where
  many : x.cards.length ≤ N
  small : ∀ c ∈ x.cards, c.text.length ≤ 80 * N ∧ c.marks.length ≤ N
theorem RdSm.next {N : Nat} {x : Rd} (h : RdSm N x) : RdSm (N + 1) x := ⟨by have := h.many; omega, fun c hc => by have := h.small c hc; omega⟩
theorem addC_small {c : CardC} {N : Nat} (h : c.text.length ≤ 80 * N ∧ c.marks.length ≤ N) (line col : Int) (t : Str) (ht : t.length ≤ 80) : (addC c line col t).text.length ≤ 80 * (N + 1) ∧ (addC c line col t).marks.length ≤ N + 1 := by
  have h1 := trimR_le t
  unfold addC
  simp only [List.length_append]
  constructor
  · split <;> omega
  · split <;> (try split) <;> (try simp only [List.length_append, List.length_cons, List.length_nil]) <;> omega
theorem addE_small {N : Nat} {x : Rd} (h : RdSm N x) (line col : Int) (t : Str) (ht : t.length ≤ 80) : RdSm (N + 1) (addE x line col t) := by
  rcases List.eq_nil_or_concat x.cards with e | ⟨l, c, e⟩
  · have : addE x line col t = x := by unfold addE; rw [e]; rfl
    rw [this]
    exact h.next
  · rw [List.concat_eq_append] at e
    rw [XO e]
    have hm := h.many
    rw [e] at hm
    simp only [List.length_append, List.length_cons, List.length_nil] at hm
    refine ⟨by simp; omega, fun d hd => ?_⟩
    rw [List.mem_append] at hd
    rcases hd with hd | hd
    · have := h.small d (by rw [e]; simp [hd])
      omega
    · rw [List.mem_singleton.1 hd]
      exact addC_small (h.small c (by rw [e]; simp)) line col t ht
theorem takeE_small {N : Nat} {x : Rd} (h : RdSm N x) {r : RowC} (ht : r.text.length ≤ 80) : RdSm (N + 1) (takeE x r).1 := by
  unfold takeE
  split
  · exact h.next
  split
  · have hp : RdSm N x := h
    have h' : RdSm (N + 1) ⟨x.cards ++ [⟨decide (r.col < 12), [], []⟩], x.line, x.col, x.odd⟩ := by
      refine ⟨by have := h.many; simp; omega, fun c hc => ?_⟩
      rw [List.mem_append] at hc
      rcases hc with hc | hc
      · exact h.next.small c hc
      · rw [List.mem_singleton.1 hc]
        simp
    refine ⟨?_, ?_⟩
    · have := h.many
      rw [XO (x := ⟨x.cards ++ [⟨decide (r.col < 12), [], []⟩], x.line, x.col, x.odd⟩) rfl]
      simp
      omega
    · intro c hc
      rw [XO (x := ⟨x.cards ++ [⟨decide (r.col < 12), [], []⟩], x.line, x.col, x.odd⟩) rfl] at hc
      simp only [List.mem_append, List.mem_singleton] at hc
      rcases hc with hc | rfl
      · exact h.next.small c hc
      · exact addC_small ⟨by simp, by simp⟩ _ _ _ ht
  split
  · exact h.next
  split
  · exact h.next
  split
  · exact addE_small h _ _ _ (by simp; omega)
  · exact addE_small h _ _ _ ht
theorem lineE_small {s : Str} {line : Int} {dbg : Bool} : (lineE s line dbg).1.text.length ≤ 65 ∧ ((lineE s line dbg).2.1 = true → (lineE s line dbg).1.text ≠ [] ∧ 0 ≤ (lineE s line dbg).1.col ∧ (lineE s line dbg).1.col ≤ 73) := by
  by_cases h80 : 80 < s.length
  · have : lineE s line dbg = (noRow, false, ⟨5, line, 81⟩) := by unfold lineE; rw [if_pos h80]
    rw [this]
    simp [noRow]
  · cases hb : badAt s with
    | some i =>
      have : lineE s line dbg = (noRow, false, ⟨4, line, (i : Int) + 1⟩) := by unfold lineE; rw [if_neg h80, hb]
      rw [this]
      simp [noRow]
    | none =>
      rw [lineE_none h80 hb]
      have h1 : (rowE s line).text.length ≤ 65 := Nat.le_trans (trimL_le _) (by simp; omega)
      have h2 : (rowE s line).col = 73 - (rowE s line).text.length := rfl
      split
      · exact ⟨h1, by simp⟩
      split
      · refine ⟨h1, fun h => ?_⟩
        simp only [Bool.and_eq_true, Bool.not_eq_true', decide_eq_false_iff_not] at h
        exact ⟨h.2, by simp only; omega, by simp only; omega⟩
      split
      · refine ⟨h1, fun h => ?_⟩
        simp only [Bool.not_eq_true', decide_eq_false_iff_not] at h
        exact ⟨h, by simp only; omega, by simp only; omega⟩
      · exact ⟨h1, by simp⟩
theorem splitNL_len : ∀ s : Str, (Qp s).length ≤ s.length + 1
  | [] => by simp [Qp]
  | b :: s => by
    have := splitNL_len s
    unfold Qp
    split
    · simp; omega
    · split <;> simp_all <;> omega
theorem trimNL_len (s : Str) : (XK s).length ≤ s.length := by
  unfold XK
  split <;> simp
/-- A row of cards. -/
def IsCards (w₀ : World) (h : AHeap) (v : AVal) (cs : List CardC) : Prop := ∃ ps : List (CardC × AVal), ps.map (·.1) = cs ∧ IsL w₀ h 3 v (ps.map Zb) ∧ ∀ p ∈ ps, IsL w₀ h 3 p.2 (p.1.marks.map markC)
theorem IsCards.mono {w₀ : World} {h h' : AHeap} {v : AVal} {cs : List CardC} (hc : IsCards w₀ h v cs) (hs : Sub h h') : IsCards w₀ h' v cs := by
  obtain ⟨ps, h1, h2, h3⟩ := hc
  exact ⟨ps, h1, h2.mono hs, fun p hp => (h3 p hp).mono hs⟩
end Go.Proofs.YtmadddihphkmoaaGreatDoor

/-
  Contracts: Read of the package columns.
  Conditions: none.
-/
namespace Go.Proofs.YtmadddihphkmoaaGreatDoor
open Go.AM
open Go.Proofs
open Go.Col
set_option maxRecDepth 100000

/-- What Read answers. -/
def ReadR (w₀ : World) (h : AHeap) (text : Str) (dbg : Bool) (v : AVal) (h' : AHeap) : Prop := ∃ cv, v = .tuple [cv, QE (readE text dbg).2] ∧ IsCards w₀ h' cv (readE text dbg).1 ∧ Sub h h'
structure RdL where
  i : Nat
  B : AHeap
  M : AHeap
  cb : Option Buf
  mb : Option Buf
  x : Rd
theorem faultA_eq (f : FaultC) : (decide (f.e = 0) && (decide (f.line = 0) && decide (f.col = 0))) = decide (f = okF) := by
  obtain ⟨a, b, c⟩ := f
  rw [Bool.eq_iff_iff]
  simp [okF]
theorem readL_skip {s : Str} {l : List Str} {n : Int} {x : Rd} {dbg : Bool} {r : RowC} {f : FaultC} (hp : lineE s n dbg = (r, false, f)) (hf : f = okF) : XZ dbg (s :: l) n x = XZ dbg l (n + 1) x := by
  rw [XZ, hp]
  simp only
  rw [if_pos ⟨hf, trivial⟩]
theorem readL_fault {s : Str} {l : List Str} {n : Int} {x : Rd} {dbg : Bool} {r : RowC} {cn : Bool} {f : FaultC} (hp : lineE s n dbg = (r, cn, f)) (hf : f ≠ okF) : XZ dbg (s :: l) n x = (x, f) := by
  rw [XZ, hp]
  simp only
  rw [if_neg (fun e => hf e.1), if_neg hf]
theorem readL_bad {s : Str} {l : List Str} {n : Int} {x : Rd} {dbg : Bool} {r : RowC} {f : FaultC} (hp : lineE s n dbg = (r, true, f)) (hf : f = okF) (hg : (takeE x r).2 ≠ okF) : XZ dbg (s :: l) n x = ((takeE x r).1, (takeE x r).2) := by
  rw [XZ, hp]
  simp only
  rw [if_neg (fun e => by cases e.2), if_pos hf, if_neg hg]
theorem readL_take {s : Str} {l : List Str} {n : Int} {x : Rd} {dbg : Bool} {r : RowC} {f : FaultC} (hp : lineE s n dbg = (r, true, f)) (hf : f = okF) (hg : (takeE x r).2 = okF) : XZ dbg (s :: l) n x = XZ dbg l (n + 1) (takeE x r).1 := by
  rw [XZ, hp]
  simp only
  rw [if_neg (fun e => by cases e.2), if_pos hf, if_pos hg]
theorem readE_fault {text : Str} {dbg : Bool} (hl : text.length ≤ 1048576) {x : Rd} {f : FaultC} (h : XZ dbg (Qp (XK text)) 1 .start = (x, f)) (hf : f ≠ okF) : readE text dbg = ([], f) := by
  unfold readE
  rw [if_neg (by omega), h]
  simp only
  rw [if_pos hf]
theorem splitNL_mem : ∀ (s : Str), ∀ l ∈ Qp s, l.length ≤ s.length
  | [], l, h => by simp [Qp] at h; subst h; simp
  | b :: s, l, h => by
    have ih := splitNL_mem s
    unfold Qp at h
    split at h
    · rcases List.mem_cons.1 h with rfl | h
      · simp
      · have := ih l h; simp; omega
    · split at h
      · rename_i e
        simp only [List.mem_singleton] at h
        subst h
        simp
      · rename_i l0 ls e
        rcases List.mem_cons.1 h with rfl | h
        · have := ih l0 (by rw [e]; simp); simp; omega
        · have := ih l (by rw [e]; simp [h]); simp; omega
theorem readE_odd {text : Str} {dbg : Bool} (hl : text.length ≤ 1048576) {x : Rd} (h : XZ dbg (Qp (XK text)) 1 .start = (x, okF)) (ho : x.odd = true) : readE text dbg = ([], ⟨4, x.line, x.col⟩) := by
  unfold readE
  rw [if_neg (by omega), h]
  simp only
  rw [if_neg (by simp), if_pos ho]
theorem readE_ok {text : Str} {dbg : Bool} (hl : text.length ≤ 1048576) {x : Rd} (h : XZ dbg (Qp (XK text)) 1 .start = (x, okF)) (ho : x.odd = false) : readE text dbg = (x.cards, okF) := by
  unfold readE
  rw [if_neg (by omega), h]
  simp only
  rw [if_neg (by simp), if_neg (by rw [ho]; decide)]
/-- Nothing has been read. -/
theorem readEnd0 (w₀ : World) (h B0 : AHeap) (hs0 : Sub h B0) (kr kx : Nat) (text : Str) (dbg : Bool) (hl : text.length ≤ 1048576) (er : B0 kr = some ⟨[.int .i64 0, .int .i64 0, .int .i64 0], 0⟩) (hr : h kr = none)
    (B M : AHeap) (cb mb : Option Buf) (x : Rd) (ri : RdInv w₀ B0 kx B M cb mb x) (hcards : x.cards = []) (hrl : XZ dbg (Qp (XK text)) 1 .start = (x, okF)) :
    Awp Tryz.prog w₀ 82 (dropSeq 5 (unScope (dropSeq 1 (bodyOf Tryz.f12)))) (noGotoA (retA Tryz.prog w₀ [.tmp 4, .cell 5 31] (ReadR w₀ h text dbg))) [(5, .ptr (.own kr) 0), (6, .ptr (.own kx) 0)] (rdH kx B cb mb x) := by
  obtain ⟨rfl, rfl⟩ : cb = none ∧ mb = none := by
    rcases ri.cards with e | ⟨done, c, kc, e, _⟩
    · exact e.2
    · rw [hcards] at e; simp at e
  have rix := fun o => Xd w₀ ri.at o
  have hnil : XM 3 none = .nilSlice := rfl
  change Awp _ _ _ (Code.seq _ _) _ _ _
  refine qN ?_
  refine awp_rseq [5, 6, 55] (by rfl) fun K hK => ?_
  simp +decide only [qa, ev, putD, Slots.put, Slots.get, Slots.keep, if_true, if_false, true_and, ↓qF, qo, fa72_2, ↓qJ, Qb, qD ag4, List.getD_cons_zero, List.getD_cons_succ, Nat.zero_add, qC, rix, QY, hnil]
  apply hK; clear hK K
  refine qM (b := _) rfl (fun hb1 => ?_) (fun hb1 => ?_)
  · skip
    have hres := readE_odd hl hrl hb1
    refine awp_dseq_tail 4 [4, 5] mixed (by kernel_rfl) (by rfl) (by rfl) fun K hK => ?_
    simp +decide only [ev, qK, qH, putD, Slots.put, Slots.get, if_true, if_false, true_and, ↓qF, qo, fa72_1, ↓qJ, Qb, qi ag29 sz29, ↓Qo, ↓Qa, bld31_0_1, evP, List.map_cons, List.map_nil, ↓qc, qb, qf, List.getD_cons_zero, List.getD_cons_succ, Nat.zero_add, Nat.reduceAdd, qj, allLive, Bool.and_true, rix, QY, hnil]
    refine qp (v := .agg [.int .i64 4, .int .i64 x.line, .int .i64 x.col]) (by rfl) (by rfl) (ri.other (ri.sub _ _ er)) QR (by rfl) (by rfl) (by simp []) (Nat.zero_le _) (by rfl) ?_
    simp only [setAt, AVal.cells, List.set_cons_zero, List.set_cons_succ, Nat.zero_add, Nat.reduceAdd]
    simp +decide only [qa, putD, Slots.keep, if_true, if_false]
    apply hK; clear hK K
    refine qU ?_
    try simp only [Ql, noGotoA_ret]
    refine qO h (Sub.trans_set (hs0.trans ri.above) hr) (?_) ?_
    · simp +decide only [QF, qB, ql, Slots.get, if_true, if_false, and_true, qB, ql, qi XL QR, Qi, qf, List.getD_cons_zero, List.getD_cons_succ, Nat.zero_add, Nat.reduceAdd, qj, allLive, Bool.and_true, qf, List.getD_cons_zero, List.getD_cons_succ, Nat.zero_add, Nat.reduceAdd, qj, allLive, Bool.and_true]
    
    simp +decide only [Slots.get, if_true, if_false, Zo, qB, ql, qi XL QR, Qi, qf, List.getD_cons_zero, List.getD_cons_succ, Nat.zero_add, Nat.reduceAdd, qj, allLive, Bool.and_true, qf, List.getD_cons_zero, List.getD_cons_succ, Nat.zero_add, Nat.reduceAdd, qj, allLive, Bool.and_true]
    exact ⟨.nilSlice, by rw [hres]; rfl, by rw [hres]; exact ⟨[], rfl, .nil, by simp⟩, Sub.refl _⟩
  · skip
    have hres := readE_ok hl hrl hb1
    refine qZ ?_
    change Awp _ _ _ _ _ _ _
    refine qN ?_
    refine awp_rseq [5, 6, 61, 62] (by rfl) fun K hK => ?_
    simp +decide only [qa, ev, qK, qH, putD, Slots.put, Slots.get, Slots.keep, if_true, if_false, true_and, ↓qF, qo, fa72_0, ↓qJ, Qb, qD ag40, ↓Xw, QH, pLen_nil Tryz.underlying40, ↓qg, qd, List.getD_cons_zero, Nat.zero_add, lv_nilSlice, rix, QY, hnil]
    apply hK; clear hK K
    refine Qt ?_
    refine XW [5, 6, 61, 62] (fun g : Unit => [(5, .ptr (.own kr) 0), (6, .ptr (.own kx) 0), (61, .int .i64 0), (62, .int .i64 0)]) (fun g : Unit => rdH kx B none none x) (fun g : Unit => True) (fun g : Unit => 0) () (by rfl) (Sub.refl _) trivial ?_
    intro _ _
    refine awp_rseq [5, 6, 61, 62, 63] (by rfl) fun K hK => ?_
    simp +decide only [qa, ev, putD, Slots.put, Slots.get, Slots.keep, if_true, if_false, true_and, ↓qw, qh, qP, cond_false, qm, pI_lss]
    apply hK; clear hK K
    refine qN (qM (b := _) rfl (fun hb2 => ?_) (fun hb2 => ?_))
    · exact absurd hb2 (by decide)
    · try simp only [decide_eq_false_iff_not] at hb2
      refine Ze ?_
      change Awp _ _ _ _ _ _ _
      refine awp_rseq [4, 5] (by rfl) fun K hK => ?_
      simp +decide only [ev, putD, Slots.put, Slots.get, if_true, if_false, true_and, ↓qF, qo, fa72_0, ↓qJ, Qb, qD ag40, List.getD_cons_zero, Nat.zero_add, lv_nilSlice, rix, QY, hnil]
      refine qL (V := .nilSlice) (by rfl) (by rfl) ((c_clipC w₀ _ .nilSlice [] .nil)) ?_
      simp +decide only [ev, qK, qH, putD, Slots.put, Slots.get, if_true, if_false, true_and, ↓Qo, ↓Qa, bld31_, evP, List.map_nil, ↓qc, qb]
      refine qp (v := .agg [.int .i64 0, .int .i64 0, .int .i64 0]) (by rfl) (by rfl) (ri.other (ri.sub _ _ er)) QR (by rfl) (by rfl) (by simp []) (Nat.zero_le _) (by rfl) ?_
      simp only [setAt, AVal.cells, List.set_cons_zero, List.set_cons_succ, Nat.zero_add, Nat.reduceAdd]
      simp +decide only [qa, putD, Slots.keep, if_true, if_false]
      apply hK; clear hK K
      refine qU ?_
      try simp only [noGotoA_ret]
      refine qO h (Sub.trans_set (hs0.trans ri.above) hr) (?_) ?_
      · simp +decide only [QF, qB, ql, Slots.get, if_true, if_false, and_true, qB, ql, qi XL QR, Qi, qf, List.getD_cons_zero, List.getD_cons_succ, Nat.zero_add, Nat.reduceAdd, qj, allLive, Bool.and_true, qf, List.getD_cons_zero, List.getD_cons_succ, Nat.zero_add, Nat.reduceAdd, qj, allLive, Bool.and_true]
      
      simp +decide only [Slots.get, if_true, if_false, Zo, qB, ql, qi XL QR, Qi, qf, List.getD_cons_zero, List.getD_cons_succ, Nat.zero_add, Nat.reduceAdd, qj, allLive, Bool.and_true, qf, List.getD_cons_zero, List.getD_cons_succ, Nat.zero_add, Nat.reduceAdd, qj, allLive, Bool.and_true]
      exact ⟨.nilSlice, by rw [hres]; rfl, by rw [hres, hcards]; exact ⟨[], rfl, .nil, by simp⟩, Sub.refl _⟩

theorem okCap {w₀ : World} {h : AHeap} {v : AVal} {xs : List (List AVal)} (hb : IsL w₀ h 3 v xs) : (capL v).okIn (fun k => (h k).isSome) := by
  cases hb with
  | nil => trivial
  | mk l o n c xs hn hw hc hl hcap =>
    cases l with
    | base b => trivial
    | own k =>
      simp only [capL, AVal.okIn]
      intro h0
      cases hk : h k with
      | some b => rfl
      | none =>
        obtain ⟨m, rfl⟩ : ∃ m, n = m + 1 := ⟨n - 1, by omega⟩
        rw [show (m + 1) * 3 = (m * 3 + 2) + 1 by omega, qf] at hc
        rw [← hc] at hl
        simp [allLive, rd, hk, AVal.live] at hl
def clipP (p : CardC × AVal) : CardC × AVal := (p.1, capL p.2)
theorem flat_len3 (l : List (CardC × AVal)) : (l.map Zb).flatten.length = l.length * 3 := by
  rw [flatten_len (es := 3) (by intro y hy; obtain ⟨p, _, rfl⟩ := List.mem_map.1 hy; rfl), List.length_map]
theorem flat_set : ∀ (l : List (CardC × AVal)) (i : Nat) (v : AVal) (hi : i < l.length), setAt (l.map Zb).flatten (i * 3 + 2) [v] = ((l.set i ((l[i]).1, v)).map Zb).flatten
  | p :: l, 0, v, _ => rfl
  | p :: l, i + 1, v, hi => by
    have ih := flat_set l i v (by simpa using hi)
    simp only [setAt] at ih ⊢
    simp only [List.map_cons, List.flatten_cons, List.set_cons_succ, List.getElem_cons_succ]
    rw [← ih, List.set_append_right _ _ (by rw [cell3_wide]; omega), cell3_wide, show (i + 1) * 3 + 2 - 3 = i * 3 + 2 by omega]
theorem flat_get (l : List (CardC × AVal)) (i : Nat) (hi : i < l.length) : (l.map Zb).flatten.getD (i * 3 + 2) .dead = (l[i]).2 := by
  rw [List.getD, flatten_get (es := 3) (by intro y hy; obtain ⟨p, _, rfl⟩ := List.mem_map.1 hy; rfl) (by rw [List.length_map]; exact hi) (by decide)]
  simp [List.getD, hi, Zb]
/-- The marks of the first i cards have been cut to size. -/
def psi (ps : List (CardC × AVal)) (i : Nat) : List (CardC × AVal) := (ps.take i).map clipP ++ ps.drop i
theorem psi_len (ps : List (CardC × AVal)) (i : Nat) : (psi ps i).length = ps.length := by
  unfold psi
  simp
  omega
theorem psi_get (ps : List (CardC × AVal)) (i : Nat) (hi : i < ps.length) : (psi ps i)[i]'(by rw [psi_len]; exact hi) = ps[i] := by
  unfold psi
  rw [List.getElem_append_right (by simp; omega)]
  simp [Nat.min_eq_left (Nat.le_of_lt hi)]
theorem psi_next (ps : List (CardC × AVal)) (i : Nat) (hi : i < ps.length) : (psi ps i).set i (clipP ps[i]) = psi ps (i + 1) := by
  unfold psi
  have hl : ((ps.take i).map clipP).length = i := by simp; omega
  rw [List.set_append_right _ _ (by omega), hl, Nat.sub_self, List.drop_eq_getElem_cons hi, List.set_cons_zero, List.take_add_one, List.getElem?_eq_getElem hi, Option.toList_some, List.map_append, List.append_assoc]
  rfl
theorem bufOk_blk {H : AHeap} {es : Nat} {b : Option Buf} {c : Buf} (h : bufOk H es b) (e : b = some c) : H c.blk = none := by subst e; exact h.1
theorem bufH_blk {H : AHeap} {b : Option Buf} {c : Buf} (e : b = some c) : Xv H b = H.set c.blk ⟨c.cells, 0⟩ := by subst e; rfl
theorem readEnd1 (w₀ : World) (h B0 : AHeap) (hs0 : Sub h B0) (kr kx : Nat) (text : Str) (dbg : Bool) (hl : text.length ≤ 1048576) (er : B0 kr = some ⟨[.int .i64 0, .int .i64 0, .int .i64 0], 0⟩) (hr : h kr = none)
    (B M : AHeap) (cb mb : Option Buf) (x : Rd) (ri : RdInv w₀ B0 kx B M cb mb x) (hcards : x.cards ≠ []) (hsm : x.cards.length ≤ 1099511627776) (hrl : XZ dbg (Qp (XK text)) 1 .start = (x, okF)) :
    Awp Tryz.prog w₀ 82 (dropSeq 5 (unScope (dropSeq 1 (bodyOf Tryz.f12)))) (noGotoA (retA Tryz.prog w₀ [.tmp 4, .cell 5 31] (ReadR w₀ h text dbg))) [(5, .ptr (.own kr) 0), (6, .ptr (.own kx) 0)] (rdH kx B cb mb x) := by
  obtain ⟨ps, kc, hps, hcb, hv, hL, hMM, hMk⟩ : ∃ (ps : List (CardC × AVal)) (kc : Nat), ps.map (·.1) = x.cards ∧ cb = some ⟨kc, (ps.map Zb).flatten⟩ ∧ XM 3 cb = .slice (.own kc) 0 ps.length (.grow 3) ∧ (∀ p ∈ ps, IsL w₀ (Xv M mb) 3 p.2 (p.1.marks.map markC)) ∧ Xv M mb kc = none ∧ Sub (Xv M mb) (rdH kx B cb mb x) := by
    rcases ri.cards with ⟨e, _⟩ | ⟨done, c, kc, e1, e2, e3, e4⟩
    · exact absurd e hcards
    · obtain ⟨q1, q2, q3⟩ := bufSwap ri.okc ri.okm
      obtain ⟨p1, p2, p3⟩ := bufPut (d := ⟨QY cb x, 0⟩) q2
      have pM := p2.sub ri.subM
      have hf : (done.map Zb).flatten ++ [.bool c.left, .str c.text, XM 3 mb] = ((done ++ [(c, XM 3 mb)]).map Zb).flatten := by simp [Zb]
      have hkc : (Xv (B.set kx ⟨QY cb x, 0⟩) mb) kc = none := bufOk_blk q3 e2
      have hkx : kc ≠ kx := fun e => by
        rw [p1, e, AHeap.set_same] at hkc
        cases hkc
      have hMB : Sub (Xv M mb) (Xv B mb) := by
        cases mb with
        | none => exact ri.subM
        | some b => exact Sub.set_both ri.subM _ _
      have hkcB : Xv B mb kc = none := by rwa [p1, AHeap.set_ne _ _ hkx] at hkc
      refine ⟨done ++ [(c, XM 3 mb)], kc, by rw [e1]; simp, by rw [e2, hf], ?_, fun p hp => ?_, hMB.none hkcB, ?_⟩
      · rw [e2, bufV_some, hf, flat_len3]
        simp
      · rw [List.mem_append] at hp
        rcases hp with hp | hp
        · exact (e4 p hp).mono (Sub.buf pM)
        · rw [List.mem_singleton.1 hp]
          exact IsL.buf pM (by decide) e3 (by intro y hy; obtain ⟨m, _, rfl⟩ := List.mem_map.1 hy; rfl) (Sub.refl _)
      · refine Sub.trans hMB ?_
        unfold rdH
        rw [q1, bufH_blk e2]
        refine Sub.trans ?_ (Sub.set hkc)
        rw [p1]
        exact Sub.set (by rw [p3]; exact ri.hk)
  have hkcx : (rdH kx B cb mb x) kc = some ⟨(ps.map Zb).flatten, 0⟩ := by
    have := ri.okm
    unfold rdH
    exact bufAt ri.okm (by rw [hcb]; exact AHeap.set_same _ _ _)
  have hkx := ri.at
  have hne : kx ≠ kc := fun e => by
    rw [← e, hkx] at hkcx
    have := congrArg (fun o => (o.map fun b => b.cells.length).getD 0) hkcx
    simp only [Option.map_some, Option.getD_some, QY, List.length_cons, List.length_nil, flat_len3] at this
    omega
  have hlenp : ps.length = x.cards.length := by rw [← hps, List.length_map]
  have hkr := ri.other (ri.sub _ _ er)
  have hrc : kr ≠ kc := fun e => by
    rw [e, hkcx] at hkr
    have := congrArg (fun o => (o.map fun b => b.cells.length).getD 0) hkr
    simp only [Option.map_some, Option.getD_some, List.length_cons, List.length_nil, flat_len3] at this
    have h1 : ps.length = 1 := by omega
    match ps, h1 with
    | [p], _ => simp [Zb] at hkr
  have hhc : h kc = none := by
    cases hc : h kc with
    | none => rfl
    | some b =>
      have := ri.sub _ _ (hs0 _ _ hc)
      have h2 := ri.okc
      rw [hcb] at h2
      have := (AHeap.set_ne B ⟨QY (some ⟨kc, (ps.map Zb).flatten⟩) x, 0⟩ hne.symm).symm.trans h2.1
      simp_all
  obtain ⟨H0, hH0⟩ : ∃ H0, H0 = rdH kx B cb mb x := ⟨_, rfl⟩
  have hsub : Sub h H0 := by rw [hH0]; exact hs0.trans ri.above
  rw [← hH0] at hkcx hkx hkr hMk ⊢
  have rix := fun o => Xd w₀ hkx o
  change Awp _ _ _ (Code.seq _ _) _ _ _
  refine qN ?_
  refine awp_rseq [5, 6, 55] (by rfl) fun K hK => ?_
  simp +decide only [qa, ev, putD, Slots.put, Slots.get, Slots.keep, if_true, if_false, true_and, ↓qF, qo, fa72_2, ↓qJ, Qb, qD ag4, List.getD_cons_zero, List.getD_cons_succ, Nat.zero_add, qC, rix, QY, hv]
  apply hK; clear hK K
  refine qM (b := _) rfl (fun hb1 => ?_) (fun hb1 => ?_)
  · skip
    have hres := readE_odd hl hrl hb1
    refine awp_dseq_tail 4 [4, 5] mixed (by kernel_rfl) (by rfl) (by rfl) fun K hK => ?_
    simp +decide only [ev, qK, qH, putD, Slots.put, Slots.get, if_true, if_false, true_and, ↓qF, qo, fa72_1, ↓qJ, Qb, qi ag29 sz29, ↓Qo, ↓Qa, bld31_0_1, evP, List.map_cons, List.map_nil, ↓qc, qb, qf, List.getD_cons_zero, List.getD_cons_succ, Nat.zero_add, Nat.reduceAdd, qj, allLive, Bool.and_true, rix, QY, hv]
    refine qp (v := .agg [.int .i64 4, .int .i64 x.line, .int .i64 x.col]) (by rfl) (by rfl) hkr QR (by rfl) (by rfl) (by simp []) (Nat.zero_le _) (by rfl) ?_
    simp only [setAt, AVal.cells, List.set_cons_zero, List.set_cons_succ, Nat.zero_add, Nat.reduceAdd]
    simp +decide only [qa, putD, Slots.keep, if_true, if_false]
    apply hK; clear hK K
    refine qU ?_
    try simp only [Ql, noGotoA_ret]
    refine qO h (Sub.trans_set hsub hr) (?_) ?_
    · simp +decide only [QF, qB, ql, Slots.get, if_true, if_false, and_true, qB, ql, qi XL QR, Qi, qf, List.getD_cons_zero, List.getD_cons_succ, Nat.zero_add, Nat.reduceAdd, qj, allLive, Bool.and_true, qf, List.getD_cons_zero, List.getD_cons_succ, Nat.zero_add, Nat.reduceAdd, qj, allLive, Bool.and_true]
    
    simp +decide only [Slots.get, if_true, if_false, Zo, qB, ql, qi XL QR, Qi, qf, List.getD_cons_zero, List.getD_cons_succ, Nat.zero_add, Nat.reduceAdd, qj, allLive, Bool.and_true, qf, List.getD_cons_zero, List.getD_cons_succ, Nat.zero_add, Nat.reduceAdd, qj, allLive, Bool.and_true]
    exact ⟨.nilSlice, by rw [hres]; rfl, by rw [hres]; exact ⟨[], rfl, .nil, by simp⟩, Sub.refl _⟩
  · skip
    have hres := readE_ok hl hrl hb1
    refine qZ ?_
    change Awp _ _ _ _ _ _ _
    refine qN ?_
    refine awp_rseq [5, 6, 61, 62] (by rfl) fun K hK => ?_
    simp +decide only [qa, ev, qK, qH, putD, Slots.put, Slots.get, Slots.keep, if_true, if_false, true_and, ↓qF, qo, fa72_0, ↓qJ, Qb, qD ag40, ↓Xw, QH, XH Tryz.underlying40, ↓qg, qd, List.getD_cons_zero, Nat.zero_add, lv_slice, rix, QY, hv]
    apply hK; clear hK K
    refine Qt ?_
    refine XW [5, 6, 61, 62] (fun i : Nat => [(5, .ptr (.own kr) 0), (6, .ptr (.own kx) 0), (61, .int .i64 ps.length), (62, .int .i64 i)]) (fun i : Nat => H0.set kc ⟨((psi ps i).map Zb).flatten, 0⟩) (fun i : Nat => i ≤ ps.length) (fun i : Nat => ps.length - i) 0 (by rfl) (by rw [show psi ps 0 = ps from rfl, Zj hkcx]; exact Sub.refl _) (Nat.zero_le _) ?_
    intro i hi
    have hkxi := (AHeap.set_ne H0 ⟨((psi ps i).map Zb).flatten, 0⟩ hne).trans hkx
    have rii := fun o => Xd w₀ hkxi o
    refine awp_rseq [5, 6, 61, 62, 63] (by rfl) fun K hK => ?_
    simp +decide only [qa, ev, putD, Slots.put, Slots.get, Slots.keep, if_true, if_false, true_and, ↓qw, qh, qP, cond_false, qm, pI_lss]
    apply hK; clear hK K
    refine qN (qM (b := _) rfl (fun hb2 => ?_) (fun hb2 => ?_))
    · try simp only [decide_eq_true_eq] at hb2
      have hi' : i < ps.length := by omega
      have hg : ((psi ps i).map Zb).flatten.getD (i * 3 + 2) .dead = (ps[i]).2 := by rw [flat_get _ _ (by rw [psi_len]; exact hi'), psi_get ps i hi']
      have hMi : Sub (Xv M mb) (H0.set kc ⟨((psi ps i).map Zb).flatten, 0⟩) := Sub.trans_set hMk hMM
      have hLi := (hL _ (List.getElem_mem hi')).mono hMi
      have hlv := hLi.live
      have hok : AVal.okIn (fun k => ((H0.set kc ⟨((psi ps i).map Zb).flatten, 0⟩) k).isSome) (capL (ps[i]).2) := okCap hLi
      refine qZ ?_
      change Awp _ _ _ _ _ _ _
      refine qN ?_
      refine Qt ?_
      refine awp_rseq [5, 6, 13, 61, 62] (by rfl) fun K hK => ?_
      simp +decide only [qa, ev, putD, Slots.put, Slots.get, Slots.keep, if_true, if_false, true_and, ↓qg, qd, ↓qc, qb]
      apply hK; clear hK K
      refine awp_draw_F 12 [] mixed (by kernel_rfl) (by rfl) ?_
      simp only [List.take_succ_cons, List.take_zero, List.drop_succ_cons, List.drop_zero]
      simp +decide only [ev, putD, Slots.put, Slots.get, if_true, if_false, true_and, ↓fp_fieldAddr, qo, fa72_0, ↓fp_load, pop_load, qD ag40, ↓fp_move, qd, ↓fp_indexAddr, Qj Tryz.underlying40 sz48, pop_indexAddr, fa48_2, qD ag46, Xa, List.getD_cons_zero, Nat.zero_add, lv_slice, rii, QY, hv, Int.toNat_natCast, hg, hlv]
      repeat (with_reducible refine And.intro ?_ ?_; · first | trivial | omega | (intro hg; simp only [Bool.and_eq_true, Bool.or_eq_true, Bool.not_eq_true', Bool.and_eq_false_iff, Bool.or_eq_false_iff, Bool.not_eq_false', decide_eq_true_eq, decide_eq_false_iff_not, XI] at hg; omega) )
      refine fOps_callV (V := capL (ps[i]).2) (by rfl) (by rfl) (by first | trivial | (simp +decide only [AVal.okIn, okInL, and_true, true_and, QE, markC, posA, cardA, rowA, AHeap.set_same, Option.isSome_some]; done) | (simp [AVal.okIn, okInL, AHeap.set]; done)) (fun g hg => c_clipM w₀ _ _ _ (by first | exact hLi | exact hLi.mono hg)) ?_
      simp +decide only [fOps_nil, ev, putD, Slots.put, Slots.get, if_true, if_false, true_and, ↓fp_indexAddr, Qj Tryz.underlying40 sz48, pop_indexAddr, ↓fp_fieldAddr, qo, fa48_2, Nat.zero_add, Int.toNat_natCast]
      repeat (with_reducible refine And.intro ?_ ?_; · first | trivial | omega | (intro hg; simp only [Bool.and_eq_true, Bool.or_eq_true, Bool.not_eq_true', Bool.and_eq_false_iff, Bool.or_eq_false_iff, Bool.not_eq_false', decide_eq_true_eq, decide_eq_false_iff_not, XI] at hg; omega) )
      have hcl := hLi.clip
      have hset : setAt ((psi ps i).map Zb).flatten (i * 3 + 2) [capL (ps[i]).2] = ((psi ps (i + 1)).map Zb).flatten := by
        rw [flat_set _ _ _ (by rw [psi_len]; exact hi'), psi_get ps i hi', ← psi_next ps i hi']
        rfl
      refine qp (v := capL (ps[i]).2) (by rfl) (by rfl) (AHeap.set_same _ _ _) sz46 hcl.live (by rw [hcl.cells]; rfl) (by simp only []; rw [flat_len3, psi_len]; omega) (Nat.zero_le _) (by rw [hcl.cells]; simp [allScal, hcl.scal]) ?_
      rw [AHeap.set_set, hcl.cells]
      simp only []
      rw [hset]
      simp +decide only [qa, putD]
      change Awp _ _ _ _ _ _ _
      refine Xl [5, 6, 61, 62] (by rfl) ?_
      simp +decide only [qa, ev, qK, qH, putD, Slots.put, Slots.get, Slots.keep, if_true, if_false, true_and, ↓qw, qh, qz, cond_false, qm, Xk, ↓qg, qd]
      try simp (disch := omega) only [wrap_i64]
      try simp only [qR]
      exact ⟨i + 1, rfl, Sub.refl _, by omega, by omega⟩
    · try simp only [decide_eq_false_iff_not] at hb2
      obtain rfl : i = ps.length := by omega
      have hpsi : psi ps ps.length = ps.map clipP := by simp [psi]
      rw [hpsi] at hkxi rii ⊢
      have hlive : ∀ p ∈ ps, IsL w₀ (H0.set kc ⟨((ps.map clipP).map Zb).flatten, 0⟩) 3 (capL p.2) (p.1.marks.map markC) := fun p hp => ((hL p hp).mono (Sub.trans_set hMk hMM)).clip
      have hLc : IsL w₀ (H0.set kc ⟨((ps.map clipP).map Zb).flatten, 0⟩) 3 (.slice (.own kc) 0 ps.length (.grow 3)) ((ps.map clipP).map Zb) := by
        have := IsL.own (w₀ := w₀) (es := 3) (xs := (ps.map clipP).map Zb) (AHeap.set_same H0 kc ⟨((ps.map clipP).map Zb).flatten, 0⟩) (by intro y hy; obtain ⟨p, _, rfl⟩ := List.mem_map.1 hy; rfl) rfl (allLive_flatten.2 (by
          intro y hy
          obtain ⟨p, hp, rfl⟩ := List.mem_map.1 hy
          obtain ⟨q, hq, rfl⟩ := List.mem_map.1 hp
          show (true && (true && ((capL q.2).live && true))) = true
          rw [(hlive q hq).live]
          rfl)) (.grow 3) rfl
        simpa using this
      have hkr' := (AHeap.set_ne H0 ⟨((ps.map clipP).map Zb).flatten, 0⟩ hrc).trans hkr
      refine Ze ?_
      change Awp _ _ _ _ _ _ _
      refine awp_rseq [4, 5] (by rfl) fun K hK => ?_
      simp +decide only [ev, putD, Slots.put, Slots.get, if_true, if_false, true_and, ↓qF, qo, fa72_0, ↓qJ, Qb, qD ag40, List.getD_cons_zero, Nat.zero_add, lv_slice, rii, QY, hv]
      refine qL (V := .slice (.own kc) 0 ps.length (.exact ps.length)) (by rfl) (by rfl) (c_clipC w₀ _ _ _ hLc) ?_
      simp +decide only [ev, qK, qH, putD, Slots.put, Slots.get, if_true, if_false, true_and, ↓Qo, ↓Qa, bld31_, evP, List.map_nil, ↓qc, qb]
      refine qp (v := .agg [.int .i64 0, .int .i64 0, .int .i64 0]) (by rfl) (by rfl) hkr' QR (by rfl) (by rfl) (by simp []) (Nat.zero_le _) (by rfl) ?_
      simp only [setAt, AVal.cells, List.set_cons_zero, List.set_cons_succ, Nat.zero_add, Nat.reduceAdd]
      rw [Zj hkr']
      simp +decide only [qa, putD, Slots.keep, if_true, if_false]
      apply hK; clear hK K
      refine qU ?_
      try simp only [noGotoA_ret]
      refine qO (H0.set kc ⟨((ps.map clipP).map Zb).flatten, 0⟩) (Sub.refl _) (?_) ?_
      · simp +decide only [QF, qB, ql, Slots.get, if_true, if_false, and_true, qB, ql, qi XL QR, qf, List.getD_cons_zero, List.getD_cons_succ, Nat.zero_add, Nat.reduceAdd, qj, allLive, Bool.and_true, qf, List.getD_cons_zero, List.getD_cons_succ, Nat.zero_add, Nat.reduceAdd, qj, allLive, Bool.and_true, Xd w₀ hkr']
      
      simp +decide only [Slots.get, if_true, if_false, Zo, qB, ql, qi XL QR, qf, List.getD_cons_zero, List.getD_cons_succ, Nat.zero_add, Nat.reduceAdd, qj, allLive, Bool.and_true, qf, List.getD_cons_zero, List.getD_cons_succ, Nat.zero_add, Nat.reduceAdd, qj, allLive, Bool.and_true, Xd w₀ hkr']
      exact ⟨_, by rw [hres]; rfl, by rw [hres]; exact ⟨ps.map clipP, by rw [List.map_map]; exact hps, hLc.clip, fun p hp => by obtain ⟨q, hq, rfl⟩ := List.mem_map.1 hp; exact hlive q hq⟩, Sub.trans_set hsub hhc⟩
theorem readEnd (w₀ : World) (h B0 : AHeap) (hs0 : Sub h B0) (kr kx : Nat) (text : Str) (dbg : Bool) (hl : text.length ≤ 1048576) (er : B0 kr = some ⟨[.int .i64 0, .int .i64 0, .int .i64 0], 0⟩) (hr : h kr = none)
    (B M : AHeap) (cb mb : Option Buf) (x : Rd) (ri : RdInv w₀ B0 kx B M cb mb x) (hsm : x.cards.length ≤ 1099511627776) (hrl : XZ dbg (Qp (XK text)) 1 .start = (x, okF)) :
    Awp Tryz.prog w₀ 82 (dropSeq 5 (unScope (dropSeq 1 (bodyOf Tryz.f12)))) (noGotoA (retA Tryz.prog w₀ [.tmp 4, .cell 5 31] (ReadR w₀ h text dbg))) [(5, .ptr (.own kr) 0), (6, .ptr (.own kx) 0)] (rdH kx B cb mb x) := by
  by_cases hc : x.cards = []
  · exact readEnd0 w₀ h B0 hs0 kr kx text dbg hl er hr B M cb mb x ri hc hrl
  · exact readEnd1 w₀ h B0 hs0 kr kx text dbg hl er hr B M cb mb x ri hc hsm hrl
end Go.Proofs.YtmadddihphkmoaaGreatDoor

/-
  Contracts: Read of the package columns: its lines.
  Conditions: none.
-/
namespace Go.Proofs.YtmadddihphkmoaaGreatDoor
open Go.AM
open Go.Proofs
open Go.Col
set_option maxRecDepth 100000

/-- The lines, one after the other. -/
theorem readLoop (w₀ : World) (hm : MaxL w₀) (h B0 : AHeap) (hs0 : Sub h B0) (kr kx ks : Nat) (text : Str) (dbg : Bool) (lines : List Str) (hln : lines = Qp (XK text)) (hl : text.length ≤ 1048576)
    (er : B0 kr = some ⟨[.int .i64 0, .int .i64 0, .int .i64 0], 0⟩) (hr : h kr = none) (es : B0 ks = some ⟨lines.map AVal.str, 0⟩) (hi : RdInv w₀ B0 kx B0 (fun _ => none) none none .start) :
    Awp Tryz.prog w₀ 82 (dropSeq 4 (unScope (dropSeq 1 (bodyOf Tryz.f12)))) (noGotoA (retA Tryz.prog w₀ [.tmp 4, .cell 5 31] (ReadR w₀ h text dbg))) [(1, .bool dbg), (5, .ptr (.own kr) 0), (6, .ptr (.own kx) 0), (7, .slice (.own ks) 0 lines.length (.exact lines.length))] (rdH kx B0 none none .start) := by
  have hnl : lines.length ≤ 1048577 := by
    rw [hln]
    have := splitNL_len (XK text)
    have := trimNL_len text
    omega
  change Awp _ _ _ (Code.seq _ _) _ _ _
  refine qN ?_
  refine awp_rseq [1, 5, 6, 21, 22, 23] (by rfl) fun K hK => ?_
  simp +decide only [qa, ev, qK, qH, putD, Slots.put, Slots.get, Slots.keep, if_true, if_false, true_and, ↓qg, qd, ↓Xw, QH, XH Tryz.underlying64]
  apply hK; clear hK K
  refine Qt ?_
  refine XW [1, 5, 6, 21, 22, 23] (fun g : RdL => [(1, .bool dbg), (5, .ptr (.own kr) 0), (6, .ptr (.own kx) 0), (21, .slice (.own ks) 0 lines.length (.exact lines.length)), (22, .int .i64 lines.length), (23, .int .i64 g.i)]) (fun g : RdL => rdH kx g.B g.cb g.mb g.x) (fun g : RdL => RdInv w₀ B0 kx g.B g.M g.cb g.mb g.x ∧ g.i ≤ lines.length ∧ RdSm g.i g.x ∧ XZ dbg (lines.drop g.i) (g.i + 1) g.x = XZ dbg lines 1 .start) (fun g : RdL => lines.length - g.i) ⟨0, B0, fun _ => none, none, none, .start⟩ (by rfl) (Sub.refl _) ⟨hi, Nat.zero_le _, ⟨by simp [Rd.start], by simp [Rd.start]⟩, rfl⟩ ?_
  rintro ⟨i, B, M, cb, mb, x⟩ ⟨ri, hin, hsm, hrl⟩
  simp only at ri hin hsm hrl ⊢
  have rix := fun o => Xd w₀ ri.at o
  refine awp_rseq [1, 5, 6, 21, 22, 23, 24] (by rfl) fun K hK => ?_
  simp +decide only [qa, ev, putD, Slots.put, Slots.get, Slots.keep, if_true, if_false, true_and, ↓qw, qh, qP, cond_false, qm, pI_lss]
  apply hK; clear hK K
  refine qN (qM (b := _) rfl (fun hb1 => ?_) (fun hb1 => ?_))
  · try simp only [decide_eq_true_eq] at hb1
    have hi' : i < lines.length := by omega
    have eks := ri.above _ _ es
    have rks := fun o => Xd w₀ eks o
    have eg : (lines.map AVal.str).getD i .dead = .str (lines.getD i []) := by simp [List.getD, hi']
    obtain ⟨r, cn, f, hp⟩ : ∃ r cn f, lineE (lines.getD i []) ((i : Int) + 1) dbg = (r, cn, f) := ⟨_, _, _, rfl⟩
    have hsl := lineE_small (s := lines.getD i []) (line := (i : Int) + 1) (dbg := dbg)
    rw [hp] at hsl
    simp only at hsl
    have hlm : (lines.getD i []).length ≤ 1048576 := by
      have h1 := splitNL_mem (XK text) (lines.getD i []) (by rw [← hln, List.getD, List.getElem?_eq_getElem hi']; exact List.getElem_mem hi')
      have h2 := trimNL_len text
      omega
    have hdrop : lines.drop i = lines.getD i [] :: lines.drop (i + 1) := by rw [List.drop_eq_getElem_cons hi']; simp [List.getD, hi']
    refine qZ ?_
    change Awp _ _ _ _ _ _ _
    refine qN ?_
    refine Qt ?_
    refine awp_rseq [1, 5, 6, 8, 9, 21, 22, 23] (by rfl) fun K hK => ?_
    simp +decide only [qa, ev, putD, Slots.put, Slots.get, Slots.keep, if_true, if_false, true_and, ↓qg, qd, ↓QT, Qb, Qj Tryz.underlying64 sz9, ↓qJ, qD ag9, ↓qc, qb, Nat.zero_add, qE, rks, eg, Int.toNat_natCast, Nat.mul_one]
    repeat (with_reducible refine And.intro ?_ ?_; · first | trivial | omega | (intro hg; simp only [Bool.and_eq_true, Bool.or_eq_true, Bool.not_eq_true', Bool.and_eq_false_iff, Bool.or_eq_false_iff, Bool.not_eq_false', decide_eq_true_eq, decide_eq_false_iff_not, XI] at hg; omega) )
    apply hK; clear hK K
    refine awp_rseq [1, 5, 6, 10, 11, 12, 21, 22, 23] (by rfl) fun K hK => ?_
    simp +decide only [ev, qK, qH, putD, Slots.put, Slots.get, if_true, if_false, true_and, ↓qg, qd, ↓qw, qh, qz, cond_false, qm, Xk]
    try simp (disch := omega) only [wrap_i64]
    refine qL (V := .tuple [rowA r, .bool cn, QE f]) (by rfl) (by rfl) ((c_read w₀ _ (lines.getD i []) ((i : Int) + 1) dbg (by omega) (by omega) (by omega)).val (by rw [hp])) ?_
    simp +decide only [ev, putD, Slots.put, Slots.get, if_true, if_false, true_and, ↓qg, qd, ↓QU, QB, QL, List.length_cons, List.length_nil, List.getD_cons_zero, List.getD_cons_succ, List.getD_cons_zero, List.getD_cons_succ, Nat.zero_add, Nat.reduceAdd, QE, rowA]
    refine Qh ze76 (cs := [.int .i64 0, .bool false, .str [], .int .i64 0]) (by rfl) fun k8q9 hk8q9 => ?_
    try have hf_8q9 : (rdH kx B0 none none .start) k8q9 = none := by first | assumption | (simp only [AHeap.set_none] at hk8q9; simp only [hk8q9])
    refine Qh ze31 (cs := [.int .i64 0, .int .i64 0, .int .i64 0]) (by rfl) fun k8q10 hk8q10 => ?_
    have ne_8q10_8q9 : k8q10 ≠ k8q9 := by simp only [AHeap.set_none] at hk8q10; simp only [hk8q10, ne_eq, not_false_eq_true]
    try have hf_8q10 : (rdH kx B0 none none .start) k8q10 = none := by first | assumption | (simp only [AHeap.set_none] at hk8q10; simp only [hk8q10])
    refine qp (by rfl) (by rfl) (by repeat (first | exact AHeap.set_same _ _ _ | assumption | refine (AHeap.set_ne _ _ (by first | assumption | exact Ne.symm (by assumption))).trans ?_)) sz76 (by rfl) (by rfl) (by first | exact Nat.le_refl _ | decide | (simp; done) | (simp; omega)) (Nat.zero_le _) (by rfl) ?_
    simp only [AVal.cells]
    simp +decide only [ev, putD, Slots.put, Slots.get, if_true, if_false, true_and, ↓qc, qb, setAt, List.set_cons_zero, List.set_cons_succ, Nat.zero_add, Nat.reduceAdd]
    refine qp (by rfl) (by rfl) (by repeat (first | exact AHeap.set_same _ _ _ | assumption | refine (AHeap.set_ne _ _ (by first | assumption | exact Ne.symm (by assumption))).trans ?_)) QR (by rfl) (by rfl) (by first | exact Nat.le_refl _ | decide | (simp; done) | (simp; omega)) (Nat.zero_le _) (by rfl) ?_
    simp only [AVal.cells]
    simp +decide only [qa, ev, putD, Slots.get, Slots.keep, if_true, if_false, setAt, List.set_cons_zero, List.set_cons_succ, Nat.zero_add, Nat.reduceAdd]
    apply hK; clear hK K
    refine qN ?_
    have hnorm : ((((rdH kx B cb mb x).set k8q9 ⟨[.int .i64 0, .bool false, .str [], .int .i64 0], 0⟩).set k8q10 ⟨[.int .i64 0, .int .i64 0, .int .i64 0], 0⟩).set k8q9 ⟨[.int .i64 r.line, .bool r.more, .str r.text, .int .i64 r.col], 0⟩).set k8q10 ⟨[.int .i64 f.e, .int .i64 f.line, .int .i64 f.col], 0⟩ = ((rdH kx B cb mb x).set k8q9 ⟨[.int .i64 r.line, .bool r.more, .str r.text, .int .i64 r.col], 0⟩).set k8q10 ⟨[.int .i64 f.e, .int .i64 f.line, .int .i64 f.col], 0⟩ := by
      rw [AHeap.set_comm ((rdH kx B cb mb x).set k8q9 ⟨[.int .i64 0, .bool false, .str [], .int .i64 0], 0⟩) _ _ ne_8q10_8q9.symm, AHeap.set_set, AHeap.set_set]
    rw [hnorm]
    obtain ⟨a1, a2, a3, a4⟩ := rdH_new ri hk8q9 ⟨[.int .i64 r.line, .bool r.more, .str r.text, .int .i64 r.col], 0⟩
    have hk2 : rdH kx (B.set k8q9 ⟨[.int .i64 r.line, .bool r.more, .str r.text, .int .i64 r.col], 0⟩) cb mb x k8q10 = none := by
      rw [← a1, AHeap.set_ne _ _ ne_8q10_8q9]
      rwa [AHeap.set_ne _ _ ne_8q10_8q9] at hk8q10
    obtain ⟨b1, b2, b3, b4⟩ := rdH_new a2 hk2 ⟨[.int .i64 f.e, .int .i64 f.line, .int .i64 f.col], 0⟩
    rw [a1, b1]
    obtain ⟨B₁, hB₁⟩ : ∃ B₁, B₁ = (B.set k8q9 ⟨[.int .i64 r.line, .bool r.more, .str r.text, .int .i64 r.col], 0⟩).set k8q10 ⟨[.int .i64 f.e, .int .i64 f.line, .int .i64 f.col], 0⟩ := ⟨_, rfl⟩
    rw [← hB₁] at b2 ⊢
    have e0 : B₁ k8q9 = some ⟨[.int .i64 r.line, .bool r.more, .str r.text, .int .i64 r.col], 0⟩ := by rw [hB₁, AHeap.set_ne _ _ ne_8q10_8q9.symm, AHeap.set_same]
    have e1 : B₁ k8q10 = some ⟨[.int .i64 f.e, .int .i64 f.line, .int .i64 f.col], 0⟩ := by rw [hB₁, AHeap.set_same]
    have hB8 : B k8q10 = none := by rwa [AHeap.set_ne _ _ ne_8q10_8q9] at b4
    have s0 := fun o => Xd w₀ (b2.other e0) o
    have s1 := fun o => Xd w₀ (b2.other e1) o
    refine awp_rseq [1, 5, 6, 10, 12, 21, 22, 23, 43] (by rfl) fun K hK => ?_
    simp +decide only [qa, ev, qK, qH, putD, Slots.put, Slots.get, Slots.keep, if_true, if_false, true_and, ↓qJ, Qb, qi XL QR, ↓Qo, ↓Qa, bld31_, evP, List.map_nil, ↓qw, qh, qP, cond_false, pBinX_agg, eq31, ↓qg, qd, ↓Xf, agP, Qm, qI, qG, qy, implies_true, Bool.and_true, ↓ag_unOp, pop_unOp, pU_not, cv_un, cp_un, ↓QN, Qw, Qg, QZ, Xj, qf, List.getD_cons_zero, List.getD_cons_succ, Nat.zero_add, Nat.reduceAdd, qj, allLive, Bool.and_true, s1, faultA_eq]
    apply hK; clear hK K
    refine qM (b := _) rfl (fun hb2 => ?_) (fun hb2 => ?_)
    · try simp only [decide_eq_true_eq, Bool.not_eq_true', Bool.and_eq_true] at hb2
      have iz := b2
      have gz := hsm.next
      have lz : XZ dbg (lines.drop (i + 1)) (((i + 1 : Nat) : Int) + 1) x = XZ dbg lines 1 .start := by
        rw [← hrl, hdrop, readL_skip (by rw [hp, hb2.2]) hb2.1]
        rfl
      refine Ze ?_
      change Awp _ _ _ _ _ _ _
      refine Xl [1, 5, 6, 21, 22, 23] (by rfl) ?_
      simp +decide only [qa, ev, qK, qH, putD, Slots.put, Slots.get, Slots.keep, if_true, if_false, true_and, ↓qw, qh, qz, cond_false, qm, Xk, ↓qg, qd]
      try simp (disch := omega) only [wrap_i64]
      try simp only [qR]
      exact ⟨⟨i + 1, _, _, _, _, _⟩, rfl, Sub.refl _, ⟨iz, by simp only; omega, gz, lz⟩, by simp only; omega⟩
    · try simp only [decide_eq_false_iff_not, Bool.not_eq_false', Bool.and_eq_false_iff] at hb2
      refine qZ ?_
      change Awp _ _ _ _ _ _ _
      refine qN ?_
      refine awp_rseq [1, 5, 6, 10, 12, 21, 22, 23, 46] (by rfl) fun K hK => ?_
      simp +decide only [qa, ev, qK, qH, putD, Slots.put, Slots.get, Slots.keep, if_true, if_false, true_and, ↓qJ, Qb, qi XL QR, ↓Qo, ↓Qa, bld31_, evP, List.map_nil, ↓qw, qh, qP, cond_false, pBinX_agg, eq31, qf, List.getD_cons_zero, List.getD_cons_succ, Nat.zero_add, Nat.reduceAdd, qj, allLive, Bool.and_true, s1, faultA_eq]
      apply hK; clear hK K
      refine qM (b := _) rfl (fun hb3 => ?_) (fun hb3 => ?_)
      · try simp only [decide_eq_true_eq] at hb3
        have hcn : cn = true := by
          cases hcn : cn with
          | true => rfl
          | false =>
            rcases hb2 with e | e
            · exact absurd hb3 e
            · rw [hcn] at e
              cases e
        subst hcn
        refine Xl [1, 5, 6, 12, 21, 22, 23] (by rfl) ?_
        simp +decide only [ev, putD, Slots.put, Slots.get, if_true, if_false, true_and, ↓qJ, Qb, qi ag76 sz76, qf, List.getD_cons_zero, List.getD_cons_succ, Nat.zero_add, Nat.reduceAdd, qC, qj, qE, allLive, Bool.and_true, s0]
        refine Xp (by rfl) (by rfl) (c_take w₀ B0 kx B₁ M cb mb x b2 r (fun c hc => by have := hsm.small c hc; omega) (by have := hsm.many; omega) (by omega) (hsl.2 rfl).1 (hsl.2 rfl).2.1 (by have := (hsl.2 rfl).2.2; omega)) fun x11q1 h11q1 hx11q1 => ?_
        obtain ⟨ex, B', M', cb', mb', rfl, i2, s2, m2⟩ := hx11q1
        obtain ⟨fz, hfz⟩ : ∃ fz, fz = (takeE x r).2 := ⟨_, rfl⟩
        rw [← hfz] at ex
        subst ex
        have hM8 : M' k8q10 = none := m2 _ (by rw [e1]; simp) (ri.subM.none hB8)
        obtain ⟨c1, iz⟩ := i2.put (s2 _ _ e1) (ri.sub.none hB8) hM8 ⟨[.int .i64 fz.e, .int .i64 fz.line, .int .i64 fz.col], 0⟩
        have gz := takeE_small hsm (r := r) (by omega)
        refine qp (v := .agg [.int .i64 fz.e, .int .i64 fz.line, .int .i64 fz.col]) (by rfl) (by rfl) (i2.other (s2 _ _ e1)) QR (by rfl) (by rfl) (by simp []) (Nat.zero_le _) (by rfl) ?_
        simp only [setAt, AVal.cells, List.set_cons_zero, List.set_cons_succ, Nat.zero_add, Nat.reduceAdd]
        rw [c1]
        have ez := AHeap.set_same B' k8q10 ⟨[.int .i64 fz.e, .int .i64 fz.line, .int .i64 fz.col], 0⟩
        simp +decide only [qa, putD, Slots.put, Slots.keep, if_true, if_false, QE]
        change Awp _ _ _ _ _ _ _
        refine awp_rseq [1, 5, 6, 12, 21, 22, 23, 51] (by rfl) fun K hK => ?_
        simp +decide only [qa, ev, qK, qH, putD, Slots.put, Slots.get, Slots.keep, if_true, if_false, true_and, ↓qJ, Qb, qi XL QR, ↓Qo, ↓Qa, bld31_, evP, List.map_nil, ↓qw, qh, qP, cond_false, pBinX_agg, ne31, qf, List.getD_cons_zero, List.getD_cons_succ, Nat.zero_add, Nat.reduceAdd, qj, allLive, Bool.and_true, Xd w₀ (iz.other ez), faultA_eq]
        apply hK; clear hK K
        refine qM (b := _) rfl (fun hb4 => ?_) (fun hb4 => ?_)
        · try simp only [decide_eq_false_iff_not, Bool.not_eq_true'] at hb4
          have hres := readE_fault (text := text) (dbg := dbg) hl (by rw [← hln, ← hrl, hdrop, readL_bad hp hb3 (by rw [← hfz]; exact hb4)]) (by rw [← hfz]; exact hb4)
          rw [← hfz] at hres
          refine awp_dseq_tail 2 [4, 5] mixed (by kernel_rfl) (by rfl) (by rfl) fun K hK => ?_
          simp +decide only [ev, qK, qH, putD, Slots.put, Slots.get, if_true, if_false, true_and, ↓qJ, Qb, qi XL QR, ↓qc, qb, qf, List.getD_cons_zero, List.getD_cons_succ, Nat.zero_add, Nat.reduceAdd, qj, allLive, Bool.and_true, Xd w₀ (iz.other ez)]
          refine qp (v := .agg [.int .i64 fz.e, .int .i64 fz.line, .int .i64 fz.col]) (by rfl) (by rfl) (iz.other (iz.sub _ _ er)) QR (by rfl) (by rfl) (by simp []) (Nat.zero_le _) (by rfl) ?_
          simp only [setAt, AVal.cells, List.set_cons_zero, List.set_cons_succ, Nat.zero_add, Nat.reduceAdd]
          simp +decide only [qa, putD, Slots.keep, if_true, if_false]
          apply hK; clear hK K
          refine qU ?_
          try simp only [Ql, QA, noGotoA_ret]
          refine qO h (Sub.trans_set (hs0.trans iz.above) hr) (?_) ?_
          · simp +decide only [QF, qB, ql, Slots.get, if_true, if_false, and_true, qB, ql, qi XL QR, Qi, qf, List.getD_cons_zero, List.getD_cons_succ, Nat.zero_add, Nat.reduceAdd, qj, allLive, Bool.and_true, qf, List.getD_cons_zero, List.getD_cons_succ, Nat.zero_add, Nat.reduceAdd, qj, allLive, Bool.and_true]
          
          simp +decide only [Slots.get, if_true, if_false, Zo, qB, ql, qi XL QR, Qi, qf, List.getD_cons_zero, List.getD_cons_succ, Nat.zero_add, Nat.reduceAdd, qj, allLive, Bool.and_true, qf, List.getD_cons_zero, List.getD_cons_succ, Nat.zero_add, Nat.reduceAdd, qj, allLive, Bool.and_true]
          exact ⟨.nilSlice, by rw [hres]; rfl, by rw [hres]; exact ⟨[], rfl, .nil, by simp⟩, Sub.refl _⟩
        · try simp only [decide_eq_true_eq, Bool.not_eq_false'] at hb4
          have lz : XZ dbg (lines.drop (i + 1)) (((i + 1 : Nat) : Int) + 1) (takeE x r).1 = XZ dbg lines 1 .start := by
            rw [← hrl, hdrop, readL_take hp hb3 (by rw [← hfz]; exact hb4)]
            rfl
          refine qZ ?_
          change Awp _ _ _ _ _ _ _
          refine Xl [1, 5, 6, 21, 22, 23] (by rfl) ?_
          simp +decide only [qa, ev, qK, qH, putD, Slots.put, Slots.get, Slots.keep, if_true, if_false, true_and, ↓qw, qh, qz, cond_false, qm, Xk, ↓qg, qd]
          try simp (disch := omega) only [wrap_i64]
          try simp only [qR]
          exact ⟨⟨i + 1, _, _, _, _, _⟩, rfl, Sub.refl _, ⟨iz, by simp only; omega, gz, lz⟩, by simp only; omega⟩
      · try simp only [decide_eq_false_iff_not] at hb3
        have iz := b2
        have ez := e1
        obtain ⟨fz, hfz⟩ : ∃ fz, fz = f := ⟨_, rfl⟩
        subst hfz
        refine qZ ?_
        change Awp _ _ _ _ _ _ _
        refine awp_rseq [1, 5, 6, 12, 21, 22, 23, 51] (by rfl) fun K hK => ?_
        simp +decide only [qa, ev, qK, qH, putD, Slots.put, Slots.get, Slots.keep, if_true, if_false, true_and, ↓qJ, Qb, qi XL QR, ↓Qo, ↓Qa, bld31_, evP, List.map_nil, ↓qw, qh, qP, cond_false, pBinX_agg, ne31, qf, List.getD_cons_zero, List.getD_cons_succ, Nat.zero_add, Nat.reduceAdd, qj, allLive, Bool.and_true, s1, faultA_eq]
        apply hK; clear hK K
        refine qM (b := _) rfl (fun hb5 => ?_) (fun hb5 => ?_)
        · try simp only [decide_eq_false_iff_not, Bool.not_eq_true'] at hb5
          have hres := readE_fault (text := text) (dbg := dbg) hl (by rw [← hln, ← hrl, hdrop, readL_fault hp hb3]) hb3
          refine awp_dseq_tail 2 [4, 5] mixed (by kernel_rfl) (by rfl) (by rfl) fun K hK => ?_
          simp +decide only [ev, qK, qH, putD, Slots.put, Slots.get, if_true, if_false, true_and, ↓qJ, Qb, qi XL QR, ↓qc, qb, qf, List.getD_cons_zero, List.getD_cons_succ, Nat.zero_add, Nat.reduceAdd, qj, allLive, Bool.and_true, s1]
          refine qp (v := .agg [.int .i64 fz.e, .int .i64 fz.line, .int .i64 fz.col]) (by rfl) (by rfl) (iz.other (iz.sub _ _ er)) QR (by rfl) (by rfl) (by simp []) (Nat.zero_le _) (by rfl) ?_
          simp only [setAt, AVal.cells, List.set_cons_zero, List.set_cons_succ, Nat.zero_add, Nat.reduceAdd]
          simp +decide only [qa, putD, Slots.keep, if_true, if_false]
          apply hK; clear hK K
          refine qU ?_
          try simp only [Ql, QA, noGotoA_ret]
          refine qO h (Sub.trans_set (hs0.trans iz.above) hr) (?_) ?_
          · simp +decide only [QF, qB, ql, Slots.get, if_true, if_false, and_true, qB, ql, qi XL QR, Qi, qf, List.getD_cons_zero, List.getD_cons_succ, Nat.zero_add, Nat.reduceAdd, qj, allLive, Bool.and_true, qf, List.getD_cons_zero, List.getD_cons_succ, Nat.zero_add, Nat.reduceAdd, qj, allLive, Bool.and_true]
          
          simp +decide only [Slots.get, if_true, if_false, Zo, qB, ql, qi XL QR, Qi, qf, List.getD_cons_zero, List.getD_cons_succ, Nat.zero_add, Nat.reduceAdd, qj, allLive, Bool.and_true, qf, List.getD_cons_zero, List.getD_cons_succ, Nat.zero_add, Nat.reduceAdd, qj, allLive, Bool.and_true]
          exact ⟨.nilSlice, by rw [hres]; rfl, by rw [hres]; exact ⟨[], rfl, .nil, by simp⟩, Sub.refl _⟩
        · try simp only [decide_eq_true_eq, Bool.not_eq_false'] at hb5
          exact absurd hb5 hb3
  · try simp only [decide_eq_false_iff_not] at hb1
    obtain rfl : i = lines.length := by omega
    have hdone : XZ dbg (Qp (XK text)) 1 .start = (x, okF) := by
      rw [← hln, ← hrl, List.drop_length]
      rfl
    refine Ze ?_
    change Awp _ _ _ _ _ _ _
    refine Awp.keep [5, 6] ?_
    exact readEnd w₀ h B0 hs0 kr kx text dbg hl er hr B M cb mb x ri (by have := hsm.many; omega) hdone

theorem readE_long {text : Str} {dbg : Bool} (hl : 1048576 < text.length) : readE text dbg = ([], ⟨3, 0, 0⟩) := by
  unfold readE
  rw [if_pos hl]
theorem c_Read (w₀ : World) (hm : MaxL w₀) (h : AHeap) (text : Str) (dbg : Bool) (hl : text.length ≤ 9223372036854775807) : ACall Tryz.prog w₀ 12 [.str text, .bool dbg] h (ReadR w₀ h text dbg) := by
  refine qY (n := 82) (rs := [.tmp 4, .cell 5 31]) Tryz.func12 rfl rfl rfl rfl (Nat.le_of_ble_eq_true rfl) ?_
  simp only [Qf]
  refine awp_rseq [0, 1, 5] (by rfl) fun K hK => ?_
  simp +decide only [ev, qK, qH, putD, Slots.put, if_false, true_and, ↓qc, qb, Nat.zero_add]
  refine Qh ze31 (cs := [.int .i64 0, .int .i64 0, .int .i64 0]) (by rfl) fun k0q1 hk0q1 => ?_
  try have hf_0q1 : h k0q1 = none := by first | assumption | (simp only [AHeap.set_none] at hk0q1; simp only [hk0q1])
  simp +decide only [qa, putD, Slots.put, Slots.keep, if_true, if_false]
  apply hK; clear hK K
  refine awp_scope ?_
  refine qN ?_
  refine awp_rseq [0, 1, 5, 16] (by rfl) fun K hK => ?_
  simp +decide only [qa, ev, qK, qH, putD, Slots.put, Slots.get, Slots.keep, if_true, if_false, true_and, ↓qg, qd, ↓Xw, QH, Zk Tryz.underlying9, ↓qw, qh, qz, cond_false, qm, pI_gtr]
  apply hK; clear hK K
  refine qM (b := _) rfl (fun hb1 => ?_) (fun hb1 => ?_)
  · try simp only [decide_eq_true_eq] at hb1
    refine awp_rseq [4, 5] (by rfl) fun K hK => ?_
    simp +decide only [ev, qK, qH, putD, Slots.put, Slots.get, if_true, if_false, true_and, ↓Qo, ↓Qa, bld31_0, evP, List.map_cons, List.map_nil, ↓qc, qb]
    refine qp (by rfl) (by rfl) (by repeat (first | exact AHeap.set_same _ _ _ | assumption | refine (AHeap.set_ne _ _ (by first | assumption | exact Ne.symm (by assumption))).trans ?_)) QR (by rfl) (by rfl) (by first | exact Nat.le_refl _ | decide | (simp; done) | (simp; omega)) (Nat.zero_le _) (by rfl) ?_
    simp only [AHeap.set_set, AVal.cells]
    simp +decide only [qa, ev, putD, Slots.get, Slots.keep, if_true, if_false, setAt, List.set_cons_zero, List.set_cons_succ, Nat.zero_add, Nat.reduceAdd]
    apply hK; clear hK K
    refine qU ?_
    try simp only [Ql, noGotoA_ret]
    refine qO h (by repeat (first | exact Sub.refl _ | assumption | refine Sub.trans_set ?_ (by assumption))) (?_) ?_
    · simp +decide only [QF, qB, ql, Slots.get, if_true, if_false, and_true, qB, ql, qi XL QR, Qi, qf, List.getD_cons_zero, List.getD_cons_succ, Nat.zero_add, Nat.reduceAdd, qj, allLive, Bool.and_true, qf, List.getD_cons_zero, List.getD_cons_succ, Nat.zero_add, Nat.reduceAdd, qj, allLive, Bool.and_true]
    
    simp +decide only [Slots.get, if_true, if_false, Zo, qB, ql, qi XL QR, Qi, qf, List.getD_cons_zero, List.getD_cons_succ, Nat.zero_add, Nat.reduceAdd, qj, allLive, Bool.and_true, qf, List.getD_cons_zero, List.getD_cons_succ, Nat.zero_add, Nat.reduceAdd, qj, allLive, Bool.and_true]
    have hb : 1048576 < text.length := by omega
    exact ⟨.nilSlice, by rw [readE_long hb]; rfl, by rw [readE_long hb]; exact ⟨[], rfl, .nil, by simp⟩, Sub.refl _⟩
  · try simp only [decide_eq_false_iff_not] at hb1
    refine qZ ?_
    change Awp _ _ _ _ _ _ _
    refine awp_rseq [0, 1, 5, 6] (by rfl) fun K hK => ?_
    refine Qh ze72 (cs := [.nilSlice, .int .i64 0, .int .i64 0, .bool false]) (by rfl) fun k3q0 hk3q0 => ?_
    have ne_3q0_0q1 : k3q0 ≠ k0q1 := by simp only [AHeap.set_none] at hk3q0; simp only [hk3q0, ne_eq, not_false_eq_true]
    try have hf_3q0 : h k3q0 = none := by first | assumption | (simp only [AHeap.set_none] at hk3q0; simp only [hk3q0])
    simp +decide only [qa, putD, Slots.put, Slots.keep, if_true, if_false]
    apply hK; clear hK K
    refine awp_rseq [1, 5, 6, 7] (by rfl) fun K hK => ?_
    simp +decide only [ev, putD, Slots.put, Slots.get, if_true, if_false, true_and, ↓qg, qd]
    refine qL (V := .str (XK text)) (by rfl) (by rfl) (c_trimNL w₀ _ text hl) ?_
    refine Xp (by rfl) (by rfl) (c_split w₀ hm _ (XK text) (by have := trimNL_len text; omega)) fun x4q2 h4q2 hx4q2 => ?_
    obtain ⟨ks, hks, rfl, rfl⟩ := hx4q2
    simp +decide only [qa, ev, putD, Slots.put, Slots.get, Slots.keep, if_true, if_false, true_and, ↓qc, qb]
    apply hK; clear hK K
    refine qN ?_
    refine awp_label ?_
    change Awp _ _ _ _ _ _ _
    obtain ⟨nks, _, hks2⟩ := (AHeap.set_none _ _ _ _).mp hks
    obtain ⟨nkr, _, hks3⟩ := (AHeap.set_none _ _ _ _).mp hks2
    have nkx : k3q0 ≠ k0q1 := ((AHeap.set_none _ _ _ _).mp hk3q0).1
    have hcomm : ((h.set k0q1 ⟨[.int .i64 0, .int .i64 0, .int .i64 0], 0⟩).set k3q0 ⟨[.nilSlice, .int .i64 0, .int .i64 0, .bool false], 0⟩).set ks ⟨(Qp (XK text)).map AVal.str, 0⟩ = rdH k3q0 ((h.set k0q1 ⟨[.int .i64 0, .int .i64 0, .int .i64 0], 0⟩).set ks ⟨(Qp (XK text)).map AVal.str, 0⟩) none none .start := AHeap.set_comm _ _ _ nks
    rw [hcomm]
    exact readLoop w₀ hm h _ (by repeat (first | exact Sub.refl _ | assumption | refine Sub.set_both ?_ _ _ | refine Sub.trans_set ?_ (by repeat (first | assumption | refine (AHeap.set_ne _ _ (by first | assumption | exact Ne.symm (by assumption))).trans ?_)))) k0q1 k3q0 ks text dbg (Qp (XK text)) rfl (by omega) ((AHeap.set_ne _ _ nkr.symm).trans (AHeap.set_same _ _ _)) hk0q1 (AHeap.set_same _ _ _) ⟨Sub.refl _, (fun _ _ e => by cases e), (AHeap.set_ne _ _ nks.symm).trans hk3q0, trivial, trivial, .inl ⟨rfl, rfl, rfl⟩⟩
end Go.Proofs.YtmadddihphkmoaaGreatDoor

/-
  Contracts: Scan, Source of the package tokens.
  Conditions: none.
-/
namespace Go.Proofs.YtmadddihphkmoaaGreatDoor
open Go.AM
open Go.Proofs
open Go.Col
open Go.Tok
open Go.RowKit (Below)
set_option maxRecDepth 100000

theorem cardT_nth {w₀ : World} {h : AHeap} {l : AM.Loc} {o n : Nat} {cp : Cap} {cs : List CardC} (hc : IsCards w₀ h (.slice l o n cp) cs) {i : Nat} (hi : i < cs.length) :
    ∃ mv, IsL w₀ h 3 mv ((cs.getD i ⟨false, [], []⟩).marks.map markC) ∧ rd w₀ h l (o + i * 3) = .bool (cs.getD i ⟨false, [], []⟩).left ∧ rd w₀ h l (o + i * 3 + 1) = .str (cs.getD i ⟨false, [], []⟩).text ∧ rd w₀ h l (o + i * 3 + 2) = mv := by
  obtain ⟨ps, rfl, h2, h3⟩ := hc
  rw [List.length_map] at hi
  have he := h2.elem (i := i) (by rw [List.length_map]; exact hi)
  rw [getD_map (⟨false, [], []⟩, .dead) hi] at he
  have hg : (ps.map (·.1)).getD i ⟨false, [], []⟩ = (ps.getD i (⟨false, [], []⟩, .dead)).1 := by
    simp [List.getD, hi]
  rw [hg]
  have hm : ps.getD i (⟨false, [], []⟩, .dead) ∈ ps := by rw [List.getD, List.getElem?_eq_getElem hi]; exact List.getElem_mem hi
  simp only [qf, Zb, List.cons.injEq, and_true] at he
  exact ⟨_, h3 _ hm, he.1, he.2.1, he.2.2⟩
theorem rd_subT {w₀ : World} {h h' : AHeap} {l : AM.Loc} {o : Nat} {v : AVal} (hv : rd w₀ h l o = v) (hl : v.live = true) (hs : Sub h h') : rd w₀ h' l o = v := by
  have := cellsAt_mono (w₀ := w₀) (l := l) hs 1 o (by simp only [qf, AM.allLive, hv, hl, Bool.and_true])
  simp only [qf, List.cons.injEq, and_true] at this
  rw [this, hv]
theorem IsCards.liveT {w₀ : World} {h : AHeap} {v : AVal} {cs : List CardC} (hc : IsCards w₀ h v cs) : v.live = true := by
  obtain ⟨ps, rfl, h2, h3⟩ := hc
  exact h2.live
theorem IsCards.lenT {w₀ : World} {h : AHeap} {v : AVal} {cs : List CardC} (hc : IsCards w₀ h v cs) : pLen Tryz.prog 40 v = ⟨True, .int .i64 cs.length⟩ := by
  obtain ⟨ps, rfl, h2, h3⟩ := hc
  have := h2.len Tryz.underlying40
  rw [List.length_map] at this ⊢
  exact this
theorem IsCards.openT {w₀ : World} {h : AHeap} {v : AVal} {cs : List CardC} (hc : IsCards w₀ h v cs) (hn : 0 < cs.length) : ∃ l o c, v = .slice l o cs.length c := by
  obtain ⟨ps, rfl, h2, h3⟩ := hc
  obtain ⟨l, o, c, e⟩ := h2.open (fun e => by rw [List.map_eq_nil_iff] at e; subst e; simp at hn)
  rw [List.length_map] at e ⊢
  exact ⟨l, o, c, e⟩
theorem scanGo_next {cs : List CardC} {i : Nat} (hi : i < cs.length) (l : List TokC) : scanGo (cs.drop i) l = if (cardT (cs.getD i ⟨false, [], []⟩) l).2 ≠ okF then ([], (cardT (cs.getD i ⟨false, [], []⟩) l).2) else scanGo (cs.drop (i + 1)) (cardT (cs.getD i ⟨false, [], []⟩) l).1 := by
  rw [List.drop_eq_getElem_cons hi, scanGo]
  simp [List.getD, hi]
theorem Sub.bufBoth {h h' : AHeap} {b : Option Buf} (hs : Sub h h') : Sub (Xv h b) (Xv h' b) := by
  cases b with
  | none => exact hs
  | some b => exact Sub.set_both hs _ _
/-- What Scan answers: the tokens lie in one new block. -/
def ScanR (h : AHeap) (R : List TokC × FaultC) (v : AVal) (h' : AHeap) : Prop := ∃ tb, v = .tuple [capL (XM 5 tb), QE R.2] ∧ bufOk h 5 tb ∧ bufC tb = (R.1.map Zc).flatten ∧ h' = Xv h tb
theorem ScanR.toks {w₀ : World} {h h' : AHeap} {R : List TokC × FaultC} {v : AVal} (hr : ScanR h R v h') : ∃ tv, v = .tuple [capL tv, QE R.2] ∧ IsL w₀ h' 5 (capL tv) (R.1.map Zc) ∧ Sub h h' := by
  obtain ⟨tb, rfl, h1, h2, rfl⟩ := hr
  exact ⟨XM 5 tb, rfl, (IsL.buf h1 (by decide) h2 tokC_wide (Sub.refl _)).clip, Sub.buf h1⟩
structure SnG where
  i : Nat
  l : List TokC
  tb : Option Buf
  lf : Bool
  s : Str
  mv : AVal
  at0 : Nat
structure SnOk (kx : Nat) (B : AHeap) (cs : List CardC) (g : SnG) : Prop where
  inv : ScInv kx B g.tb g.l
  i : g.i ≤ cs.length
  eq : scanGo (cs.drop g.i) g.l = scanE cs
  len : g.l.length ≤ 65536
theorem c_clipT (w₀ : World) (h : AHeap) (v : AVal) (xs : List (List AVal)) (hv : IsL w₀ h 5 v xs) : ACall Tryz.prog w₀ 34 [v] h (fun r h' => r = capL v ∧ h' = h) := by
  have hlen := hv.len Tryz.underlying25
  have h3 := hv.slice3 Tryz.underlying25 Xi .i64 .i64 none rfl
  refine qY (n := 9) (rs := [.tmp 2]) Tryz.func34 rfl rfl rfl rfl (Nat.le_of_ble_eq_true rfl) ?_
  simp only [Qf]
  refine awp_rseq [0] (by rfl) fun K hK => ?_
  simp +decide only [qa, ev, qK, qH, putD, Slots.put, Slots.keep, if_true, if_false, true_and, ↓qc, qb]
  apply hK; clear hK K
  refine awp_rseq [2] (by rfl) fun K hK => ?_
  simp +decide only [qa, ev, putD, Slots.put, Slots.get, Slots.keep, if_true, if_false, true_and, ↓qg, qd, ↓Xw, QH, ↓ap_slice, pop_slice, evO, ↓qc, qb, hlen, h3]
  apply hK; clear hK K
  refine qU ?_
  refine qO _ (Sub.refl _) (Qd (Qe)) ?_
  simp +decide only [Slots.get, if_true, and_true, QD]
  all_goals first | rfl | exact ⟨rfl, rfl⟩ | (simp +decide only [if_true, if_false, *]; done) | (trace_state; fail)
set_option maxHeartbeats 1000000 in
theorem c_Scan (w₀ : World) (h : AHeap) (v : AVal) (cs : List CardC) (hc : IsCards w₀ h v cs) (hn : cs.length ≤ 4611686018427387904) (hsm : ∀ c ∈ cs, c.text.length ≤ 1099511627776 ∧ c.marks.length ≤ 4611686018427387904) :
    ACall Tryz.prog w₀ 14 [v] h (ScanR h (scanE cs)) := by
  have hlv := hc.liveT
  have hln := hc.lenT
  refine qY (n := 27) (rs := [.tmp 2, .cell 3 31]) Tryz.func14 rfl rfl rfl rfl (Nat.le_of_ble_eq_true rfl) ?_
  simp only [Qf]
  refine awp_rseq [0, 3] (by rfl) fun K hK => ?_
  simp +decide only [ev, qK, qH, putD, Slots.put, if_false, true_and, ↓qc, qb]
  refine Qh ze31 (cs := [.int .i64 0, .int .i64 0, .int .i64 0]) (by rfl) fun k0q1 hk0q1 => ?_
  try have hf_0q1 : h k0q1 = none := by first | assumption | (simp only [AHeap.set_none] at hk0q1; simp only [hk0q1])
  simp +decide only [qa, putD, Slots.put, Slots.keep, if_true, if_false]
  apply hK; clear hK K
  refine awp_rseq [0, 3, 4] (by rfl) fun K hK => ?_
  refine Qh ze89 (cs := [.bool false, .str [], .nilSlice, .int .i64 0, .nilSlice]) (by rfl) fun k1q0 hk1q0 => ?_
  have ne_1q0_0q1 : k1q0 ≠ k0q1 := by simp only [AHeap.set_none] at hk1q0; simp only [hk1q0, ne_eq, not_false_eq_true]
  try have hf_1q0 : h k1q0 = none := by first | assumption | (simp only [AHeap.set_none] at hk1q0; simp only [hk1q0])
  simp +decide only [qa, putD, Slots.put, Slots.keep, if_true, if_false]
  obtain ⟨B, hB⟩ : ∃ B, B = h.set k0q1 ⟨[.int .i64 0, .int .i64 0, .int .i64 0], 0⟩ := ⟨_, rfl⟩
  have hBs : Sub h B := by rw [hB]; exact Sub.set hk0q1
  have hBk : B k0q1 = some ⟨[.int .i64 0, .int .i64 0, .int .i64 0], 0⟩ := by rw [hB]; exact AHeap.set_same _ _ _
  rw [← hB] at hk1q0 ⊢
  apply hK; clear hK K
  refine qN ?_
  refine awp_rseq [3, 4, 8, 9, 10] (by rfl) fun K hK => ?_
  simp +decide only [qa, ev, qK, qH, putD, Slots.put, Slots.get, Slots.keep, if_true, if_false, true_and, ↓qg, qd, ↓Xw, QH, hln]
  apply hK; clear hK K
  refine Qt ?_
  refine XW [3, 4, 8, 9, 10] (fun g : SnG => [(3, .ptr (.own k0q1) 0), (4, .ptr (.own k1q0) 0), (8, v), (9, .int .i64 cs.length), (10, .int .i64 g.i)]) (fun g : SnG => scH k1q0 B g.tb g.lf g.s g.mv g.at0) (fun g : SnG => SnOk k1q0 B cs g) (fun g : SnG => cs.length - g.i) ⟨0, [], none, false, [], .nilSlice, 0⟩ (by rfl) (Sub.refl _) ⟨⟨hk1q0, fun _ => trivial, rfl⟩, Nat.zero_le _, rfl, Nat.zero_le _⟩ ?_
  rintro ⟨i, l, tb, lf0, s0, mv0, at0⟩ ⟨i1, i2, i3, i4⟩
  simp only at i1 i2 i3 i4 ⊢
  have hSb : Sub h (scH k1q0 B tb lf0 s0 mv0 at0) := hBs.trans i1.above
  refine awp_rseq [3, 4, 8, 9, 10, 11] (by rfl) fun K hK => ?_
  simp +decide only [qa, ev, putD, Slots.put, Slots.get, Slots.keep, if_true, if_false, true_and, ↓qw, qh, qP, cond_false, qm, pI_lss]
  apply hK; clear hK K
  refine qN (qM (b := _) rfl (fun hb1 => ?_) (fun hb1 => ?_))
  · try simp only [decide_eq_true_eq] at hb1
    have hi : i < cs.length := by omega
    obtain ⟨lc, o, cp, rfl⟩ := hc.openT (by omega)
    obtain ⟨mv, e3, e0, e1, e2⟩ := cardT_nth hc hi
    obtain ⟨c, hcc⟩ : ∃ c, c = cs.getD i ⟨false, [], []⟩ := ⟨_, rfl⟩
    have hnext := scanGo_next hi l
    rw [← hcc] at e0 e1 e3 hnext
    have hcs := hsm c (by rw [hcc, List.getD, List.getElem?_eq_getElem hi]; exact List.getElem_mem hi)
    have hmv := e3.live
    have hms := e3.scal
    have e0' := rd_subT e0 rfl hSb
    have e1' := rd_subT e1 rfl hSb
    have e2' := rd_subT e2 hmv hSb
    rw [i3] at hnext
    refine qZ ?_
    change Awp _ _ _ _ _ _ _
    refine qN ?_
    refine Qt ?_
    refine awp_rseq [3, 4, 6, 8, 9, 10] (by rfl) fun K hK => ?_
    simp +decide only [ev, putD, Slots.put, Slots.get, if_true, if_false, true_and, ↓QT, Qb, Qj Tryz.underlying40 sz48, ↓qJ, qi ag48 sz48, qf, qC, qE, allLive, Bool.and_true, e0', e1', e2', Int.toNat_natCast, hmv]
    repeat (with_reducible refine And.intro ?_ ?_; · first | trivial | omega | (intro hg; simp only [Bool.and_eq_true, Bool.or_eq_true, Bool.not_eq_true', Bool.and_eq_false_iff, Bool.or_eq_false_iff, Bool.not_eq_false', decide_eq_true_eq, decide_eq_false_iff_not, XI] at hg; omega) )
    refine Qh ze48 (cs := [.bool false, .str [], .nilSlice]) (by rfl) fun k4q2 hk4q2 => ?_
    try have hf_4q2 : h k4q2 = none := by first | assumption | (simp only [AHeap.set_none] at hk4q2; simp only [hk4q2])
    refine qp (v := .agg [.bool c.left, .str c.text, mv]) (by rfl) (by rfl) (AHeap.set_same _ _ _) sz48 (by rfl) (by rfl) (by simp []) (Nat.zero_le _) (show (true && (true && (mv.scal && true))) = true by rw [hms]; rfl) ?_
    simp only [AHeap.set_set, setAt, AVal.cells, List.set_cons_zero, List.set_cons_succ, Nat.zero_add, Nat.reduceAdd]
    simp +decide only [qa, putD, Slots.put, Slots.keep, if_true, if_false]
    apply hK; clear hK K
    obtain ⟨a1, a2, a3, a4⟩ := i1.lay hk4q2 ⟨[.bool c.left, .str c.text, mv], 0⟩
    obtain ⟨B2, hB2⟩ : ∃ B2, B2 = B.set k4q2 ⟨[.bool c.left, .str c.text, mv], 0⟩ := ⟨_, rfl⟩
    rw [← hB2] at a1 a2
    have hB2s : Sub B B2 := by rw [hB2]; exact Sub.set a4
    have b2k : B2 k4q2 = some ⟨[.bool c.left, .str c.text, mv], 0⟩ := by rw [hB2]; exact AHeap.set_same _ _ _
    have r5 := fun o => Xd w₀ (a2.other (lf := lf0) (s := s0) (mv := mv0) (i := at0) b2k) o
    have hm2 : IsL w₀ B2 3 mv (c.marks.map markC) := e3.mono (hBs.trans hB2s)
    rw [a1]
    refine awp_rseq [3, 4, 8, 9, 10] (by rfl) fun K hK => ?_
    simp +decide only [ev, putD, Slots.put, Slots.get, if_true, if_false, true_and, ↓qJ, Qb, qi ag48 sz48, ↓qF, qo, fa89_0, qf, List.getD_cons_zero, List.getD_cons_succ, Nat.zero_add, Nat.reduceAdd, qC, qE, allLive, Bool.and_true, r5, hmv]
    refine qp (v := .agg [.bool c.left, .str c.text, mv]) (by rfl) (by rfl) a2.at sz48 (by rfl) (by rfl) (by simp []) (Nat.zero_le _) (show (true && (true && (mv.scal && true))) = true by rw [hms]; rfl) ?_
    simp only [setAt, AVal.cells, List.set_cons_zero, List.set_cons_succ, Nat.zero_add, Nat.reduceAdd]
    rw [a2.set]
    show QO _ _ _ _ _ (scH k1q0 B2 tb c.left c.text mv at0) _
    simp +decide only [ev, putD, Slots.put, Slots.get, if_true, if_false, true_and, ↓qF, qo, fa89_1, Nat.zero_add]
    refine qp (v := .int .i64 0) (by rfl) (by rfl) a2.at sz3 (by rfl) (by rfl) (by simp) (Nat.zero_le _) (by rfl) ?_
    simp only [setAt, AVal.cells, List.set_cons_zero, List.set_cons_succ]
    rw [a2.set]
    show QO _ _ _ _ _ (scH k1q0 B2 tb c.left c.text mv 0) _
    simp +decide only [qa, putD, Slots.keep, if_true, if_false]
    apply hK; clear hK K
    refine awp_rseq [3, 4, 7, 8, 9, 10] (by rfl) fun K hK => ?_
    refine Xp (by rfl) (by rfl) (c_card w₀ k1q0 B2 tb c mv l a2 hm2 hcs.2 hcs.1 i4) fun x6q0 h6q0 hx6q0 => ?_
    obtain ⟨hv6, hl6, tb', i', hh6, j1⟩ := hx6q0
    obtain ⟨f, hf⟩ : ∃ f, f = (cardT c l).2 := ⟨_, rfl⟩
    obtain ⟨H6, hH6⟩ : ∃ H6, H6 = scH k1q0 B2 tb' c.left c.text mv i' := ⟨_, rfl⟩
    have hS6 : Sub h H6 := by rw [hH6]; exact (hBs.trans hB2s).trans j1.above
    have e06 : H6 k0q1 = some ⟨[.int .i64 0, .int .i64 0, .int .i64 0], 0⟩ := by rw [hH6]; exact j1.other (hB2s _ _ hBk)
    rw [← hf] at hnext
    rw [hv6, hh6, ← hH6, ← hf]
    refine Qh ze31 (cs := [.int .i64 0, .int .i64 0, .int .i64 0]) (by rfl) fun k6q1 hk6q1 => ?_
    try have hf_6q1 : h k6q1 = none := by first | assumption | (simp only [AHeap.set_none] at hk6q1; simp only [hk6q1])
    refine qp (by rfl) (by rfl) (by repeat (first | exact AHeap.set_same _ _ _ | assumption | refine (AHeap.set_ne _ _ (by first | assumption | exact Ne.symm (by assumption))).trans ?_)) QR (by rfl) (by rfl) (by first | exact Nat.le_refl _ | decide | (simp; done) | (simp; omega)) (Nat.zero_le _) (by rfl) ?_
    simp only [AHeap.set_set, AVal.cells]
    simp +decide only [qa, ev, putD, Slots.put, Slots.get, Slots.keep, if_true, if_false, setAt, List.set_cons_zero, List.set_cons_succ, Nat.zero_add, Nat.reduceAdd, QE]
    apply hK; clear hK K
    have hf6 := Sub.none hS6 hk6q1
    have ne_6q1_0q1 : k6q1 ≠ k0q1 := AHeap.ne_some hk6q1 e06
    refine awp_rseq [3, 4, 7, 8, 9, 10, 20] (by rfl) fun K hK => ?_
    simp +decide only [qa, ev, qK, qH, putD, Slots.put, Slots.get, Slots.keep, if_true, if_false, true_and, ↓qJ, Qb, qi XL QR, ↓Qo, ↓Qa, bld31_, evP, List.map_nil, ↓qw, qh, qP, cond_false, pBinX_agg, ne31, Xa, qf, List.getD_cons_zero, List.getD_cons_succ, Nat.zero_add, Nat.reduceAdd, qj, allLive, Bool.and_true, faultA_eq]
    apply hK; clear hK K
    refine qM (b := _) rfl (fun hb2 => ?_) (fun hb2 => ?_)
    · try simp only [decide_eq_false_iff_not, Bool.not_eq_true'] at hb2
      have hres : scanE cs = ([], f) := by rw [hnext, if_pos hb2]
      refine awp_dseq_tail 2 [2, 3] mixed (by kernel_rfl) (by rfl) (by rfl) fun K hK => ?_
      simp +decide only [ev, qK, qH, putD, Slots.put, Slots.get, if_true, if_false, true_and, ↓qJ, Qb, qi XL QR, ↓qc, qb, Xa, qf, List.getD_cons_zero, List.getD_cons_succ, Nat.zero_add, Nat.reduceAdd, qj, allLive, Bool.and_true]
      refine qp (by rfl) (by rfl) (by repeat (first | exact AHeap.set_same _ _ _ | assumption | refine (AHeap.set_ne _ _ (by first | assumption | exact Ne.symm (by assumption))).trans ?_)) QR (by rfl) (by rfl) (by first | exact Nat.le_refl _ | decide | (simp; done) | (simp; omega)) (Nat.zero_le _) (by rfl) ?_
      simp only [AVal.cells]
      simp +decide only [qa, ev, putD, Slots.get, Slots.keep, if_true, if_false, setAt, List.set_cons_zero, List.set_cons_succ, Nat.zero_add, Nat.reduceAdd]
      apply hK; clear hK K
      refine qU ?_
      try simp only [Ql, QA]
      refine qO h (by repeat (first | exact Sub.refl _ | assumption | refine Sub.set_both ?_ _ _ | refine Sub.trans_set ?_ (by repeat (first | assumption | refine (AHeap.set_ne _ _ (by first | assumption | exact Ne.symm (by assumption))).trans ?_)))) (?_) ?_
      · simp +decide only [QF, qB, ql, Slots.get, if_true, if_false, and_true, qB, ql, qi XL QR, Qi, qf, List.getD_cons_zero, List.getD_cons_succ, Nat.zero_add, Nat.reduceAdd, qj, allLive, Bool.and_true, qf, List.getD_cons_zero, List.getD_cons_succ, Nat.zero_add, Nat.reduceAdd, qj, allLive, Bool.and_true]
      
      simp +decide only [Slots.get, if_true, if_false, Zo, qB, ql, qi XL QR, Qi, qf, List.getD_cons_zero, List.getD_cons_succ, Nat.zero_add, Nat.reduceAdd, qj, allLive, Bool.and_true, qf, List.getD_cons_zero, List.getD_cons_succ, Nat.zero_add, Nat.reduceAdd, qj, allLive, Bool.and_true]
      exact ⟨none, by rw [hres]; rfl, trivial, by rw [hres]; rfl, rfl⟩
    · try simp only [decide_eq_true_eq, Bool.not_eq_false'] at hb2
      have hres : scanE cs = scanGo (cs.drop (i + 1)) (cardT c l).1 := by rw [hnext, if_neg (by simpa using hb2)]
      refine qZ ?_
      change Awp _ _ _ _ _ _ _
      refine Xl [3, 4, 8, 9, 10] (by rfl) ?_
      simp +decide only [qa, ev, qK, qH, putD, Slots.put, Slots.get, Slots.keep, if_true, if_false, true_and, ↓qw, qh, qz, cond_false, qm, Xk, ↓qg, qd]
      try simp (disch := omega) only [wrap_i64]
      try simp only [qR]
      exact ⟨⟨i + 1, (cardT c l).1, tb', c.left, c.text, mv, i'⟩, rfl, (scH_sub hB2s).trans (by rw [← hH6]; exact Sub.set hk6q1), ⟨j1.down hB2s, hi, hres.symm, hl6⟩, by simp only; omega⟩
  · try simp only [decide_eq_false_iff_not] at hb1
    have hres : scanE cs = (l, okF) := by rw [← i3, List.drop_eq_nil_of_le (by omega)]; rfl
    have rx10 := fun o => Xd w₀ (i1.at (lf := lf0) (s := s0) (mv := mv0) (i := at0)) o
    have hbl := bufV_live 5 tb
    have r0 := fun o => Xd w₀ (i1.other (lf := lf0) (s := s0) (mv := mv0) (i := at0) hBk) o
    refine Ze ?_
    change Awp _ _ _ _ _ _ _
    refine awp_rseq [2, 3] (by rfl) fun K hK => ?_
    simp +decide only [ev, putD, Slots.put, Slots.get, if_true, if_false, true_and, ↓qF, qo, fa89_2, ↓qJ, Qb, qD ag25, List.getD_cons_zero, List.getD_cons_succ, Nat.zero_add, rx10, hbl]
    refine qL (V := capL (XM 5 tb)) (by rfl) (by rfl) (c_clipT w₀ _ _ _ (i1.toks _)) ?_
    simp +decide only [ev, qK, qH, putD, Slots.put, Slots.get, if_true, if_false, true_and, ↓Qo, ↓Qa, bld31_, evP, List.map_nil, ↓qc, qb]
    refine qp (v := .agg [.int .i64 0, .int .i64 0, .int .i64 0]) (by rfl) (by rfl) (i1.other hBk) QR (by rfl) (by rfl) (by simp []) (Nat.zero_le _) (by rfl) ?_
    simp only [setAt, AVal.cells, List.set_cons_zero, List.set_cons_succ, Nat.zero_add, Nat.reduceAdd]
    rw [Zj (i1.other hBk)]
    simp +decide only [qa, putD, Slots.keep, if_true, if_false]
    apply hK; clear hK K
    refine qU ?_
    refine retA_retE (?_) ?_
    · simp +decide only [QF, qB, ql, Slots.get, if_true, if_false, and_true, qB, ql, qi XL QR, qf, List.getD_cons_zero, List.getD_cons_succ, Nat.zero_add, Nat.reduceAdd, qj, allLive, Bool.and_true, qf, List.getD_cons_zero, List.getD_cons_succ, Nat.zero_add, Nat.reduceAdd, qj, allLive, Bool.and_true, r0]
    
    simp +decide only [Slots.get, if_true, if_false, Zo, qB, ql, qi XL QR, qf, List.getD_cons_zero, List.getD_cons_succ, Nat.zero_add, Nat.reduceAdd, qj, allLive, Bool.and_true, qf, List.getD_cons_zero, List.getD_cons_succ, Nat.zero_add, Nat.reduceAdd, qj, allLive, Bool.and_true, r0]
    have hsx : Sub h (B.set k1q0 ⟨[.bool lf0, .str s0, mv0, .int .i64 at0, XM 5 tb], 0⟩) := hBs.trans (Sub.set i1.hk)
    exact ⟨Xv h tb, Sub.bufBoth hsx, tb, by rw [hres]; rfl, (i1.ok _).sub hsx, by rw [hres]; exact i1.eq, rfl⟩
end Go.Proofs.YtmadddihphkmoaaGreatDoor

/-
  Contracts: Source of the package tokens; bounds of what is read.
  Conditions: none.
-/
namespace Go.Proofs.YtmadddihphkmoaaGreatDoor
open Go.AM
open Go.Proofs
open Go.Col
open Go.Tok
open Go.RowKit (Below)
set_option maxRecDepth 100000

theorem readL_smallT (dbg : Bool) : ∀ (ls : List Str) (n : Int) (x : Rd) (N : Nat), RdSm N x → RdSm (N + ls.length) (XZ dbg ls n x).1
  | [], _, x, N, h => h
  | s :: ls, n, x, N, h => by
    have hl := (lineE_small (s := s) (line := n) (dbg := dbg)).1
    have e : N + (s :: ls).length = (N + 1) + ls.length := by rw [List.length_cons]; omega
    have up : ∀ k {y : Rd}, RdSm (N + 1) y → RdSm (N + 1 + k) y := fun k y hy => by
      induction k with
      | zero => exact hy
      | succ k ih => exact ih.next
    rw [XZ]
    cases hp : lineE s n dbg with
    | mk r q =>
      obtain ⟨cn, f⟩ := q
      rw [hp] at hl
      simp only
      split
      · rw [e]; exact readL_smallT dbg ls _ x (N + 1) h.next
      · split
        · split
          · rw [e]; exact readL_smallT dbg ls _ _ (N + 1) (takeE_small h (by have : r.text.length ≤ 65 := hl; omega))
          · rw [e]; exact up _ (takeE_small h (by have : r.text.length ≤ 65 := hl; omega))
        · rw [e]; exact up _ h.next
theorem readE_smallT (text : Str) (dbg : Bool) : (readE text dbg).1.length ≤ 1048577 ∧ ∀ c ∈ (readE text dbg).1, c.text.length ≤ 83886160 ∧ c.marks.length ≤ 1048577 := by
  have h := readL_smallT dbg (Qp (XK text)) 1 .start 0 ⟨Nat.zero_le _, fun c hc => by cases hc⟩
  have h1 := splitNL_len (XK text)
  have h2 := trimNL_len text
  unfold readE
  split
  · exact ⟨Nat.zero_le _, fun c hc => by cases hc⟩
  · simp only
    split
    · exact ⟨Nat.zero_le _, fun c hc => by cases hc⟩
    · split
      · exact ⟨Nat.zero_le _, fun c hc => by cases hc⟩
      · exact ⟨by have := h.many; simp only; omega, fun c hc => by have := h.small c hc; omega⟩
theorem source_small (text : Str) (dbg : Bool) : (XP text dbg).1.length ≤ 65536 ∧ ∀ t ∈ (XP text dbg).1, t.text.length ≤ 83886162 := by
  obtain ⟨z1, z2⟩ := readE_smallT text dbg
  unfold XP
  split
  · exact ⟨Nat.zero_le _, fun t ht => by cases ht⟩
  · refine ⟨scanGo_many _ _ (Nat.zero_le _), scanGo_inv _ _ (fun c hc j l hv hj h32 he => ?_) _ (fun t ht => by cases ht)⟩
    have := (z2 c hc).1
    have := next_text c.text j l hj
    show (QJ c.text j l).text.length ≤ _
    omega
theorem c_Source (w₀ : World) (hm : MaxL w₀) (h : AHeap) (text : Str) (dbg : Bool) (hl : text.length ≤ 9223372036854775807) : ACall Tryz.prog w₀ 9 [.str text, .bool dbg] h (ScanR h (XP text dbg)) := by
  obtain ⟨z1, z2⟩ := readE_smallT text dbg
  refine qY (n := 22) (rs := [.tmp 4, .cell 5 31]) Tryz.func9 rfl rfl rfl rfl (Nat.le_of_ble_eq_true rfl) ?_
  simp only [Qf]
  refine awp_rseq [0, 1, 5] (by rfl) fun K hK => ?_
  simp +decide only [ev, qK, qH, putD, Slots.put, if_false, true_and, ↓qc, qb, Nat.zero_add]
  refine Qh ze31 (cs := [.int .i64 0, .int .i64 0, .int .i64 0]) (by rfl) fun k0q1 hk0q1 => ?_
  try have hf_0q1 : h k0q1 = none := by first | assumption | (simp only [AHeap.set_none] at hk0q1; simp only [hk0q1])
  simp +decide only [qa, putD, Slots.put, Slots.keep, if_true, if_false]
  apply hK; clear hK K
  refine awp_rseq [5, 6, 7] (by rfl) fun K hK => ?_
  simp +decide only [ev, putD, Slots.put, Slots.get, if_true, if_false, true_and, ↓qg, qd]
  refine Xp (by rfl) (by rfl) (c_Read w₀ hm _ text dbg hl) fun x1q2 h1q2 hx1q2 => ?_
  obtain ⟨cv, rfl, hc, hs1⟩ := hx1q2
  have hlv := hc.liveT
  obtain ⟨cs, hcs⟩ : ∃ cs, cs = (readE text dbg).1 := ⟨_, rfl⟩
  obtain ⟨f, hf⟩ : ∃ f, f = (readE text dbg).2 := ⟨_, rfl⟩
  have hso : XP text dbg = if f ≠ okF then ([], f) else scanE cs := by rw [hf, hcs]; rfl
  rw [← hcs] at hc z1 z2
  rw [← hf]
  have hs_h1q2 : Sub h h1q2 := Sub.trans (by repeat (first | exact Sub.refl _ | assumption | refine Sub.trans_set ?_ (by assumption))) hs1
  have hr_h1q2 := hs_h1q2
  have eb_0q1 := hs1 k0q1 _ (by repeat (first | exact AHeap.set_same _ _ _ | assumption | refine (AHeap.set_ne _ _ (by first | assumption | exact Ne.symm (by assumption))).trans ?_))
  simp +decide only [ev, putD, Slots.put, Slots.get, if_true, if_false, true_and, ↓qg, qd, ↓QU, QB, QL, List.length_cons, List.length_nil, List.getD_cons_zero, List.getD_cons_succ, List.getD_cons_zero, List.getD_cons_succ, Nat.zero_add, Nat.reduceAdd, QE]
  refine Qh ze31 (cs := [.int .i64 0, .int .i64 0, .int .i64 0]) (by rfl) fun k1q6 hk1q6 => ?_
  have hn_1q6 : h1q2 k1q6 = none := by first | assumption | (simp only [AHeap.set_none] at hk1q6; simp only [hk1q6])
  have hf_1q6 : h k1q6 = none := Sub.none hs_h1q2 hn_1q6
  have ne_1q6_0q1 : k1q6 ≠ k0q1 := AHeap.ne_some hn_1q6 eb_0q1
  simp +decide only [ev, putD, Slots.put, Slots.get, if_true, if_false, true_and, ↓qc, qb]
  refine qp (by rfl) (by rfl) (by repeat (first | exact AHeap.set_same _ _ _ | assumption | refine (AHeap.set_ne _ _ (by first | assumption | exact Ne.symm (by assumption))).trans ?_)) QR (by rfl) (by rfl) (by first | exact Nat.le_refl _ | decide | (simp; done) | (simp; omega)) (Nat.zero_le _) (by rfl) ?_
  simp only [AHeap.set_set, AVal.cells]
  simp +decide only [qa, ev, putD, Slots.get, Slots.keep, if_true, if_false, setAt, List.set_cons_zero, List.set_cons_succ, Nat.zero_add, Nat.reduceAdd]
  apply hK; clear hK K
  refine qN ?_
  refine awp_rseq [5, 6, 7, 16] (by rfl) fun K hK => ?_
  simp +decide only [qa, ev, qK, qH, putD, Slots.put, Slots.get, Slots.keep, if_true, if_false, true_and, ↓qJ, Qb, qi XL QR, ↓Qo, ↓Qa, bld31_, evP, List.map_nil, ↓qw, qh, qP, cond_false, pBinX_agg, ne31, Xa, qf, List.getD_cons_zero, List.getD_cons_succ, Nat.zero_add, Nat.reduceAdd, qj, allLive, Bool.and_true, faultA_eq]
  apply hK; clear hK K
  refine qM (b := _) rfl (fun hb1 => ?_) (fun hb1 => ?_)
  · try simp only [decide_eq_false_iff_not, Bool.not_eq_true'] at hb1
    rw [if_pos hb1] at hso
    refine awp_dseq_tail 2 [4, 5] mixed (by kernel_rfl) (by rfl) (by rfl) fun K hK => ?_
    simp +decide only [ev, qK, qH, putD, Slots.put, Slots.get, if_true, if_false, true_and, ↓qJ, Qb, qi XL QR, ↓qc, qb, Xa, qf, List.getD_cons_zero, List.getD_cons_succ, Nat.zero_add, Nat.reduceAdd, qj, allLive, Bool.and_true]
    refine qp (by rfl) (by rfl) (by repeat (first | exact AHeap.set_same _ _ _ | assumption | refine (AHeap.set_ne _ _ (by first | assumption | exact Ne.symm (by assumption))).trans ?_)) QR (by rfl) (by rfl) (by first | exact Nat.le_refl _ | decide | (simp; done) | (simp; omega)) (Nat.zero_le _) (by rfl) ?_
    simp only [AVal.cells]
    simp +decide only [qa, ev, putD, Slots.get, Slots.keep, if_true, if_false, setAt, List.set_cons_zero, List.set_cons_succ, Nat.zero_add, Nat.reduceAdd]
    apply hK; clear hK K
    refine qU ?_
    try simp only [Ql]
    refine qO h (by repeat (first | exact Sub.refl _ | assumption | refine Sub.set_both ?_ _ _ | refine Sub.trans_set ?_ (by repeat (first | assumption | refine (AHeap.set_ne _ _ (by first | assumption | exact Ne.symm (by assumption))).trans ?_)))) (?_) ?_
    · simp +decide only [QF, qB, ql, Slots.get, if_true, if_false, and_true, qB, ql, qi XL QR, Qi, qf, List.getD_cons_zero, List.getD_cons_succ, Nat.zero_add, Nat.reduceAdd, qj, allLive, Bool.and_true, qf, List.getD_cons_zero, List.getD_cons_succ, Nat.zero_add, Nat.reduceAdd, qj, allLive, Bool.and_true]
    
    simp +decide only [Slots.get, if_true, if_false, Zo, qB, ql, qi XL QR, Qi, qf, List.getD_cons_zero, List.getD_cons_succ, Nat.zero_add, Nat.reduceAdd, qj, allLive, Bool.and_true, qf, List.getD_cons_zero, List.getD_cons_succ, Nat.zero_add, Nat.reduceAdd, qj, allLive, Bool.and_true]
    exact ⟨none, by rw [hso]; rfl, trivial, by rw [hso]; rfl, rfl⟩
  · try simp only [decide_eq_true_eq, Bool.not_eq_false'] at hb1
    rw [if_neg (by simpa using hb1)] at hso
    refine qZ ?_
    change Awp _ _ _ _ _ _ _
    refine awp_rseq [4, 5] (by rfl) fun K hK => ?_
    simp +decide only [ev, putD, Slots.put, Slots.get, if_true, if_false, true_and, ↓qg, qd]
    refine Xp (by rfl) (by rfl) (c_Scan w₀ _ cv cs (hc.mono (by repeat (first | exact Sub.refl _ | assumption | refine Sub.set_both ?_ _ _ | refine Sub.trans_set ?_ (by repeat (first | assumption | refine (AHeap.set_ne _ _ (by first | assumption | exact Ne.symm (by assumption))).trans ?_))))) (by omega) (fun c hcm => by have := z2 c hcm; omega)) fun x4q1 h4q1 hx4q1 => ?_
    obtain ⟨tb, rfl, o1, o2, rfl⟩ := hx4q1
    have hat := ((by repeat (first | exact AHeap.set_same _ _ _ | assumption | refine (AHeap.set_ne _ _ (by first | assumption | exact Ne.symm (by assumption))).trans ?_)) : (h1q2.set k1q6 ⟨[.int .i64 f.e, .int .i64 f.line, .int .i64 f.col], 0⟩) k0q1 = some ⟨[.int .i64 0, .int .i64 0, .int .i64 0], 0⟩)
    have hlb := bufV_live 5 tb
    simp +decide only [ev, putD, Slots.put, Slots.get, if_true, if_false, true_and, ↓QU, QB, QL, List.length_cons, List.length_nil, List.getD_cons_zero, List.getD_cons_succ, ↓qc, qb, List.getD_cons_zero, List.getD_cons_succ, Nat.zero_add, Nat.reduceAdd, QE]
    refine qp (v := QE (scanE cs).2) (by rfl) (by rfl) (bufAt o1 hat) QR (by rfl) (by rfl) (by simp []) (Nat.zero_le _) (by rfl) ?_
    simp only [setAt, AVal.cells, QE, List.set_cons_zero, List.set_cons_succ, Nat.zero_add, Nat.reduceAdd]
    rw [bufSet o1 hat]
    have r0 := fun o => Xd w₀ (bufAt (bufOkSet o1 hat ⟨[.int .i64 (scanE cs).2.e, .int .i64 (scanE cs).2.line, .int .i64 (scanE cs).2.col], 0⟩) (AHeap.set_same _ _ _)) o
    simp +decide only [qa, putD, Slots.keep, if_true, if_false]
    apply hK; clear hK K
    refine qU ?_
    refine retA_retE (?_) ?_
    · simp +decide only [QF, qB, ql, Slots.get, if_true, if_false, and_true, qB, ql, qi XL QR, qf, List.getD_cons_zero, List.getD_cons_succ, Nat.zero_add, Nat.reduceAdd, qj, allLive, Bool.and_true, qf, List.getD_cons_zero, List.getD_cons_succ, Nat.zero_add, Nat.reduceAdd, qj, allLive, Bool.and_true, r0]
    
    simp +decide only [Slots.get, if_true, if_false, Zo, qB, ql, qi XL QR, qf, List.getD_cons_zero, List.getD_cons_succ, Nat.zero_add, Nat.reduceAdd, qj, allLive, Bool.and_true, qf, List.getD_cons_zero, List.getD_cons_succ, Nat.zero_add, Nat.reduceAdd, qj, allLive, Bool.and_true, r0]
    refine ⟨Xv h tb, ?_, tb, by rw [hso]; rfl, o1.sub (by repeat (first | exact Sub.refl _ | assumption | refine Sub.set_both ?_ _ _ | refine Sub.trans_set ?_ (by repeat (first | assumption | refine (AHeap.set_ne _ _ (by first | assumption | exact Ne.symm (by assumption))).trans ?_)))), by rw [hso]; exact o2, rfl⟩
    exact Sub.bufBoth (by repeat (first | exact Sub.refl _ | assumption | refine Sub.set_both ?_ _ _ | refine Sub.trans_set ?_ (by repeat (first | assumption | refine (AHeap.set_ne _ _ (by first | assumption | exact Ne.symm (by assumption))).trans ?_))))
end Go.Proofs.YtmadddihphkmoaaGreatDoor

/-
  Contracts: show, lives of the laws.
  Conditions: none.
-/
namespace Go.Proofs.YtmadddihphkmoaaGreatDoor
open Go.AM
open Go.Proofs
open Go.Col
open Go.Tok
open Go.RowKit (Below)
set_option maxRecDepth 100000

def lettE : Str := [63, 87, 78, 81, 80, 83, 46, 61]
def showGo : List TokC → Str → Str
  | [], out => out
  | t :: r, out => if 7 < t.kind.toNat then [63] else showGo r (out ++ [lettE.getD t.kind.toNat 0] ++ t.text ++ [124])
def showE (s : Str) : Str × FaultC := (showGo (XP (sp 11 ++ s) false).1 [], (XP (sp 11 ++ s) false).2)
theorem showGo_next {l : List TokC} {i : Nat} (hi : i < l.length) (out : Str) : showGo (l.drop i) out = if 7 < (l.getD i badT).kind.toNat then [63] else showGo (l.drop (i + 1)) (out ++ [lettE.getD (l.getD i badT).kind.toNat 0] ++ (l.getD i badT).text ++ [124]) := by
  rw [List.drop_eq_getElem_cons hi, showGo]
  simp [List.getD, hi]
theorem lett_cut (k : Nat) (h : k ≤ 7) : (lettE.drop k).take (k + 1 - k) = [lettE.getD k 0] := by
  have : k = 0 ∨ k = 1 ∨ k = 2 ∨ k = 3 ∨ k = 4 ∨ k = 5 ∨ k = 6 ∨ k = 7 := by omega
  rcases this with q | q | q | q | q | q | q | q <;> subst q <;> rfl
theorem tok_at {w₀ : World} {h : AHeap} {lc : AM.Loc} {o : Nat} {c : Cap} {l : List TokC} (ht : IsL w₀ h 5 (.slice lc o l.length c) (l.map Zc)) {i : Nat} (hi : i < l.length) :
    rd w₀ h lc (o + i * 5) = .int .u8 (l.getD i badT).kind.toNat ∧ rd w₀ h lc (o + i * 5 + 1) = .str (l.getD i badT).text ∧ rd w₀ h lc (o + i * 5 + 2) = .int .i64 (l.getD i badT).line ∧ rd w₀ h lc (o + i * 5 + 3) = .int .i64 (l.getD i badT).col ∧ rd w₀ h lc (o + i * 5 + 4) = .bool (l.getD i badT).left := by
  have he := ht.elem (i := i) (by rw [List.length_map]; exact hi)
  rw [getD_map badT hi] at he
  simp only [qf, Zc, List.cons.injEq, and_true] at he
  exact he
theorem tok_open {w₀ : World} {h : AHeap} {v : AVal} {l : List TokC} (ht : IsL w₀ h 5 v (l.map Zc)) (hn : 0 < l.length) : ∃ lc o c, v = .slice lc o l.length c := by
  obtain ⟨lc, o, c, e⟩ := ht.open (fun e => by rw [List.map_eq_nil_iff] at e; subst e; simp at hn)
  rw [List.length_map] at e
  exact ⟨lc, o, c, e⟩
theorem tok_len {w₀ : World} {h : AHeap} {v : AVal} {l : List TokC} (ht : IsL w₀ h 5 v (l.map Zc)) : pLen Tryz.prog 25 v = ⟨True, .int .i64 l.length⟩ := by
  have := ht.len Tryz.underlying25
  rwa [List.length_map] at this
structure ShG where
  i : Nat
  out : Str
theorem c_show (w₀ : World) (hm : MaxL w₀) (h : AHeap) (s : Str) (hl : s.length ≤ 1000000) : ACall Tryz.prog w₀ 18 [.str s] h (fun v h' => v = .tuple [.str (showE s).1, QE (showE s).2] ∧ h' = h) := by
  have hsp : (sp 11 ++ s).length ≤ 9223372036854775807 := by simp [sp]; omega
  obtain ⟨z1, z2⟩ := source_small (sp 11 ++ s) false
  refine qY (n := 50) (rs := [.tmp 2, .cell 3 31]) Tryz.func18 rfl rfl rfl rfl (Nat.le_of_ble_eq_true rfl) ?_
  simp only [Qf]
  refine awp_rseq [0, 3] (by rfl) fun K hK => ?_
  simp +decide only [ev, qK, qH, putD, Slots.put, if_false, true_and, ↓qc, qb]
  refine Qh ze31 (cs := [.int .i64 0, .int .i64 0, .int .i64 0]) (by rfl) fun k0q1 hk0q1 => ?_
  try have hf_0q1 : h k0q1 = none := by first | assumption | (simp only [AHeap.set_none] at hk0q1; simp only [hk0q1])
  simp +decide only [qa, putD, Slots.put, Slots.keep, if_true, if_false]
  apply hK; clear hK K
  refine awp_rseq [3, 4, 5] (by rfl) fun K hK => ?_
  simp +decide only [ev, qK, qH, putD, Slots.put, Slots.get, if_true, if_false, true_and, ↓qg, qd, ↓qw, qh, qP, cond_false, XN, pS_add]
  repeat (with_reducible refine And.intro ?_ ?_; · first | trivial | omega | (intro hg; simp only [Bool.and_eq_true, Bool.or_eq_true, Bool.not_eq_true', Bool.and_eq_false_iff, Bool.or_eq_false_iff, Bool.not_eq_false', decide_eq_true_eq, decide_eq_false_iff_not, XI] at hg; omega) | (simp only [List.length_cons, List.length_nil]; omega))
  refine Xp (by rfl) (by rfl) (c_Source w₀ hm _ (sp 11 ++ s) false hsp) fun x1q2 h1q2 hx1q2 => ?_
  obtain ⟨tv, hv1, htv, hs1⟩ := hx1q2.toks (w₀ := w₀)
  obtain ⟨R, hR⟩ : ∃ R, R = XP (sp 11 ++ s) false := ⟨_, rfl⟩
  have hsE : showE s = (showGo R.1 [], R.2) := by rw [hR]; rfl
  rw [← hR] at htv hv1 z1 z2
  obtain ⟨l, hl'⟩ : ∃ l, l = R.1 := ⟨_, rfl⟩
  obtain ⟨v, hv⟩ : ∃ v, v = capL tv := ⟨_, rfl⟩
  rw [← hl'] at htv hsE z1 z2
  rw [← hv] at htv hv1
  rw [hv1]
  have hs_h1q2 : Sub h h1q2 := Sub.trans (by repeat (first | exact Sub.refl _ | assumption | refine Sub.trans_set ?_ (by assumption))) hs1
  have hr_h1q2 := hs_h1q2
  have eb_0q1 := hs1 k0q1 _ (by repeat (first | exact AHeap.set_same _ _ _ | assumption | refine (AHeap.set_ne _ _ (by first | assumption | exact Ne.symm (by assumption))).trans ?_))
  simp +decide only [ev, putD, Slots.put, Slots.get, if_true, if_false, true_and, ↓qg, qd, ↓QU, QB, QL, List.length_cons, List.length_nil, List.getD_cons_zero, List.getD_cons_succ, List.getD_cons_zero, List.getD_cons_succ, Nat.zero_add, Nat.reduceAdd, QE]
  refine Qh ze31 (cs := [.int .i64 0, .int .i64 0, .int .i64 0]) (by rfl) fun k1q6 hk1q6 => ?_
  have hn_1q6 : h1q2 k1q6 = none := by first | assumption | (simp only [AHeap.set_none] at hk1q6; simp only [hk1q6])
  have hf_1q6 : h k1q6 = none := Sub.none hs_h1q2 hn_1q6
  have ne_1q6_0q1 : k1q6 ≠ k0q1 := AHeap.ne_some hn_1q6 eb_0q1
  simp +decide only [ev, putD, Slots.put, Slots.get, if_true, if_false, true_and, ↓qc, qb]
  refine qp (by rfl) (by rfl) (by repeat (first | exact AHeap.set_same _ _ _ | assumption | refine (AHeap.set_ne _ _ (by first | assumption | exact Ne.symm (by assumption))).trans ?_)) QR (by rfl) (by rfl) (by first | exact Nat.le_refl _ | decide | (simp; done) | (simp; omega)) (Nat.zero_le _) (by rfl) ?_
  simp only [AHeap.set_set, AVal.cells]
  simp +decide only [qa, ev, putD, Slots.get, Slots.keep, if_true, if_false, setAt, List.set_cons_zero, List.set_cons_succ, Nat.zero_add, Nat.reduceAdd]
  apply hK; clear hK K
  refine awp_rseq [3, 4, 5, 6] (by rfl) fun K hK => ?_
  simp +decide only [qa, ev, qK, qH, putD, Slots.put, Slots.keep, if_true, if_false, true_and, ↓qc, qb]
  apply hK; clear hK K
  refine qN ?_
  refine awp_rseq [3, 4, 5, 6, 7] (by rfl) fun K hK => ?_
  simp +decide only [qa, ev, qK, qH, putD, Slots.put, Slots.keep, if_true, if_false, true_and, ↓qc, qb]
  apply hK; clear hK K
  refine Qt ?_
  refine XW [3, 4, 5, 6, 7] (fun g : ShG => [(3, .ptr (.own k0q1) 0), (4, v), (5, .ptr (.own k1q6) 0), (6, .str g.out), (7, .int .i64 g.i)]) (fun g : ShG => h1q2.set k1q6 ⟨[.int .i64 R.2.e, .int .i64 R.2.line, .int .i64 R.2.col], 0⟩) (fun g : ShG => g.i ≤ l.length ∧ showGo (l.drop g.i) g.out = showGo l [] ∧ g.out.length ≤ g.i * 83886170) (fun g : ShG => l.length - g.i) ⟨0, []⟩ (by rfl) (Sub.refl _) ⟨Nat.zero_le _, rfl, Nat.zero_le _⟩ ?_
  rintro ⟨i, out⟩ ⟨i1, i2, i3⟩
  simp only at i1 i2 i3 ⊢
  have hlv := htv.live
  have hlen := tok_len htv
  refine qN ?_
  refine awp_rseq [3, 4, 5, 6, 7, 17] (by rfl) fun K hK => ?_
  simp +decide only [qa, ev, putD, Slots.put, Slots.get, Slots.keep, if_true, if_false, true_and, ↓qg, qd, ↓Xw, QH, ↓qw, qh, qP, cond_false, qm, pI_lss, hlen]
  apply hK; clear hK K
  refine qM (b := _) rfl (fun hb1 => ?_) (fun hb1 => ?_)
  · try simp only [decide_eq_true_eq] at hb1
    have hi : i < l.length := by omega
    obtain ⟨lc, o, c, rfl⟩ := tok_open htv (by omega)
    have hS : Sub h1q2 (h1q2.set k1q6 ⟨[.int .i64 R.2.e, .int .i64 R.2.line, .int .i64 R.2.col], 0⟩) := Sub.set hn_1q6
    obtain ⟨e0, e1, _, _, _⟩ := tok_at (htv.mono hS) hi
    obtain ⟨t, ht⟩ : ∃ t, t = l.getD i badT := ⟨_, rfl⟩
    have hnx := showGo_next hi out
    have htb := z2 t (by rw [ht, List.getD, List.getElem?_eq_getElem hi]; exact List.getElem_mem hi)
    have hob : out.length ≤ 65536 * 83886170 := Nat.le_trans i3 (Nat.mul_le_mul_right _ (by omega))
    rw [← ht] at e0 e1 hnx
    rw [i2] at hnx
    refine qZ ?_
    change Awp _ _ _ _ _ _ _
    refine qN ?_
    refine Qt ?_
    refine qN ?_
    refine awp_rseq [3, 4, 5, 6, 7, 25] (by rfl) fun K hK => ?_
    simp +decide only [qa, ev, qK, qH, putD, Slots.put, Slots.get, Slots.keep, if_true, if_false, true_and, ↓qg, qd, ↓QT, Qb, Qj Tryz.underlying25 Xi, ↓qF, qo, fa38_0, ↓qJ, qD ag36, ↓qw, qh, qz, cond_false, qm, pI_gtr, qj, Int.toNat_natCast, Nat.add_zero, e0]
    repeat (with_reducible refine And.intro ?_ ?_; · first | trivial | omega | (intro hg; simp only [Bool.and_eq_true, Bool.or_eq_true, Bool.not_eq_true', Bool.and_eq_false_iff, Bool.or_eq_false_iff, Bool.not_eq_false', decide_eq_true_eq, decide_eq_false_iff_not, XI] at hg; omega) | (simp only [List.length_append, List.length_map, List.length_range, List.length_replicate, List.length_take, List.length_drop, List.length_cons, List.length_nil, List.length_set, List.length_reverse]; omega))
    apply hK; clear hK K
    refine qM (b := _) rfl (fun hb2 => ?_) (fun hb2 => ?_)
    · try simp only [decide_eq_true_eq] at hb2
      rw [if_pos (by omega)] at hnx
      refine awp_dseq_tail 2 [2, 3] mixed (by kernel_rfl) (by rfl) (by rfl) fun K hK => ?_
      simp +decide only [ev, qK, qH, putD, Slots.put, Slots.get, if_true, if_false, true_and, ↓qJ, Qb, qi XL QR, ↓qc, qb, Xa, qf, List.getD_cons_zero, List.getD_cons_succ, Nat.zero_add, Nat.reduceAdd, qj, allLive, Bool.and_true]
      refine qp (by rfl) (by rfl) (by repeat (first | exact AHeap.set_same _ _ _ | assumption | refine (AHeap.set_ne _ _ (by first | assumption | exact Ne.symm (by assumption))).trans ?_)) QR (by rfl) (by rfl) (by first | exact Nat.le_refl _ | decide | (simp; done) | (simp; omega)) (Nat.zero_le _) (by rfl) ?_
      simp only [AVal.cells]
      simp +decide only [qa, ev, putD, Slots.get, Slots.keep, if_true, if_false, setAt, List.set_cons_zero, List.set_cons_succ, Nat.zero_add, Nat.reduceAdd]
      apply hK; clear hK K
      refine qU ?_
      try simp only [Ql, QA]
      refine qO h (by repeat (first | exact Sub.refl _ | assumption | refine Sub.trans_set ?_ (by assumption))) (?_) ?_
      · simp +decide only [QF, qB, ql, Slots.get, if_true, if_false, and_true, qB, ql, qi XL QR, Qi, qf, List.getD_cons_zero, List.getD_cons_succ, Nat.zero_add, Nat.reduceAdd, qj, allLive, Bool.and_true, qf, List.getD_cons_zero, List.getD_cons_succ, Nat.zero_add, Nat.reduceAdd, qj, allLive, Bool.and_true]
      
      simp +decide only [Slots.get, if_true, if_false, and_true, Zo, qB, ql, qi XL QR, Qi, qf, List.getD_cons_zero, List.getD_cons_succ, Nat.zero_add, Nat.reduceAdd, qj, allLive, Bool.and_true, qf, List.getD_cons_zero, List.getD_cons_succ, Nat.zero_add, Nat.reduceAdd, qj, allLive, Bool.and_true, QE]
      rw [hsE, hnx]
    · try simp only [decide_eq_false_iff_not] at hb2
      have hk7 : t.kind.toNat ≤ 7 := by omega
      rw [if_neg (by omega)] at hnx
      have hcut : (List.drop t.kind.toNat ([63, 87, 78, 81, 80, 83, 46, 61] : Str)).take (((t.kind.toNat : Int) + 1).toNat - t.kind.toNat) = [lettE.getD t.kind.toNat 0] := by
        rw [show ((t.kind.toNat : Int) + 1).toNat = t.kind.toNat + 1 by omega]
        exact lett_cut _ hk7
      refine qZ ?_
      change Awp _ _ _ _ _ _ _
      refine awp_draw_all mixed (by kernel_rfl) (by rfl) (by rfl) ?_
      simp +decide only [ev, qK, qH, putD, Slots.put, Slots.get, if_true, if_false, true_and, ↓qg, qd, ↓QT, Qb, Qj Tryz.underlying25 Xi, ↓qF, qo, fa38_0, ↓qJ, qD ag36, ↓qw, qh, qz, cond_false, qm, Xk, qj, QE, Int.toNat_natCast, Nat.add_zero, e0]
      try simp (disch := omega) only [wrap_u8]
      try simp +decide only [qa, ev, qK, qH, putD, Slots.put, Slots.get, if_true, if_false, true_and, ↓ap_slice, pop_slice, evO, pSliceS_ii Tryz.underlying9, pSliceS, bndA_int, ↓qw, qh, qP, cond_false, XN, pS_add, ↓qg, qd, ↓QT, Qb, Qj Tryz.underlying25 Xi, ↓qF, qo, fa38_1, ↓qJ, qD ag9, isNilC_str, ↓qc, qb, qE, Int.toNat_natCast, e1]
      rw [hcut]
      repeat (with_reducible refine And.intro ?_ ?_; · first | trivial | omega | (simp only [List.length_append, List.length_cons, List.length_nil]; omega))
      change Awp _ _ _ _ _ _ _
      refine Xl [3, 4, 5, 6, 7] (by rfl) ?_
      simp +decide only [qa, ev, qK, qH, putD, Slots.put, Slots.get, Slots.keep, if_true, if_false, true_and, ↓qg, qd, ↓qw, qh, qz, cond_false, qm, Xk, ↓qc, qb]
      try simp (disch := omega) only [wrap_i64]
      try simp only [qR]
      exact ⟨⟨i + 1, out ++ [lettE.getD t.kind.toNat 0] ++ t.text ++ [124]⟩, rfl, Sub.refl _, ⟨hi, hnx.symm, by simp only [List.length_append, List.length_cons, List.length_nil]; omega⟩, by simp only; omega⟩
  · try simp only [decide_eq_false_iff_not] at hb1
    refine Ze ?_
    change Awp _ _ _ _ _ _ _
    refine awp_dseq_tail 3 [2, 3] mixed (by kernel_rfl) (by rfl) (by rfl) fun K hK => ?_
    simp +decide only [ev, putD, Slots.put, Slots.get, if_true, if_false, true_and, ↓qg, qd, ↓qJ, Qb, qi XL QR, ↓qc, qb, Xa, qf, List.getD_cons_zero, List.getD_cons_succ, Nat.zero_add, Nat.reduceAdd, qj, allLive, Bool.and_true]
    refine qp (by rfl) (by rfl) (by repeat (first | exact AHeap.set_same _ _ _ | assumption | refine (AHeap.set_ne _ _ (by first | assumption | exact Ne.symm (by assumption))).trans ?_)) QR (by rfl) (by rfl) (by first | exact Nat.le_refl _ | decide | (simp; done) | (simp; omega)) (Nat.zero_le _) (by rfl) ?_
    simp only [AVal.cells]
    simp +decide only [qa, ev, putD, Slots.get, Slots.keep, if_true, if_false, setAt, List.set_cons_zero, List.set_cons_succ, Nat.zero_add, Nat.reduceAdd]
    apply hK; clear hK K
    refine qU ?_
    refine qO h (by repeat (first | exact Sub.refl _ | assumption | refine Sub.trans_set ?_ (by assumption))) (?_) ?_
    · simp +decide only [QF, qB, ql, Slots.get, if_true, if_false, and_true, qB, ql, qi XL QR, Qi, qf, List.getD_cons_zero, List.getD_cons_succ, Nat.zero_add, Nat.reduceAdd, qj, allLive, Bool.and_true, qf, List.getD_cons_zero, List.getD_cons_succ, Nat.zero_add, Nat.reduceAdd, qj, allLive, Bool.and_true]
    
    simp +decide only [Slots.get, if_true, if_false, and_true, Zo, qB, ql, qi XL QR, Qi, qf, List.getD_cons_zero, List.getD_cons_succ, Nat.zero_add, Nat.reduceAdd, qj, allLive, Bool.and_true, qf, List.getD_cons_zero, List.getD_cons_succ, Nat.zero_add, Nat.reduceAdd, qj, allLive, Bool.and_true, QE]
    rw [hsE, ← i2, List.drop_eq_nil_of_le (by omega)]
    rfl
theorem sh1 : showE [109, 111, 118, 101, 32, 45, 49, 46, 53, 48, 32, 116, 111, 32, 65, 45, 49, 44, 32, 98, 40, 50, 41, 46] = ([87, 77, 79, 86, 69, 124, 78, 45, 49, 46, 53, 48, 124, 87, 84, 79, 124, 87, 65, 45, 49, 124, 87, 66, 124, 83, 40, 124, 78, 50, 124, 83, 41, 124, 46, 46, 124], ⟨0, 0, 0⟩) := by kernel_rfl
theorem sh2 : showE [48, 53, 32, 88, 32, 80, 73, 67, 32, 57, 40, 51, 41, 118, 57, 57, 46] = ([78, 48, 53, 124, 87, 88, 124, 87, 80, 73, 67, 124, 80, 57, 40, 51, 41, 86, 57, 57, 124, 46, 46, 124], ⟨0, 0, 0⟩) := by kernel_rfl
theorem sh3 : showE [65, 32, 45, 32, 49, 32, 42, 42, 32, 46, 53, 32, 60, 61, 32, 34, 66, 34, 34, 67, 34] = ([87, 65, 124, 83, 45, 124, 78, 49, 124, 83, 42, 42, 124, 78, 46, 53, 124, 83, 60, 61, 124, 81, 66, 34, 67, 124], ⟨0, 0, 0⟩) := by kernel_rfl
theorem sh4 : showE [61, 61, 49, 65, 61, 61, 32, 66, 89, 32, 55, 46] = ([61, 61, 61, 124, 87, 49, 65, 124, 61, 61, 61, 124, 87, 66, 89, 124, 78, 55, 124, 46, 46, 124], ⟨0, 0, 0⟩) := by kernel_rfl
theorem sh5 : (showE [88, 32, 65, 45, 44, 32, 89]).2 = ⟨4, 1, 14⟩ := by kernel_rfl
theorem sh6 : (showE [34, 34]).2 = ⟨4, 1, 12⟩ := by kernel_rfl
theorem sh7 : (showE [49, 45, 50]).2 = ⟨4, 1, 12⟩ := by kernel_rfl
theorem sh8 : (showE [80, 73, 67, 32, 46]).2 = ⟨4, 1, 16⟩ := by kernel_rfl
theorem sh9 : (showE [80, 73, 67, 32, 65, 34, 66, 34]).2 = ⟨4, 1, 16⟩ := by kernel_rfl
theorem c_showV (w₀ : World) (hm : MaxL w₀) (h : AHeap) (s : Str) (hl : s.length ≤ 1000000) {a : Str} {f : FaultC} (hs : showE s = (a, f)) : ACall Tryz.prog w₀ 18 [.str s] h (fun v h' => v = .tuple [.str a, QE f] ∧ h' = h) := by
  have := c_show w₀ hm h s hl
  rw [hs] at this
  exact this
theorem c_showF (w₀ : World) (hm : MaxL w₀) (h : AHeap) (s : Str) (hl : s.length ≤ 1000000) {f : FaultC} (hs : (showE s).2 = f) : ACall Tryz.prog w₀ 18 [.str s] h (fun v h' => v = .tuple [.str (showE s).1, QE f] ∧ h' = h) := by
  have := c_show w₀ hm h s hl
  rw [hs] at this
  exact this
set_option maxHeartbeats 2000000 in
theorem c_lives03 (w₀ : World) (hm : MaxL w₀) (h : AHeap) : ACall Tryz.prog w₀ 7 [] h (fun v h' => v = .bool true ∧ h' = h) := by
  refine qY (n := 117) (rs := [.tmp 0]) Tryz.func7 rfl rfl rfl rfl (Nat.le_of_ble_eq_true rfl) ?_
  simp only [Qf]
  refine awp_rseq [] (by rfl) fun K hK => ?_
  simp +decide only [qa, ev, qK, qH, putD, Slots.put, Slots.keep, if_false, true_and, ↓qc, qb]
  apply hK; clear hK K
  refine awp_rseq [1, 2] (by rfl) fun K hK => ?_
  refine qL (V := .tuple [.str [87, 77, 79, 86, 69, 124, 78, 45, 49, 46, 53, 48, 124, 87, 84, 79, 124, 87, 65, 45, 49, 124, 87, 66, 124, 83, 40, 124, 78, 50, 124, 83, 41, 124, 46, 46, 124], QE ⟨0, 0, 0⟩]) (by rfl) (by rfl) (c_showV w₀ hm _ _ (by decide) sh1) ?_
  simp +decide only [ev, putD, Slots.put, Slots.get, if_true, if_false, true_and, ↓qg, qd, ↓QU, QB, QL, List.getD_cons_zero, List.getD_cons_succ, List.getD_cons_zero, List.getD_cons_succ, QE]
  refine Qh ze31 (cs := [.int .i64 0, .int .i64 0, .int .i64 0]) (by rfl) fun k1q4 hk1q4 => ?_
  try have hf_1q4 : h k1q4 = none := by first | assumption | (simp only [AHeap.set_none] at hk1q4; simp only [hk1q4])
  simp +decide only [ev, putD, Slots.put, Slots.get, if_true, if_false, true_and, ↓qc, qb]
  refine qp (by rfl) (by rfl) (by repeat (first | exact AHeap.set_same _ _ _ | assumption | refine (AHeap.set_ne _ _ (by first | assumption | exact Ne.symm (by assumption))).trans ?_)) QR (by rfl) (by rfl) (by first | exact Nat.le_refl _ | decide | (simp; done) | (simp; omega)) (Nat.zero_le _) (by rfl) ?_
  simp only [AHeap.set_set, AVal.cells]
  simp +decide only [qa, ev, putD, Slots.get, Slots.keep, if_true, if_false, setAt, List.set_cons_zero, List.set_cons_succ, Nat.zero_add, Nat.reduceAdd]
  apply hK; clear hK K
  refine awp_rseq [1, 2, 3, 4] (by rfl) fun K hK => ?_
  refine qL (V := .tuple [.str [78, 48, 53, 124, 87, 88, 124, 87, 80, 73, 67, 124, 80, 57, 40, 51, 41, 86, 57, 57, 124, 46, 46, 124], QE ⟨0, 0, 0⟩]) (by rfl) (by rfl) (c_showV w₀ hm _ _ (by decide) sh2) ?_
  simp +decide only [ev, putD, Slots.put, Slots.get, if_true, if_false, true_and, ↓qg, qd, ↓QU, QB, QL, List.getD_cons_zero, List.getD_cons_succ, List.getD_cons_zero, List.getD_cons_succ, QE]
  refine Qh ze31 (cs := [.int .i64 0, .int .i64 0, .int .i64 0]) (by rfl) fun k2q4 hk2q4 => ?_
  have ne_2q4_1q4 : k2q4 ≠ k1q4 := by simp only [AHeap.set_none] at hk2q4; simp only [hk2q4, ne_eq, not_false_eq_true]
  try have hf_2q4 : h k2q4 = none := by first | assumption | (simp only [AHeap.set_none] at hk2q4; simp only [hk2q4])
  simp +decide only [ev, putD, Slots.put, Slots.get, if_true, if_false, true_and, ↓qc, qb]
  refine qp (by rfl) (by rfl) (by repeat (first | exact AHeap.set_same _ _ _ | assumption | refine (AHeap.set_ne _ _ (by first | assumption | exact Ne.symm (by assumption))).trans ?_)) QR (by rfl) (by rfl) (by first | exact Nat.le_refl _ | decide | (simp; done) | (simp; omega)) (Nat.zero_le _) (by rfl) ?_
  simp only [AHeap.set_set, AVal.cells]
  simp +decide only [qa, ev, putD, Slots.get, Slots.keep, if_true, if_false, setAt, List.set_cons_zero, List.set_cons_succ, Nat.zero_add, Nat.reduceAdd]
  apply hK; clear hK K
  refine awp_rseq [1, 2, 3, 4, 5, 6] (by rfl) fun K hK => ?_
  refine qL (V := .tuple [.str [87, 65, 124, 83, 45, 124, 78, 49, 124, 83, 42, 42, 124, 78, 46, 53, 124, 83, 60, 61, 124, 81, 66, 34, 67, 124], QE ⟨0, 0, 0⟩]) (by rfl) (by rfl) (c_showV w₀ hm _ _ (by decide) sh3) ?_
  simp +decide only [ev, putD, Slots.put, Slots.get, if_true, if_false, true_and, ↓qg, qd, ↓QU, QB, QL, List.getD_cons_zero, List.getD_cons_succ, List.getD_cons_zero, List.getD_cons_succ, QE]
  refine Qh ze31 (cs := [.int .i64 0, .int .i64 0, .int .i64 0]) (by rfl) fun k3q4 hk3q4 => ?_
  have ne_3q4_1q4 : k3q4 ≠ k1q4 := by simp only [AHeap.set_none] at hk3q4; simp only [hk3q4, ne_eq, not_false_eq_true]
  have ne_3q4_2q4 : k3q4 ≠ k2q4 := by simp only [AHeap.set_none] at hk3q4; simp only [hk3q4, ne_eq, not_false_eq_true]
  try have hf_3q4 : h k3q4 = none := by first | assumption | (simp only [AHeap.set_none] at hk3q4; simp only [hk3q4])
  simp +decide only [ev, putD, Slots.put, Slots.get, if_true, if_false, true_and, ↓qc, qb]
  refine qp (by rfl) (by rfl) (by repeat (first | exact AHeap.set_same _ _ _ | assumption | refine (AHeap.set_ne _ _ (by first | assumption | exact Ne.symm (by assumption))).trans ?_)) QR (by rfl) (by rfl) (by first | exact Nat.le_refl _ | decide | (simp; done) | (simp; omega)) (Nat.zero_le _) (by rfl) ?_
  simp only [AHeap.set_set, AVal.cells]
  simp +decide only [qa, ev, putD, Slots.get, Slots.keep, if_true, if_false, setAt, List.set_cons_zero, List.set_cons_succ, Nat.zero_add, Nat.reduceAdd]
  apply hK; clear hK K
  refine awp_rseq [1, 2, 3, 4, 5, 6, 7, 8] (by rfl) fun K hK => ?_
  refine qL (V := .tuple [.str [61, 61, 61, 124, 87, 49, 65, 124, 61, 61, 61, 124, 87, 66, 89, 124, 78, 55, 124, 46, 46, 124], QE ⟨0, 0, 0⟩]) (by rfl) (by rfl) (c_showV w₀ hm _ _ (by decide) sh4) ?_
  simp +decide only [ev, putD, Slots.put, Slots.get, if_true, if_false, true_and, ↓qg, qd, ↓QU, QB, QL, List.getD_cons_zero, List.getD_cons_succ, List.getD_cons_zero, List.getD_cons_succ, QE]
  refine Qh ze31 (cs := [.int .i64 0, .int .i64 0, .int .i64 0]) (by rfl) fun k4q4 hk4q4 => ?_
  have ne_4q4_1q4 : k4q4 ≠ k1q4 := by simp only [AHeap.set_none] at hk4q4; simp only [hk4q4, ne_eq, not_false_eq_true]
  have ne_4q4_2q4 : k4q4 ≠ k2q4 := by simp only [AHeap.set_none] at hk4q4; simp only [hk4q4, ne_eq, not_false_eq_true]
  have ne_4q4_3q4 : k4q4 ≠ k3q4 := by simp only [AHeap.set_none] at hk4q4; simp only [hk4q4, ne_eq, not_false_eq_true]
  try have hf_4q4 : h k4q4 = none := by first | assumption | (simp only [AHeap.set_none] at hk4q4; simp only [hk4q4])
  simp +decide only [ev, putD, Slots.put, Slots.get, if_true, if_false, true_and, ↓qc, qb]
  refine qp (by rfl) (by rfl) (by repeat (first | exact AHeap.set_same _ _ _ | assumption | refine (AHeap.set_ne _ _ (by first | assumption | exact Ne.symm (by assumption))).trans ?_)) QR (by rfl) (by rfl) (by first | exact Nat.le_refl _ | decide | (simp; done) | (simp; omega)) (Nat.zero_le _) (by rfl) ?_
  simp only [AHeap.set_set, AVal.cells]
  simp +decide only [qa, ev, putD, Slots.get, Slots.keep, if_true, if_false, setAt, List.set_cons_zero, List.set_cons_succ, Nat.zero_add, Nat.reduceAdd]
  apply hK; clear hK K
  refine awp_rseq [1, 2, 3, 4, 5, 6, 7, 8, 10] (by rfl) fun K hK => ?_
  refine qL (V := .tuple [.str (showE [88, 32, 65, 45, 44, 32, 89]).1, QE ⟨4, 1, 14⟩]) (by rfl) (by rfl) (c_showF w₀ hm _ _ (by decide) sh5) ?_
  simp +decide only [ev, putD, Slots.put, Slots.get, if_true, if_false, true_and, ↓qg, qd, ↓QU, QB, QL, List.getD_cons_zero, List.getD_cons_succ, List.getD_cons_zero, List.getD_cons_succ, QE]
  refine Qh ze31 (cs := [.int .i64 0, .int .i64 0, .int .i64 0]) (by rfl) fun k5q4 hk5q4 => ?_
  have ne_5q4_1q4 : k5q4 ≠ k1q4 := by simp only [AHeap.set_none] at hk5q4; simp only [hk5q4, ne_eq, not_false_eq_true]
  have ne_5q4_2q4 : k5q4 ≠ k2q4 := by simp only [AHeap.set_none] at hk5q4; simp only [hk5q4, ne_eq, not_false_eq_true]
  have ne_5q4_3q4 : k5q4 ≠ k3q4 := by simp only [AHeap.set_none] at hk5q4; simp only [hk5q4, ne_eq, not_false_eq_true]
  have ne_5q4_4q4 : k5q4 ≠ k4q4 := by simp only [AHeap.set_none] at hk5q4; simp only [hk5q4, ne_eq, not_false_eq_true]
  try have hf_5q4 : h k5q4 = none := by first | assumption | (simp only [AHeap.set_none] at hk5q4; simp only [hk5q4])
  simp +decide only [ev, putD, Slots.put, Slots.get, if_true, if_false, true_and, ↓qc, qb]
  refine qp (by rfl) (by rfl) (by repeat (first | exact AHeap.set_same _ _ _ | assumption | refine (AHeap.set_ne _ _ (by first | assumption | exact Ne.symm (by assumption))).trans ?_)) QR (by rfl) (by rfl) (by first | exact Nat.le_refl _ | decide | (simp; done) | (simp; omega)) (Nat.zero_le _) (by rfl) ?_
  simp only [AHeap.set_set, AVal.cells]
  simp +decide only [qa, ev, putD, Slots.get, Slots.keep, if_true, if_false, setAt, List.set_cons_zero, List.set_cons_succ, Nat.zero_add, Nat.reduceAdd]
  apply hK; clear hK K
  refine awp_rseq [1, 2, 3, 4, 5, 6, 7, 8, 10, 12] (by rfl) fun K hK => ?_
  refine qL (V := .tuple [.str (showE [34, 34]).1, QE ⟨4, 1, 12⟩]) (by rfl) (by rfl) (c_showF w₀ hm _ _ (by decide) sh6) ?_
  simp +decide only [ev, putD, Slots.put, Slots.get, if_true, if_false, true_and, ↓qg, qd, ↓QU, QB, QL, List.getD_cons_zero, List.getD_cons_succ, List.getD_cons_zero, List.getD_cons_succ, QE]
  refine Qh ze31 (cs := [.int .i64 0, .int .i64 0, .int .i64 0]) (by rfl) fun k6q4 hk6q4 => ?_
  have ne_6q4_1q4 : k6q4 ≠ k1q4 := by simp only [AHeap.set_none] at hk6q4; simp only [hk6q4, ne_eq, not_false_eq_true]
  have ne_6q4_2q4 : k6q4 ≠ k2q4 := by simp only [AHeap.set_none] at hk6q4; simp only [hk6q4, ne_eq, not_false_eq_true]
  have ne_6q4_3q4 : k6q4 ≠ k3q4 := by simp only [AHeap.set_none] at hk6q4; simp only [hk6q4, ne_eq, not_false_eq_true]
  have ne_6q4_4q4 : k6q4 ≠ k4q4 := by simp only [AHeap.set_none] at hk6q4; simp only [hk6q4, ne_eq, not_false_eq_true]
  have ne_6q4_5q4 : k6q4 ≠ k5q4 := by simp only [AHeap.set_none] at hk6q4; simp only [hk6q4, ne_eq, not_false_eq_true]
  try have hf_6q4 : h k6q4 = none := by first | assumption | (simp only [AHeap.set_none] at hk6q4; simp only [hk6q4])
  simp +decide only [ev, putD, Slots.put, Slots.get, if_true, if_false, true_and, ↓qc, qb]
  refine qp (by rfl) (by rfl) (by repeat (first | exact AHeap.set_same _ _ _ | assumption | refine (AHeap.set_ne _ _ (by first | assumption | exact Ne.symm (by assumption))).trans ?_)) QR (by rfl) (by rfl) (by first | exact Nat.le_refl _ | decide | (simp; done) | (simp; omega)) (Nat.zero_le _) (by rfl) ?_
  simp only [AHeap.set_set, AVal.cells]
  simp +decide only [qa, ev, putD, Slots.get, Slots.keep, if_true, if_false, setAt, List.set_cons_zero, List.set_cons_succ, Nat.zero_add, Nat.reduceAdd]
  apply hK; clear hK K
  refine awp_rseq [1, 2, 3, 4, 5, 6, 7, 8, 10, 12, 14] (by rfl) fun K hK => ?_
  refine qL (V := .tuple [.str (showE [49, 45, 50]).1, QE ⟨4, 1, 12⟩]) (by rfl) (by rfl) (c_showF w₀ hm _ _ (by decide) sh7) ?_
  simp +decide only [ev, putD, Slots.put, Slots.get, if_true, if_false, true_and, ↓qg, qd, ↓QU, QB, QL, List.getD_cons_zero, List.getD_cons_succ, List.getD_cons_zero, List.getD_cons_succ, QE]
  refine Qh ze31 (cs := [.int .i64 0, .int .i64 0, .int .i64 0]) (by rfl) fun k7q4 hk7q4 => ?_
  have ne_7q4_1q4 : k7q4 ≠ k1q4 := by simp only [AHeap.set_none] at hk7q4; simp only [hk7q4, ne_eq, not_false_eq_true]
  have ne_7q4_2q4 : k7q4 ≠ k2q4 := by simp only [AHeap.set_none] at hk7q4; simp only [hk7q4, ne_eq, not_false_eq_true]
  have ne_7q4_3q4 : k7q4 ≠ k3q4 := by simp only [AHeap.set_none] at hk7q4; simp only [hk7q4, ne_eq, not_false_eq_true]
  have ne_7q4_4q4 : k7q4 ≠ k4q4 := by simp only [AHeap.set_none] at hk7q4; simp only [hk7q4, ne_eq, not_false_eq_true]
  have ne_7q4_5q4 : k7q4 ≠ k5q4 := by simp only [AHeap.set_none] at hk7q4; simp only [hk7q4, ne_eq, not_false_eq_true]
  have ne_7q4_6q4 : k7q4 ≠ k6q4 := by simp only [AHeap.set_none] at hk7q4; simp only [hk7q4, ne_eq, not_false_eq_true]
  try have hf_7q4 : h k7q4 = none := by first | assumption | (simp only [AHeap.set_none] at hk7q4; simp only [hk7q4])
  simp +decide only [ev, putD, Slots.put, Slots.get, if_true, if_false, true_and, ↓qc, qb]
  refine qp (by rfl) (by rfl) (by repeat (first | exact AHeap.set_same _ _ _ | assumption | refine (AHeap.set_ne _ _ (by first | assumption | exact Ne.symm (by assumption))).trans ?_)) QR (by rfl) (by rfl) (by first | exact Nat.le_refl _ | decide | (simp; done) | (simp; omega)) (Nat.zero_le _) (by rfl) ?_
  simp only [AHeap.set_set, AVal.cells]
  simp +decide only [qa, ev, putD, Slots.get, Slots.keep, if_true, if_false, setAt, List.set_cons_zero, List.set_cons_succ, Nat.zero_add, Nat.reduceAdd]
  apply hK; clear hK K
  refine awp_rseq [1, 2, 3, 4, 5, 6, 7, 8, 10, 12, 14, 16] (by rfl) fun K hK => ?_
  refine qL (V := .tuple [.str (showE [80, 73, 67, 32, 46]).1, QE ⟨4, 1, 16⟩]) (by rfl) (by rfl) (c_showF w₀ hm _ _ (by decide) sh8) ?_
  simp +decide only [ev, putD, Slots.put, Slots.get, if_true, if_false, true_and, ↓qg, qd, ↓QU, QB, QL, List.getD_cons_zero, List.getD_cons_succ, List.getD_cons_zero, List.getD_cons_succ, QE]
  refine Qh ze31 (cs := [.int .i64 0, .int .i64 0, .int .i64 0]) (by rfl) fun k8q4 hk8q4 => ?_
  have ne_8q4_1q4 : k8q4 ≠ k1q4 := by simp only [AHeap.set_none] at hk8q4; simp only [hk8q4, ne_eq, not_false_eq_true]
  have ne_8q4_2q4 : k8q4 ≠ k2q4 := by simp only [AHeap.set_none] at hk8q4; simp only [hk8q4, ne_eq, not_false_eq_true]
  have ne_8q4_3q4 : k8q4 ≠ k3q4 := by simp only [AHeap.set_none] at hk8q4; simp only [hk8q4, ne_eq, not_false_eq_true]
  have ne_8q4_4q4 : k8q4 ≠ k4q4 := by simp only [AHeap.set_none] at hk8q4; simp only [hk8q4, ne_eq, not_false_eq_true]
  have ne_8q4_5q4 : k8q4 ≠ k5q4 := by simp only [AHeap.set_none] at hk8q4; simp only [hk8q4, ne_eq, not_false_eq_true]
  have ne_8q4_6q4 : k8q4 ≠ k6q4 := by simp only [AHeap.set_none] at hk8q4; simp only [hk8q4, ne_eq, not_false_eq_true]
  have ne_8q4_7q4 : k8q4 ≠ k7q4 := by simp only [AHeap.set_none] at hk8q4; simp only [hk8q4, ne_eq, not_false_eq_true]
  try have hf_8q4 : h k8q4 = none := by first | assumption | (simp only [AHeap.set_none] at hk8q4; simp only [hk8q4])
  simp +decide only [ev, putD, Slots.put, Slots.get, if_true, if_false, true_and, ↓qc, qb]
  refine qp (by rfl) (by rfl) (by repeat (first | exact AHeap.set_same _ _ _ | assumption | refine (AHeap.set_ne _ _ (by first | assumption | exact Ne.symm (by assumption))).trans ?_)) QR (by rfl) (by rfl) (by first | exact Nat.le_refl _ | decide | (simp; done) | (simp; omega)) (Nat.zero_le _) (by rfl) ?_
  simp only [AHeap.set_set, AVal.cells]
  simp +decide only [qa, ev, putD, Slots.get, Slots.keep, if_true, if_false, setAt, List.set_cons_zero, List.set_cons_succ, Nat.zero_add, Nat.reduceAdd]
  apply hK; clear hK K
  refine awp_rseq [1, 2, 3, 4, 5, 6, 7, 8, 10, 12, 14, 16, 18] (by rfl) fun K hK => ?_
  refine qL (V := .tuple [.str (showE [80, 73, 67, 32, 65, 34, 66, 34]).1, QE ⟨4, 1, 16⟩]) (by rfl) (by rfl) (c_showF w₀ hm _ _ (by decide) sh9) ?_
  simp +decide only [ev, putD, Slots.put, Slots.get, if_true, if_false, true_and, ↓qg, qd, ↓QU, QB, QL, List.getD_cons_zero, List.getD_cons_succ, List.getD_cons_zero, List.getD_cons_succ, QE]
  refine Qh ze31 (cs := [.int .i64 0, .int .i64 0, .int .i64 0]) (by rfl) fun k9q4 hk9q4 => ?_
  have ne_9q4_1q4 : k9q4 ≠ k1q4 := by simp only [AHeap.set_none] at hk9q4; simp only [hk9q4, ne_eq, not_false_eq_true]
  have ne_9q4_2q4 : k9q4 ≠ k2q4 := by simp only [AHeap.set_none] at hk9q4; simp only [hk9q4, ne_eq, not_false_eq_true]
  have ne_9q4_3q4 : k9q4 ≠ k3q4 := by simp only [AHeap.set_none] at hk9q4; simp only [hk9q4, ne_eq, not_false_eq_true]
  have ne_9q4_4q4 : k9q4 ≠ k4q4 := by simp only [AHeap.set_none] at hk9q4; simp only [hk9q4, ne_eq, not_false_eq_true]
  have ne_9q4_5q4 : k9q4 ≠ k5q4 := by simp only [AHeap.set_none] at hk9q4; simp only [hk9q4, ne_eq, not_false_eq_true]
  have ne_9q4_6q4 : k9q4 ≠ k6q4 := by simp only [AHeap.set_none] at hk9q4; simp only [hk9q4, ne_eq, not_false_eq_true]
  have ne_9q4_7q4 : k9q4 ≠ k7q4 := by simp only [AHeap.set_none] at hk9q4; simp only [hk9q4, ne_eq, not_false_eq_true]
  have ne_9q4_8q4 : k9q4 ≠ k8q4 := by simp only [AHeap.set_none] at hk9q4; simp only [hk9q4, ne_eq, not_false_eq_true]
  try have hf_9q4 : h k9q4 = none := by first | assumption | (simp only [AHeap.set_none] at hk9q4; simp only [hk9q4])
  simp +decide only [ev, putD, Slots.put, Slots.get, if_true, if_false, true_and, ↓qc, qb]
  refine qp (by rfl) (by rfl) (by repeat (first | exact AHeap.set_same _ _ _ | assumption | refine (AHeap.set_ne _ _ (by first | assumption | exact Ne.symm (by assumption))).trans ?_)) QR (by rfl) (by rfl) (by first | exact Nat.le_refl _ | decide | (simp; done) | (simp; omega)) (Nat.zero_le _) (by rfl) ?_
  simp only [AHeap.set_set, AVal.cells]
  simp +decide only [qa, ev, putD, Slots.get, Slots.keep, if_true, if_false, setAt, List.set_cons_zero, List.set_cons_succ, Nat.zero_add, Nat.reduceAdd]
  apply hK; clear hK K
  refine awp_rseq [1, 2, 3, 4, 5, 6, 7, 8, 10, 12, 14, 16, 18, 19] (by rfl) fun K hK => ?_
  simp +decide only [ev, qK, qH, putD, Slots.put, Slots.get, if_false, true_and, ↓Qo, ↓Qa, bld31_, evP, List.map_nil]
  refine Qh ze31 (cs := [.int .i64 0, .int .i64 0, .int .i64 0]) (by rfl) fun k10q1 hk10q1 => ?_
  have ne_10q1_1q4 : k10q1 ≠ k1q4 := by simp only [AHeap.set_none] at hk10q1; simp only [hk10q1, ne_eq, not_false_eq_true]
  have ne_10q1_2q4 : k10q1 ≠ k2q4 := by simp only [AHeap.set_none] at hk10q1; simp only [hk10q1, ne_eq, not_false_eq_true]
  have ne_10q1_3q4 : k10q1 ≠ k3q4 := by simp only [AHeap.set_none] at hk10q1; simp only [hk10q1, ne_eq, not_false_eq_true]
  have ne_10q1_4q4 : k10q1 ≠ k4q4 := by simp only [AHeap.set_none] at hk10q1; simp only [hk10q1, ne_eq, not_false_eq_true]
  have ne_10q1_5q4 : k10q1 ≠ k5q4 := by simp only [AHeap.set_none] at hk10q1; simp only [hk10q1, ne_eq, not_false_eq_true]
  have ne_10q1_6q4 : k10q1 ≠ k6q4 := by simp only [AHeap.set_none] at hk10q1; simp only [hk10q1, ne_eq, not_false_eq_true]
  have ne_10q1_7q4 : k10q1 ≠ k7q4 := by simp only [AHeap.set_none] at hk10q1; simp only [hk10q1, ne_eq, not_false_eq_true]
  have ne_10q1_8q4 : k10q1 ≠ k8q4 := by simp only [AHeap.set_none] at hk10q1; simp only [hk10q1, ne_eq, not_false_eq_true]
  have ne_10q1_9q4 : k10q1 ≠ k9q4 := by simp only [AHeap.set_none] at hk10q1; simp only [hk10q1, ne_eq, not_false_eq_true]
  try have hf_10q1 : h k10q1 = none := by first | assumption | (simp only [AHeap.set_none] at hk10q1; simp only [hk10q1])
  refine qp (by rfl) (by rfl) (by repeat (first | exact AHeap.set_same _ _ _ | assumption | refine (AHeap.set_ne _ _ (by first | assumption | exact Ne.symm (by assumption))).trans ?_)) QR (by rfl) (by rfl) (by first | exact Nat.le_refl _ | decide | (simp; done) | (simp; omega)) (Nat.zero_le _) (by rfl) ?_
  simp only [AHeap.set_set, AVal.cells]
  simp +decide only [qa, ev, putD, Slots.put, Slots.get, Slots.keep, if_true, if_false, setAt, List.set_cons_zero, List.set_cons_succ, Nat.zero_add, Nat.reduceAdd]
  apply hK; clear hK K
  refine qN ?_
  refine awp_rseq [10, 12, 14, 16, 18, 90] (by kernel_rfl) fun K hK => ?_
  simp +decide only [qa, ev, qK, qH, putD, Slots.put, Slots.get, Slots.keep, if_true, if_false, true_and, ↓qJ, Qb, qi XL QR, ↓qw, qh, qP, cond_false, pBinX_agg, ne31, ↓qg, qd, ↓Zm, XY, agL_mk, agP, Qm, qI, qG, qV, implies_true, decide_true, Bool.not_false, Bool.not_true, Qs, Bool.and_true, ↓QW, ↓QN, Qw, Qg, Xj, ↓Xf, isNilC_str, XN, pS_neq, XG, ne_eq, not_false_eq_true, ne_2q4_1q4.symm, ne_3q4_1q4.symm, ne_3q4_2q4.symm, ne_4q4_1q4.symm, ne_4q4_2q4.symm, ne_4q4_3q4.symm, ne_5q4_1q4.symm, ne_5q4_2q4.symm, ne_5q4_3q4.symm, ne_5q4_4q4.symm, ne_6q4_1q4.symm, ne_6q4_2q4.symm, ne_6q4_3q4.symm, ne_6q4_4q4.symm, ne_7q4_1q4.symm, ne_7q4_2q4.symm, ne_7q4_3q4.symm, ne_7q4_4q4.symm, ne_8q4_1q4.symm, ne_8q4_2q4.symm, ne_8q4_3q4.symm, ne_8q4_4q4.symm, ne_9q4_1q4.symm, ne_9q4_2q4.symm, ne_9q4_3q4.symm, ne_9q4_4q4.symm, ne_10q1_1q4.symm, ne_10q1_2q4.symm, ne_10q1_3q4.symm, ne_10q1_4q4.symm, Xa, qf, List.getD_cons_zero, List.getD_cons_succ, Nat.zero_add, Nat.reduceAdd, qj, allLive, Bool.and_true]
  apply hK; clear hK K
  refine qM (b := _) rfl (fun hb1 => ?_) (fun hb1 => ?_)
  · exact absurd hb1 (by decide)
  · try simp only at hb1
    refine qZ ?_
    change Awp _ _ _ _ _ _ _
    refine awp_rseq [0] (by kernel_rfl) fun K hK => ?_
    simp +decide only [qa, ev, qK, qH, putD, Slots.put, Slots.get, Slots.keep, if_true, if_false, true_and, ↓qJ, Qb, qi XL QR, ↓Qo, ↓Qa, bld29_0_1, evP, List.map_cons, List.map_nil, bld31_0_1, ↓qw, qh, qP, cond_false, pBinX_agg, eq31, ↓qg, qd, ↓Zm, XY, agL_mk, agP, Qm, qI, qG, qy, implies_true, decide_true, Qs, Bool.and_true, ↓ag_build, ↓QW, ↓QN, Qw, Qg, Xj, ↓qc, qb, XG, ne_eq, not_false_eq_true, ne_6q4_5q4.symm, ne_7q4_5q4.symm, ne_7q4_6q4.symm, ne_8q4_5q4.symm, ne_8q4_6q4.symm, ne_8q4_7q4.symm, ne_9q4_5q4.symm, ne_9q4_6q4.symm, ne_9q4_7q4.symm, ne_9q4_8q4.symm, ne_10q1_5q4.symm, ne_10q1_6q4.symm, ne_10q1_7q4.symm, ne_10q1_8q4.symm, ne_10q1_9q4.symm, Xa, qf, List.getD_cons_zero, List.getD_cons_succ, Nat.zero_add, Nat.reduceAdd, qj, allLive, Bool.and_true]
    apply hK; clear hK K
    refine qU ?_
    refine qO h (by repeat (first | exact Sub.refl _ | assumption | refine Sub.trans_set ?_ (by assumption))) (Qd (Qe)) ?_
    simp +decide only [Slots.get, if_true, and_true, QD]
    all_goals first | rfl | exact ⟨rfl, rfl⟩ | (simp +decide only [if_true, if_false, *]; done) | (trace_state; fail)
end Go.Proofs.YtmadddihphkmoaaGreatDoor

/-
  An assertion layer over the model's wp, part BB: a long statement, walked piece by piece.
  Conditions: none. Nothing here is about a particular program.
-/
namespace Go.AM
section
variable {P : Program} {w₀ : World} {ops : List Oper} {K : Slots → AHeap → Prop}
end
end Go.AM

/-
  Contracts: the reference's small functions.
  Conditions: none.
-/
namespace Go.Proofs.YtmadddihphkmoaaGreatDoor
open Go.AM
open Go.Proofs
open Go.Col
open Go.Tok
open Go.RowKit (Below)
set_option maxRecDepth 100000

end Go.Proofs.YtmadddihphkmoaaGreatDoor

/-
  Contracts: fold, name, picture, quote of the reference.
  Conditions: none.
-/
namespace Go.Proofs.YtmadddihphkmoaaGreatDoor
open Go.AM
open Go.Proofs
open Go.Col
open Go.Tok
open Go.RowKit (Below)
set_option maxRecDepth 100000

end Go.Proofs.YtmadddihphkmoaaGreatDoor

/-
  Contracts: picture, numeral of the reference.
  Conditions: none.
-/
namespace Go.Proofs.YtmadddihphkmoaaGreatDoor
open Go.AM
open Go.Proofs
open Go.Col
open Go.Tok
open Go.RowKit (Below)
set_option maxRecDepth 100000

end Go.Proofs.YtmadddihphkmoaaGreatDoor

/-
  Contracts: token of the reference.
  Conditions: none.
-/
namespace Go.Proofs.YtmadddihphkmoaaGreatDoor
open Go.AM
open Go.Proofs
open Go.Col
open Go.Tok
open Go.RowKit (Below)
set_option maxRecDepth 100000

end Go.Proofs.YtmadddihphkmoaaGreatDoor

/-
  Plain lemmas for token of the reference: QJ case by case.
  Conditions: none.
-/
namespace Go.Proofs.YtmadddihphkmoaaGreatDoor
open Go.AM
open Go.Proofs
open Go.Col
open Go.Tok
open Go.RowKit (Below)
set_option maxRecDepth 100000

theorem take_one {s : Str} {i : Nat} (h : i < s.length) : (s.drop i).take 1 = [qA s i] := by
  rw [drop_eq h, Qn h]
  rfl
theorem pic_21 (l : List TokC) (h : (QM l).2 = true) : (QM l).1 = true := by
  unfold QM at h ⊢
  split
  · rfl
  · rename_i q
    rw [if_neg q] at h
    cases h
end Go.Proofs.YtmadddihphkmoaaGreatDoor

/-
  Contracts: token of the reference.
  Conditions: none.
-/
namespace Go.Proofs.YtmadddihphkmoaaGreatDoor
open Go.AM
open Go.Proofs
open Go.Col
open Go.Tok
open Go.RowKit (Below)
set_option maxRecDepth 100000

end Go.Proofs.YtmadddihphkmoaaGreatDoor

/-
  Contracts: Scan of the reference.
  Conditions: none.
-/
namespace Go.Proofs.YtmadddihphkmoaaGreatDoor
open Go.AM
open Go.Proofs
open Go.Col
open Go.Tok
open Go.RowKit (Below)
set_option maxRecDepth 100000

def lenSum (cs : List CardC) : Nat := (cs.map fun c => c.text.length).sum
end Go.Proofs.YtmadddihphkmoaaGreatDoor

