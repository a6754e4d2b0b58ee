/-
  Contracts of strings.Builder's methods.
  Conditions: none.
-/
import Derived.Test.YthiiakghjoeikaaGreatDoorTy
import Derived.Test.YthiiakghjoeikaaGreatDoorShelf
import Derived.Test.YthiiakghjoeikaaGreatDoorAmW
set_option linter.unusedSimpArgs false
set_option linter.unnecessarySimpa false
set_option linter.unusedVariables false
namespace Go.Proofs.YthiiakghjoeikaaGreatDoor
open Go.AM
open Go.Proofs
set_option maxRecDepth 100000

theorem cc_fresh (b : Nat) (w : World) (T : TypeId) (cells : Nat) (h0 : w.cell? ⟨b, 0, none⟩ = some (.pointer none)) (hsh : w.shape? b = some (T, cells)) (hc : 0 < cells)
    (hlies : liesAt Tryz.prog Tryz.prog.depth T (cells / Tryz.prog.cellsOf T) 0 95 1 = true) (hfz : w.frozen? ⟨b, 0, none⟩ = false) :
    Calls Tryz.prog 96 #[.pointer (some ⟨b, 0, none⟩)] w fun e w' => e = .returned (.tuple #[]) ∧ w' = w.setCell ⟨b, 0, none⟩ (.pointer (some ⟨b, 0, none⟩)) := by
  have hsz : (Tryz.prog.info? 95).map (·.size) = some 2 := by kernel_rfl
  obtain ⟨j, hj, hjs⟩ := Option.map_eq_some_iff.1 hsz
  go_enter Tryz.func96, Tryz.ntmps96
  go_wp2
  rw [Lib.run_to_unsafe w ⟨b, 0, none⟩ Tryz.underlying93 Tryz.underlying139 hj (by rw [hjs]; decide) hsh hc]
  simp only [Result.andThen]
  rw [Oper.upon_value]
  go_wp2
  rw [run_callFunc_extern Tryz.func116 (by kernel_rfl) (by kernel_rfl) (by kernel_rfl) (e := Extern.AbiNoEscape.same) (by kernel_rfl)]
  rw [Lib.run_noEscape]
  simp only [Result.andThen]
  rw [Oper.upon_value]
  go_wp2
  rw [Lib.run_from_unsafe w ⟨b, 0, none⟩ Tryz.underlying139 Tryz.underlying93 hj hsh hlies]
  simp only [Result.andThen]
  rw [Oper.upon_value]
  go_wp2
  go_end0
  exact ⟨rfl, rfl⟩

theorem cc_used (b : Nat) (w : World) (h0 : w.cell? ⟨b, 0, none⟩ = some (.pointer (some ⟨b, 0, none⟩))) :
    Calls Tryz.prog 96 #[.pointer (some ⟨b, 0, none⟩)] w fun e w' => e = .returned (.tuple #[]) ∧ w' = w := by
  have hsz : (Tryz.prog.info? 95).map (·.size) = some 2 := by kernel_rfl
  obtain ⟨j, hj, hjs⟩ := Option.map_eq_some_iff.1 hsz
  go_enter Tryz.func96, Tryz.ntmps96
  go_wp2
  rw [Lib.run_neq_ptr_same w _ Tryz.underlying93 hj]
  go_wp2
  go_end0
  exact ⟨rfl, rfl⟩

/-- A variable in which a builder stands first. -/
structure BldT (T : TypeId) (m : Nat) : Prop where
  lies : liesAt Tryz.prog Tryz.prog.depth T 1 0 95 1 = true
  cells : Tryz.prog.cellsOf T = m
  two : 2 ≤ m
theorem bldT_self : BldT 95 2 := ⟨by kernel_rfl, by kernel_rfl, by omega⟩

theorem c_copyCheck (w₀ : World) (h : AHeap) (k : Nat) (rest : List AVal) (st : Bld) (T : TypeId) (hT : BldT T (rest.length + 2)) (ht : tyOf k = some T) (hst : st.ok 5 h k) :
    ACall Tryz.prog w₀ 96 [.ptr (.own k) 0] (bldH h k rest st) (fun v h' => v = .tuple [] ∧ h' = bldH h k rest ⟨true, st.buf⟩) := by
  intro φ vals w hr hvs
  simp only [VRs, VR] at hvs
  obtain ⟨v, vs', rfl, ⟨a, ha, rfl⟩, rfl⟩ := hvs
  obtain ⟨p, hp, hp0, ok⟩ := hr.own k _ (bldH_head hst)
  obtain ⟨t0, cs0, fr0, hcs0⟩ := hr.typ k p hp T ht
  simp only [locAddr, hp, Option.map_some, Option.some.injEq] at ha
  obtain ⟨cs, e, lo, hi, h1, h2, h3, h4, h5, h6⟩ := ok.row
  rw [hcs0] at h1
  cases h1
  obtain ⟨c0, hc0, hv0⟩ := ok.cell 0 (by simp)
  have hfz := ok.frozen 0 (Nat.zero_le _) (by simp at h3; omega)
  rw [t0] at hc0 hfz ha
  simp only [Nat.zero_add] at hc0 hfz ha
  subst ha
  have hsh : w.shape? p.blk = some (T, cs0.size) := by simp [World.shape?, hcs0]
  have hr' := hr.setCell (bldH_head hst) hp (o := 0) (x := .ptr (.own k) 0) (v := .pointer (some ⟨p.blk, 0, none⟩)) (by simp only [VR]; exact ⟨_, by simp [locAddr, hp, t0], rfl⟩) rfl (by simp) (Nat.zero_le _)
  simp only [List.set_cons_zero] at hr'
  rw [bldH_used hst, t0] at hr'
  have hun : VR φ (.tuple []) (.tuple #[]) := by simp only [VR]; exact ⟨[], rfl, by simp [VRs]⟩
  refine .inl ⟨_, Tryz.func96, rfl, rfl, ?_⟩
  simp only [List.getD_cons_zero] at hv0
  by_cases hu : st.used = true
  · have e0 : st.head k = .ptr (.own k) 0 := by rw [Bld.head, if_pos hu]
    rw [e0] at hv0
    simp only [VR, locAddr, hp, Option.map_some, Option.some.injEq] at hv0
    obtain ⟨a, ha, rfl⟩ := hv0
    subst ha
    rw [t0] at hc0
    refine (cc_used p.blk w (by simpa using hc0)).mono fun e w' ⟨e1, e2⟩ => ⟨.tuple #[], e1, φ, .tuple [], _, φ.le_refl, ?_, hun, rfl, rfl⟩
    rw [e2]
    have : st = ⟨true, st.buf⟩ := by cases st; simp at hu; simp [hu]
    rw [← this]
    exact hr
  · have e0 : st.head k = .nilPtr := by rw [Bld.head, if_neg hu]
    rw [e0] at hv0
    simp only [VR] at hv0
    subst hv0
    have hle : rest.length + 2 ≤ cs0.size := by simp at h3; omega
    refine (cc_fresh p.blk w T cs0.size hc0 hsh (by omega) (liesAt_first hT.lies (fun m u => by rw [Tryz.underlying95]; simp) (by
      rw [hT.cells]
      exact Nat.div_pos hle (by omega))) hfz).mono fun e w' ⟨e1, e2⟩ => ⟨.tuple #[], e1, φ, .tuple [], _, φ.le_refl, ?_, hun, rfl, rfl⟩
    rw [e2]
    exact hr'

set_option maxHeartbeats 1000000 in
theorem bs_some (b g cap cells : Nat) (l : List UInt8) (h0 : l ≠ []) (w : World) (hc1 : w.cell? ⟨b, 1, none⟩ = some (.slice (some ⟨g, 0, none⟩) l.length cap)) (hcap : cap ≠ 0) (hsh : w.shape? g = some (5, cells)) (hn : l.length ≤ cells)
    (h63 : l.length ≤ 9223372036854775807) (hcell : ∀ j x, l[j]? = some x → w.cell? ((⟨g, 0, none⟩ : Addr).add j) = some (.int .u8 x.toNat)) :
    Calls Tryz.prog 75 #[.pointer (some ⟨b, 0, none⟩)] w fun e w' => e = .returned (.string ⟨l.toArray⟩) ∧ w' = w.drew.freeze ⟨g, 0, none⟩ l.length := by
  have c1 : w.drew.cell? ⟨b, 1, none⟩ = some (.slice (some ⟨g, 0, none⟩) l.length cap) := hc1
  have hSD : (Builtin.unsafeSliceData_ #[22] 122 #[.slice (some ⟨g, 0, none⟩) l.length cap]).run Tryz.prog w.drew = .ok (.pointer (some ⟨g, 0, none⟩)) w.drew := Lib.run_unsafeSliceData_row _ _ _ _ _ _ hcap
  have hUS : (Builtin.unsafeString_ #[122, 3] 9 #[.pointer (some ⟨g, 0, none⟩), .int .i64 l.length]).run Tryz.prog w.drew = .ok (.string ⟨l.toArray⟩) (w.drew.freeze ⟨g, 0, none⟩ l.length) :=
    Lib.run_unsafeString_row w.drew 122 3 9 5 Tryz.underlying122 (by kernel_rfl) g cells hsh l h0 hn h63 hcell
  go_enter Tryz.func75, Tryz.ntmps75
  go_wp2
  have hmx : Tryz.prog.follows Departure.mixedOrders = true := mixed
  go_region_o
  all_goals (go_wp2; go_ret; exact ⟨rfl, rfl⟩)

set_option maxHeartbeats 1000000 in
theorem bs_nil (b : Nat) (w : World) (hc1 : w.cell? ⟨b, 1, none⟩ = some (.slice none 0 0)) :
    Calls Tryz.prog 75 #[.pointer (some ⟨b, 0, none⟩)] w fun e w' => e = .returned (.string ⟨#[]⟩) ∧ w' = w.drew := by
  have c1 : w.drew.cell? ⟨b, 1, none⟩ = some (.slice none 0 0) := hc1
  have hSD : (Builtin.unsafeSliceData_ #[22] 122 #[.slice none 0 0]).run Tryz.prog w.drew = .ok (.pointer none) w.drew := rfl
  have hUS : (Builtin.unsafeString_ #[122, 3] 9 #[.pointer none, .int .i64 0]).run Tryz.prog w.drew = .ok (.string .empty) w.drew := rfl
  go_enter Tryz.func75, Tryz.ntmps75
  go_wp2
  have hmx : Tryz.prog.follows Departure.mixedOrders = true := mixed
  go_region_o
  all_goals (go_wp2; go_ret; exact ⟨rfl, rfl⟩)

/-- What a builder holds; the builder is forgotten. -/
theorem c_bString (w₀ : World) (h : AHeap) (k : Nat) (rest : List AVal) (st : Bld) (T : TypeId) (hk : h k = none) (ht : tyOf k = some T) (hst : st.ok 5 h k) (hl : st.bytes.length ≤ 140737488355328) :
    ACall Tryz.prog w₀ 75 [.ptr (.own k) 0] (bldH h k rest st) (fun v h' => v = .str st.bytes ∧ h' = h) := by
  intro φ vals w hr hvs
  simp only [VRs, VR] at hvs
  obtain ⟨v, vs', rfl, ⟨a, ha, rfl⟩, rfl⟩ := hvs
  obtain ⟨p, hp, hp0, ok⟩ := hr.own k _ (bldH_head hst)
  obtain ⟨t0, cs0, fr0, hcs0⟩ := hr.typ k p hp T ht
  simp only [locAddr, hp, Option.map_some, Option.some.injEq] at ha
  obtain ⟨c1, hc1, hv1⟩ := ok.cell 1 (by simp)
  rw [t0] at hc1 ha
  simp only [Nat.zero_add] at hc1 ha
  subst ha
  simp only [List.getD_cons_succ, List.getD_cons_zero] at hv1
  refine .inl ⟨_, Tryz.func75, rfl, rfl, ?_⟩
  cases hb : st.buf with
  | none =>
    have e1 := Bld.slice_nil hb
    have e2 := Bld.bytes_nil hb
    rw [e1] at hv1
    simp only [VR] at hv1
    subst hv1
    rw [e2]
    refine (bs_nil p.blk w hc1).mono fun e w' ⟨e1, e2⟩ => ⟨_, e1, φ, .str [], h, φ.le_refl, ?_, rfl, rfl, rfl⟩
    rw [e2]
    exact hr.drew.forget (Sub.bldH hk hst)
  | some q =>
    obtain ⟨kb, l⟩ := q
    have e1 := Bld.slice_some hb
    have e2 := Bld.bytes_some hb
    obtain ⟨s1, s2, s3, s4⟩ := (Bld.ok_some hb).1 hst
    have hkb := bldH_buf (h := h) (k := k) (rest := rest) hb
    obtain ⟨pb, hpb, hpb0, okb⟩ := hr.own kb _ hkb
    obtain ⟨tb0, csb, frb, hcsb⟩ := hr.typ kb pb hpb _ s3
    obtain ⟨cs, e, lo, hi, h1, h2, h3, h4, h5, h6⟩ := okb.row
    rw [hcsb] at h1
    cases h1
    rw [byteCells_length] at h3
    rw [e1] at hv1
    simp only [VR] at hv1
    obtain ⟨k', p', c, a, hk', hp', rfl, hle, hca⟩ := hv1
    cases hk'
    rw [hpb] at hp'
    cases hp'
    have hln : l.length ≠ 0 := by simpa using s4
    obtain ⟨ha, hroom⟩ := hca (by omega)
    subst ha
    rw [tb0] at hc1
    rw [e2]
    rw [e2] at hl
    refine (bs_some p.blk pb.blk c csb.size l s4 w hc1 (by omega) (by simp [World.shape?, hcsb]) (by omega) (by omega) fun j x hj => ?_).mono fun e w' ⟨f1, f2⟩ => ⟨_, f1, φ, .str l, h, φ.le_refl, ?_, rfl, rfl, rfl⟩
    · have hjl : j < l.length := by
        rcases Nat.lt_or_ge j l.length with hx | hx
        · exact hx
        · rw [List.getElem?_eq_none hx] at hj; cases hj
      obtain ⟨cj, hcj, hvj⟩ := okb.cell j (by rw [byteCells_length]; exact hjl)
      rw [tb0, Nat.zero_add] at hcj
      simp only [byteCells_getD hjl] at hvj
      simp only [VR] at hvj
      subst hvj
      have ex : l.getD j 0 = x := by rw [List.getD, hj]; rfl
      rw [ex] at hcj
      have e8 : (⟨pb.blk, 0, none⟩ : Addr).add j = ⟨pb.blk, j, none⟩ := by
        unfold Addr.add
        by_cases hi : j = 0 <;> simp [hi]
      rw [e8]
      exact hcj
    · subst f2
      obtain ⟨z1, z2, z3, z4, z5, z6⟩ := freeze_facts w.drew ⟨pb.blk, 0, none⟩ l.length
      exact hr.drew.dropRow hkb hpb z1 z2 z3 z4 z5 z6 fun j c hj => ⟨Sub.bldH hk hst j c hj, fun e => by subst e; rw [s2] at hj; cases hj⟩
end Go.Proofs.YthiiakghjoeikaaGreatDoor
