import Derived.Test.YtkjdclhhmgjfbaaP05
/-! Chapter 4: the two disks, played. -/
open Go Go.Proofs Go.Am
set_option linter.unusedVariables false
set_option linter.unusedSimpArgs false
set_option autoImplicit false
namespace C04
theorem ag22 : aggT Try.prog 22 = some false := by kernel_rfl
theorem fo42_4 : fo Try.prog 42 4 = some (4, 1) := by kernel_rfl
theorem sz22 : sizeT Try.prog 22 = some 1 := by kernel_rfl
theorem und39 : Try.prog.underlying 39 = some (.pointer 87) := by kernel_rfl
def tk24 : Nat → Nat → Option Nat := fun _ _ => none
def pl24 : Nat → List PStep
  | 3 => [.q 0, .q 1, .q 2, .q 4, .q 5, .q 6, .s 3 [6, 5, 4, 1], .s 7 [5, 2, 1, 0], .q 8, .q 9]
  | 5 => [.q 0, .q 1, .q 2, .q 3, .q 4, .q 6, .q 7, .q 8, .q 9, .q 10, .s 5 [10, 9, 8, 7, 6, 3, 1], .s 11 [9, 7, 4, 3, 2, 1, 0], .q 12, .q 13]
  | 7 => [.q 0, .q 1, .q 2, .q 4, .q 5, .q 6, .s 3 [6, 5, 4, 1], .s 7 [5, 2, 1, 0], .q 8, .q 9]
  | 9 => [.q 0, .q 1, .q 2, .q 3, .q 4, .q 6, .q 7, .q 8, .q 9, .q 10, .s 5 [10, 9, 8, 7, 6, 3, 1], .s 11 [9, 7, 4, 3, 2, 1, 0], .q 12, .q 13]
  | 11 => [.q 0, .q 1, .q 2, .q 3, .q 4, .q 6, .q 7, .q 8, .q 9, .q 10, .s 5 [10, 9, 8, 7, 6, 3, 1], .s 11 [9, 7, 4, 3, 2, 1, 0], .q 12, .q 13]
  | 13 => [.q 0, .q 1, .q 2, .q 4, .q 5, .q 6, .s 3 [6, 5, 4, 1], .s 7 [5, 2, 1, 0], .q 8, .q 9]
  | _ => []
theorem cb24 : Try.f24.body.map (codeB Try.prog Try.f24.ntmps tk24 pl24) = some true := by kernel_rfl
theorem goes24 : goesB Try.prog 24 = true := by kernel_rfl
theorem goes55 : goesB Try.prog 55 = true := by kernel_rfl
theorem goes56 : goesB Try.prog 56 = true := by kernel_rfl
theorem goes58 : goesB Try.prog 58 = true := by kernel_rfl
set_option maxHeartbeats 4000000 in
set_option maxRecDepth 20000 in
theorem snd24 (M : Mem) (d x n : Nat) (s : DS) (O W O2 : Nat → Prop) (hT : Both M d x n s O W O2) (hn : n < BIG) (o : De2) (ho : okDe2 o) (hob : o.b.size ≤ 2 ^ 62) (c : Int) (z : DS) (e : s.two o = (c, z)) : SoundCall Try.prog 24 [ptr d, ptr x, encDe2 o] M fun r M' => r = .tup [int c, int c] ∧ ∃ O' W' O2', Both M' d x (n + 1) z O' W' O2' := by
  obtain ⟨ho1, ho2, ho3⟩ := ho
  have hp := hT.pok
  have hsh : List.map AVal.shut (AVal.agg [int o.kind, str o.a, str o.b, int o.n, .sl (o.keeps.map int) false]).cells = [int o.kind, str o.a, str o.b, int o.n, .sl (o.keeps.map int) false] := rfl
  refine SoundCall.go tk24 pl24 mixed Try.func24 cb24 rfl (Nat.le_of_ble_eq_true rfl) ?_
  refine s_seq ?_
  refine s_region ?_
  refine o_box (by first | exact e_raw rfl | exact e_agg rfl | exact e_sl rfl) rfl rfl (fun B1 hB1 => ?_)
  refine o_q (q_as (v_raw rfl)) rfl rfl rfl ?_
  refine o_q (q_as (v_raw rfl)) rfl rfl rfl ?_
  refine o_nil ?_
  refine s_seq ?_
  refine s_seq ?_
  refine s_region ?_
  refine o_q (q_fr fo42_0 rfl) rfl rfl rfl ?_
  refine o_q (q_ldm ag3 sz3 rfl (by repeat first | exact Mem.upd_self _ _ _ | assumption | refine Mem.upd_ne (by assumption) ?_) rfl (v_raw rfl)) rfl rfl rfl ?_
  refine o_call ((snd18 o.kind 11 _ (by decide) (by decide) ho1)) goes18 (ac (v_raw rfl) (ac (v_raw rfl) ac_nil)) rfl ?_
  refine o_nil ?_
  refine s_block ?_
  refine s_seq ?_
  refine s_region ?_
  refine o_q (q_eql rfl rfl) rfl rfl rfl ?_
  refine o_q (q_as (v_raw rfl)) rfl rfl rfl ?_
  refine o_nil ?_
  refine s_cond rfl (fun h1 => ?_) (fun h1 => ?_)
  · have k1 := h1; try simp only [decide_eq_true_eq, decide_eq_false_iff_not, Bool.not_eq_true', Bool.not_eq_false', Bool.not_true, Bool.not_false, List.length_map, Decidable.not_not] at k1
    have e2 : s.create o.a = (c, z) := by
      rw [← e]; unfold DS.two; rw [if_pos k1]
    have hfl : z.files.length ≤ s.files.length + 1 := by
      have := create_files s o.a
      rw [e2] at this; exact this
    refine s_seq ?_
    refine s_draw rfl ?_
    refine d_q rfl (q_mv ((by first | exact v_raw rfl | exact v_sptr rfl))) rfl rfl rfl ?_
    refine d_q rfl (q_fr fo42_1 rfl) rfl rfl rfl ?_
    refine d_q rfl (q_ldm ag9 sz9 rfl (by repeat first | exact Mem.upd_self _ _ _ | assumption | refine Mem.upd_ne (by assumption) ?_) rfl (v_raw rfl)) rfl rfl rfl ?_
    refine d_q rfl (q_mv ((by first | exact v_raw rfl | exact v_sptr rfl))) rfl rfl rfl ?_
    refine d_q rfl (q_fr fo42_1 rfl) rfl rfl rfl ?_
    refine d_q rfl (q_ldm ag9 sz9 rfl (by repeat first | exact Mem.upd_self _ _ _ | assumption | refine Mem.upd_ne (by assumption) ?_) rfl (v_raw rfl)) rfl rfl rfl ?_
    refine d_s rfl ?_
    refine o_callx ((create_at (hT.le (Mem.le_upd (Mem.le_refl M) hB1)).m.a hn e2)) goes11 (ac ((by first | exact v_raw rfl | exact v_sptr rfl)) (ac (v_raw rfl) ac_nil)) rfl ?_
    rintro r2 M2 ⟨rfl, hA⟩
    obtain ⟨O3, W3, hM⟩ := (hT.le (Mem.le_upd (Mem.le_refl M) hB1)).m.stepA hA
    have hM2 : M2 B1 = some (.cells [int o.kind, str o.a, str o.b, int o.n, .sl (o.keeps.map int) false]) := (hA.keep (by rw [Mem.upd_self]; exact fun h => by cases h) (fun h => hT.m.a.own.2 B1 (hT.m.a.own.1 B1 h) hB1)).trans (Mem.upd_self _ _ _)
    refine o_nil ⟨(by simp [Mem.upd, *]), ?_⟩
    refine d_s rfl ?_
    refine o_callx ((rcreate hM.r hp hn e2)) goes54 (ac ((by first | exact v_raw rfl | exact v_sptr rfl)) (ac (v_raw rfl) ac_nil)) rfl ?_
    rintro r3 M3 ⟨rfl, hR⟩
    have hM3 : M3 B1 = some (.cells [int o.kind, str o.a, str o.b, int o.n, .sl (o.keeps.map int) false]) := (hR.keep (by rw [hM2]; exact fun h => by cases h) (fun h => hT.m.r.ok B1 h hB1)).trans hM2
    refine o_nil ⟨(by simp [Mem.upd, *]), ?_⟩
    refine d_q rfl (q_as (v_raw rfl)) rfl rfl rfl ?_
    refine d_q rfl (q_as (v_raw rfl)) rfl rfl rfl ?_
    refine d_nil ?_
    refine s_ret ?_
    refine s_blk_ret ?_
    refine s_code_ret ?_
    refine s_end ?_
    obtain ⟨O4, W4, O5, hM4⟩ := hM.stepB hR
    exact ⟨rfl, O4, W4, O5, hM4, by have := hT.nf; omega⟩
  · have k1 := h1; try simp only [decide_eq_true_eq, decide_eq_false_iff_not, Bool.not_eq_true', Bool.not_eq_false', Bool.not_true, Bool.not_false, List.length_map, Decidable.not_not] at k1
    refine s_seq ?_
    refine s_region ?_
    refine o_q (q_eql rfl rfl) rfl rfl rfl ?_
    refine o_q (q_as (v_raw rfl)) rfl rfl rfl ?_
    refine o_nil ?_
    refine s_cond rfl (fun h2 => ?_) (fun h2 => ?_)
    · have k2 := h2; try simp only [decide_eq_true_eq, decide_eq_false_iff_not, Bool.not_eq_true', Bool.not_eq_false', Bool.not_true, Bool.not_false, List.length_map, Decidable.not_not] at k2
      have e2 : s.append o.a o.b = (c, z) := by
        rw [← e]; unfold DS.two; rw [if_neg k1, if_pos k2]
      have hfl : z.files.length ≤ s.files.length + 1 := by
        have := append_files s o.a o.b
        rw [e2] at this; exact this
      refine s_seq ?_
      refine s_draw rfl ?_
      refine d_q rfl (q_mv ((by first | exact v_raw rfl | exact v_sptr rfl))) rfl rfl rfl ?_
      refine d_q rfl (q_fr fo42_1 rfl) rfl rfl rfl ?_
      refine d_q rfl (q_ldm ag9 sz9 rfl (by repeat first | exact Mem.upd_self _ _ _ | assumption | refine Mem.upd_ne (by assumption) ?_) rfl (v_raw rfl)) rfl rfl rfl ?_
      refine d_q rfl (q_fr fo42_2 rfl) rfl rfl rfl ?_
      refine d_q rfl (q_ldm ag9 sz9 rfl (by repeat first | exact Mem.upd_self _ _ _ | assumption | refine Mem.upd_ne (by assumption) ?_) rfl (v_raw rfl)) rfl rfl rfl ?_
      refine d_q rfl (q_mv ((by first | exact v_raw rfl | exact v_sptr rfl))) rfl rfl rfl ?_
      refine d_q rfl (q_fr fo42_1 rfl) rfl rfl rfl ?_
      refine d_q rfl (q_ldm ag9 sz9 rfl (by repeat first | exact Mem.upd_self _ _ _ | assumption | refine Mem.upd_ne (by assumption) ?_) rfl (v_raw rfl)) rfl rfl rfl ?_
      refine d_q rfl (q_fr fo42_2 rfl) rfl rfl rfl ?_
      refine d_q rfl (q_ldm ag9 sz9 rfl (by repeat first | exact Mem.upd_self _ _ _ | assumption | refine Mem.upd_ne (by assumption) ?_) rfl (v_raw rfl)) rfl rfl rfl ?_
      refine d_s rfl ?_
      refine o_callx ((append_at (hT.le (Mem.le_upd (Mem.le_refl M) hB1)).m.a hn e2)) goes12 (ac ((by first | exact v_raw rfl | exact v_sptr rfl)) (ac (v_raw rfl) (ac (v_raw rfl) ac_nil))) rfl ?_
      rintro r2 M2 ⟨rfl, hA⟩
      obtain ⟨O3, W3, hM⟩ := (hT.le (Mem.le_upd (Mem.le_refl M) hB1)).m.stepA hA
      have hM2 : M2 B1 = some (.cells [int o.kind, str o.a, str o.b, int o.n, .sl (o.keeps.map int) false]) := (hA.keep (by rw [Mem.upd_self]; exact fun h => by cases h) (fun h => hT.m.a.own.2 B1 (hT.m.a.own.1 B1 h) hB1)).trans (Mem.upd_self _ _ _)
      refine o_nil ⟨(by simp [Mem.upd, *]), ?_⟩
      refine d_s rfl ?_
      refine o_callx ((rappend hM.r hp hn hob e2)) goes55 (ac ((by first | exact v_raw rfl | exact v_sptr rfl)) (ac (v_raw rfl) (ac (v_raw rfl) ac_nil))) rfl ?_
      rintro r3 M3 ⟨rfl, hR⟩
      have hM3 : M3 B1 = some (.cells [int o.kind, str o.a, str o.b, int o.n, .sl (o.keeps.map int) false]) := (hR.keep (by rw [hM2]; exact fun h => by cases h) (fun h => hT.m.r.ok B1 h hB1)).trans hM2
      refine o_nil ⟨(by simp [Mem.upd, *]), ?_⟩
      refine d_q rfl (q_as (v_raw rfl)) rfl rfl rfl ?_
      refine d_q rfl (q_as (v_raw rfl)) rfl rfl rfl ?_
      refine d_nil ?_
      refine s_ret ?_
      refine s_blk_ret ?_
      refine s_code_ret ?_
      refine s_end ?_
      obtain ⟨O4, W4, O5, hM4⟩ := hM.stepB hR
      exact ⟨rfl, O4, W4, O5, hM4, by have := hT.nf; omega⟩
    · have k2 := h2; try simp only [decide_eq_true_eq, decide_eq_false_iff_not, Bool.not_eq_true', Bool.not_eq_false', Bool.not_true, Bool.not_false, List.length_map, Decidable.not_not] at k2
      refine s_seq ?_
      refine s_region ?_
      refine o_q (q_eql rfl rfl) rfl rfl rfl ?_
      refine o_q (q_as (v_raw rfl)) rfl rfl rfl ?_
      refine o_nil ?_
      refine s_cond rfl (fun h3 => ?_) (fun h3 => ?_)
      · have k3 := h3; try simp only [decide_eq_true_eq, decide_eq_false_iff_not, Bool.not_eq_true', Bool.not_eq_false', Bool.not_true, Bool.not_false, List.length_map, Decidable.not_not] at k3
        have e2 : s.sync o.a = (c, z) := by
          rw [← e]; unfold DS.two; rw [if_neg k1, if_neg k2, if_pos k3]
        have hfl : z.files.length ≤ s.files.length + 1 := by
          have := sync_files s o.a
          rw [e2] at this; exact this
        refine s_seq ?_
        refine s_draw rfl ?_
        refine d_q rfl (q_mv ((by first | exact v_raw rfl | exact v_sptr rfl))) rfl rfl rfl ?_
        refine d_q rfl (q_fr fo42_1 rfl) rfl rfl rfl ?_
        refine d_q rfl (q_ldm ag9 sz9 rfl (by repeat first | exact Mem.upd_self _ _ _ | assumption | refine Mem.upd_ne (by assumption) ?_) rfl (v_raw rfl)) rfl rfl rfl ?_
        refine d_q rfl (q_mv ((by first | exact v_raw rfl | exact v_sptr rfl))) rfl rfl rfl ?_
        refine d_q rfl (q_fr fo42_1 rfl) rfl rfl rfl ?_
        refine d_q rfl (q_ldm ag9 sz9 rfl (by repeat first | exact Mem.upd_self _ _ _ | assumption | refine Mem.upd_ne (by assumption) ?_) rfl (v_raw rfl)) rfl rfl rfl ?_
        refine d_s rfl ?_
        refine o_callx ((sync_at (hT.le (Mem.le_upd (Mem.le_refl M) hB1)).m.a hn e2)) goes13 (ac ((by first | exact v_raw rfl | exact v_sptr rfl)) (ac (v_raw rfl) ac_nil)) rfl ?_
        rintro r2 M2 ⟨rfl, hA⟩
        obtain ⟨O3, W3, hM⟩ := (hT.le (Mem.le_upd (Mem.le_refl M) hB1)).m.stepA hA
        have hM2 : M2 B1 = some (.cells [int o.kind, str o.a, str o.b, int o.n, .sl (o.keeps.map int) false]) := (hA.keep (by rw [Mem.upd_self]; exact fun h => by cases h) (fun h => hT.m.a.own.2 B1 (hT.m.a.own.1 B1 h) hB1)).trans (Mem.upd_self _ _ _)
        refine o_nil ⟨(by simp [Mem.upd, *]), ?_⟩
        refine d_s rfl ?_
        refine o_callx ((rsync hM.r hp hn e2)) goes56 (ac ((by first | exact v_raw rfl | exact v_sptr rfl)) (ac (v_raw rfl) ac_nil)) rfl ?_
        rintro r3 M3 ⟨rfl, hR⟩
        have hM3 : M3 B1 = some (.cells [int o.kind, str o.a, str o.b, int o.n, .sl (o.keeps.map int) false]) := (hR.keep (by rw [hM2]; exact fun h => by cases h) (fun h => hT.m.r.ok B1 h hB1)).trans hM2
        refine o_nil ⟨(by simp [Mem.upd, *]), ?_⟩
        refine d_q rfl (q_as (v_raw rfl)) rfl rfl rfl ?_
        refine d_q rfl (q_as (v_raw rfl)) rfl rfl rfl ?_
        refine d_nil ?_
        refine s_ret ?_
        refine s_blk_ret ?_
        refine s_code_ret ?_
        refine s_end ?_
        obtain ⟨O4, W4, O5, hM4⟩ := hM.stepB hR
        exact ⟨rfl, O4, W4, O5, hM4, by have := hT.nf; omega⟩
      · have k3 := h3; try simp only [decide_eq_true_eq, decide_eq_false_iff_not, Bool.not_eq_true', Bool.not_eq_false', Bool.not_true, Bool.not_false, List.length_map, Decidable.not_not] at k3
        refine s_seq ?_
        refine s_region ?_
        refine o_q (q_eql rfl rfl) rfl rfl rfl ?_
        refine o_q (q_as (v_raw rfl)) rfl rfl rfl ?_
        refine o_nil ?_
        refine s_cond rfl (fun h4 => ?_) (fun h4 => ?_)
        · have k4 := h4; try simp only [decide_eq_true_eq, decide_eq_false_iff_not, Bool.not_eq_true', Bool.not_eq_false', Bool.not_true, Bool.not_false, List.length_map, Decidable.not_not] at k4
          have e2 : s.rename o.a o.b = (c, z) := by
            rw [← e]; unfold DS.two; rw [if_neg k1, if_neg k2, if_neg k3, if_pos k4]
          have hfl : z.files.length ≤ s.files.length + 1 := by
            have := rename_files s o.a o.b
            rw [e2] at this; exact this
          refine s_seq ?_
          refine s_draw rfl ?_
          refine d_q rfl (q_mv ((by first | exact v_raw rfl | exact v_sptr rfl))) rfl rfl rfl ?_
          refine d_q rfl (q_fr fo42_1 rfl) rfl rfl rfl ?_
          refine d_q rfl (q_ldm ag9 sz9 rfl (by repeat first | exact Mem.upd_self _ _ _ | assumption | refine Mem.upd_ne (by assumption) ?_) rfl (v_raw rfl)) rfl rfl rfl ?_
          refine d_q rfl (q_fr fo42_2 rfl) rfl rfl rfl ?_
          refine d_q rfl (q_ldm ag9 sz9 rfl (by repeat first | exact Mem.upd_self _ _ _ | assumption | refine Mem.upd_ne (by assumption) ?_) rfl (v_raw rfl)) rfl rfl rfl ?_
          refine d_q rfl (q_mv ((by first | exact v_raw rfl | exact v_sptr rfl))) rfl rfl rfl ?_
          refine d_q rfl (q_fr fo42_1 rfl) rfl rfl rfl ?_
          refine d_q rfl (q_ldm ag9 sz9 rfl (by repeat first | exact Mem.upd_self _ _ _ | assumption | refine Mem.upd_ne (by assumption) ?_) rfl (v_raw rfl)) rfl rfl rfl ?_
          refine d_q rfl (q_fr fo42_2 rfl) rfl rfl rfl ?_
          refine d_q rfl (q_ldm ag9 sz9 rfl (by repeat first | exact Mem.upd_self _ _ _ | assumption | refine Mem.upd_ne (by assumption) ?_) rfl (v_raw rfl)) rfl rfl rfl ?_
          refine d_s rfl ?_
          refine o_callx ((rename_at (hT.le (Mem.le_upd (Mem.le_refl M) hB1)).m.a hn e2)) goes19 (ac ((by first | exact v_raw rfl | exact v_sptr rfl)) (ac (v_raw rfl) (ac (v_raw rfl) ac_nil))) rfl ?_
          rintro r2 M2 ⟨rfl, hA⟩
          obtain ⟨O3, W3, hM⟩ := (hT.le (Mem.le_upd (Mem.le_refl M) hB1)).m.stepA hA
          have hM2 : M2 B1 = some (.cells [int o.kind, str o.a, str o.b, int o.n, .sl (o.keeps.map int) false]) := (hA.keep (by rw [Mem.upd_self]; exact fun h => by cases h) (fun h => hT.m.a.own.2 B1 (hT.m.a.own.1 B1 h) hB1)).trans (Mem.upd_self _ _ _)
          refine o_nil ⟨(by simp [Mem.upd, *]), ?_⟩
          refine d_s rfl ?_
          refine o_callx ((rrename hM.r hp hn e2)) goes57 (ac ((by first | exact v_raw rfl | exact v_sptr rfl)) (ac (v_raw rfl) (ac (v_raw rfl) ac_nil))) rfl ?_
          rintro r3 M3 ⟨rfl, hR⟩
          have hM3 : M3 B1 = some (.cells [int o.kind, str o.a, str o.b, int o.n, .sl (o.keeps.map int) false]) := (hR.keep (by rw [hM2]; exact fun h => by cases h) (fun h => hT.m.r.ok B1 h hB1)).trans hM2
          refine o_nil ⟨(by simp [Mem.upd, *]), ?_⟩
          refine d_q rfl (q_as (v_raw rfl)) rfl rfl rfl ?_
          refine d_q rfl (q_as (v_raw rfl)) rfl rfl rfl ?_
          refine d_nil ?_
          refine s_ret ?_
          refine s_blk_ret ?_
          refine s_code_ret ?_
          refine s_end ?_
          obtain ⟨O4, W4, O5, hM4⟩ := hM.stepB hR
          exact ⟨rfl, O4, W4, O5, hM4, by have := hT.nf; omega⟩
        · have k4 := h4; try simp only [decide_eq_true_eq, decide_eq_false_iff_not, Bool.not_eq_true', Bool.not_eq_false', Bool.not_true, Bool.not_false, List.length_map, Decidable.not_not] at k4
          refine s_seq ?_
          refine s_region ?_
          refine o_q (q_eql rfl rfl) rfl rfl rfl ?_
          refine o_q (q_as (v_raw rfl)) rfl rfl rfl ?_
          refine o_nil ?_
          refine s_cond rfl (fun h5 => ?_) (fun h5 => ?_)
          · have k5 := h5; try simp only [decide_eq_true_eq, decide_eq_false_iff_not, Bool.not_eq_true', Bool.not_eq_false', Bool.not_true, Bool.not_false, List.length_map, Decidable.not_not] at k5
            have e2 : s.trunc o.a o.n = (c, z) := by
              rw [← e]; unfold DS.two; rw [if_neg k1, if_neg k2, if_neg k3, if_neg k4, if_pos k5]
            have hfl : z.files.length ≤ s.files.length + 1 := by
              have := trunc_files s o.a o.n
              rw [e2] at this; exact this
            refine s_seq ?_
            refine s_draw rfl ?_
            refine d_q rfl (q_mv ((by first | exact v_raw rfl | exact v_sptr rfl))) rfl rfl rfl ?_
            refine d_q rfl (q_fr fo42_1 rfl) rfl rfl rfl ?_
            refine d_q rfl (q_ldm ag9 sz9 rfl (by repeat first | exact Mem.upd_self _ _ _ | assumption | refine Mem.upd_ne (by assumption) ?_) rfl (v_raw rfl)) rfl rfl rfl ?_
            refine d_q rfl (q_fr fo42_3 rfl) rfl rfl rfl ?_
            refine d_q rfl (q_ldm ag3 sz3 rfl (by repeat first | exact Mem.upd_self _ _ _ | assumption | refine Mem.upd_ne (by assumption) ?_) rfl (v_raw rfl)) rfl rfl rfl ?_
            refine d_q rfl (q_mv ((by first | exact v_raw rfl | exact v_sptr rfl))) rfl rfl rfl ?_
            refine d_q rfl (q_fr fo42_1 rfl) rfl rfl rfl ?_
            refine d_q rfl (q_ldm ag9 sz9 rfl (by repeat first | exact Mem.upd_self _ _ _ | assumption | refine Mem.upd_ne (by assumption) ?_) rfl (v_raw rfl)) rfl rfl rfl ?_
            refine d_q rfl (q_fr fo42_3 rfl) rfl rfl rfl ?_
            refine d_q rfl (q_ldm ag3 sz3 rfl (by repeat first | exact Mem.upd_self _ _ _ | assumption | refine Mem.upd_ne (by assumption) ?_) rfl (v_raw rfl)) rfl rfl rfl ?_
            refine d_s rfl ?_
            refine o_callx ((trunc_at (hT.le (Mem.le_upd (Mem.le_refl M) hB1)).m.a hn e2)) goes26 (ac ((by first | exact v_raw rfl | exact v_sptr rfl)) (ac (v_raw rfl) (ac (v_raw rfl) ac_nil))) rfl ?_
            rintro r2 M2 ⟨rfl, hA⟩
            obtain ⟨O3, W3, hM⟩ := (hT.le (Mem.le_upd (Mem.le_refl M) hB1)).m.stepA hA
            have hM2 : M2 B1 = some (.cells [int o.kind, str o.a, str o.b, int o.n, .sl (o.keeps.map int) false]) := (hA.keep (by rw [Mem.upd_self]; exact fun h => by cases h) (fun h => hT.m.a.own.2 B1 (hT.m.a.own.1 B1 h) hB1)).trans (Mem.upd_self _ _ _)
            refine o_nil ⟨(by simp [Mem.upd, *]), ?_⟩
            refine d_s rfl ?_
            refine o_callx ((rtrunc hM.r hp hn e2)) goes58 (ac ((by first | exact v_raw rfl | exact v_sptr rfl)) (ac (v_raw rfl) (ac (v_raw rfl) ac_nil))) rfl ?_
            rintro r3 M3 ⟨rfl, hR⟩
            have hM3 : M3 B1 = some (.cells [int o.kind, str o.a, str o.b, int o.n, .sl (o.keeps.map int) false]) := (hR.keep (by rw [hM2]; exact fun h => by cases h) (fun h => hT.m.r.ok B1 h hB1)).trans hM2
            refine o_nil ⟨(by simp [Mem.upd, *]), ?_⟩
            refine d_q rfl (q_as (v_raw rfl)) rfl rfl rfl ?_
            refine d_q rfl (q_as (v_raw rfl)) rfl rfl rfl ?_
            refine d_nil ?_
            refine s_ret ?_
            refine s_blk_ret ?_
            refine s_code_ret ?_
            refine s_end ?_
            obtain ⟨O4, W4, O5, hM4⟩ := hM.stepB hR
            exact ⟨rfl, O4, W4, O5, hM4, by have := hT.nf; omega⟩
          · have k5 := h5; try simp only [decide_eq_true_eq, decide_eq_false_iff_not, Bool.not_eq_true', Bool.not_eq_false', Bool.not_true, Bool.not_false, List.length_map, Decidable.not_not] at k5
            refine s_seq ?_
            refine s_region ?_
            refine o_q (q_eql rfl rfl) rfl rfl rfl ?_
            refine o_q (q_as (v_raw rfl)) rfl rfl rfl ?_
            refine o_nil ?_
            refine s_cond rfl (fun h6 => ?_) (fun h6 => ?_)
            · have k6 := h6; try simp only [decide_eq_true_eq, decide_eq_false_iff_not, Bool.not_eq_true', Bool.not_eq_false', Bool.not_true, Bool.not_false, List.length_map, Decidable.not_not] at k6
              have e2 : s.remove o.a = (c, z) := by
                rw [← e]; unfold DS.two; rw [if_neg k1, if_neg k2, if_neg k3, if_neg k4, if_neg k5, if_pos k6]
              have hfl : z.files.length ≤ s.files.length + 1 := by
                have := remove_files s o.a
                rw [e2] at this; exact this
              refine s_seq ?_
              refine s_draw rfl ?_
              refine d_q rfl (q_mv ((by first | exact v_raw rfl | exact v_sptr rfl))) rfl rfl rfl ?_
              refine d_q rfl (q_fr fo42_1 rfl) rfl rfl rfl ?_
              refine d_q rfl (q_ldm ag9 sz9 rfl (by repeat first | exact Mem.upd_self _ _ _ | assumption | refine Mem.upd_ne (by assumption) ?_) rfl (v_raw rfl)) rfl rfl rfl ?_
              refine d_q rfl (q_mv ((by first | exact v_raw rfl | exact v_sptr rfl))) rfl rfl rfl ?_
              refine d_q rfl (q_fr fo42_1 rfl) rfl rfl rfl ?_
              refine d_q rfl (q_ldm ag9 sz9 rfl (by repeat first | exact Mem.upd_self _ _ _ | assumption | refine Mem.upd_ne (by assumption) ?_) rfl (v_raw rfl)) rfl rfl rfl ?_
              refine d_s rfl ?_
              refine o_callx ((remove_at (hT.le (Mem.le_upd (Mem.le_refl M) hB1)).m.a hn e2)) goes27 (ac ((by first | exact v_raw rfl | exact v_sptr rfl)) (ac (v_raw rfl) ac_nil)) rfl ?_
              rintro r2 M2 ⟨rfl, hA⟩
              obtain ⟨O3, W3, hM⟩ := (hT.le (Mem.le_upd (Mem.le_refl M) hB1)).m.stepA hA
              have hM2 : M2 B1 = some (.cells [int o.kind, str o.a, str o.b, int o.n, .sl (o.keeps.map int) false]) := (hA.keep (by rw [Mem.upd_self]; exact fun h => by cases h) (fun h => hT.m.a.own.2 B1 (hT.m.a.own.1 B1 h) hB1)).trans (Mem.upd_self _ _ _)
              refine o_nil ⟨(by simp [Mem.upd, *]), ?_⟩
              refine d_s rfl ?_
              refine o_callx ((rremove hM.r hp hn e2)) goes59 (ac ((by first | exact v_raw rfl | exact v_sptr rfl)) (ac (v_raw rfl) ac_nil)) rfl ?_
              rintro r3 M3 ⟨rfl, hR⟩
              have hM3 : M3 B1 = some (.cells [int o.kind, str o.a, str o.b, int o.n, .sl (o.keeps.map int) false]) := (hR.keep (by rw [hM2]; exact fun h => by cases h) (fun h => hT.m.r.ok B1 h hB1)).trans hM2
              refine o_nil ⟨(by simp [Mem.upd, *]), ?_⟩
              refine d_q rfl (q_as (v_raw rfl)) rfl rfl rfl ?_
              refine d_q rfl (q_as (v_raw rfl)) rfl rfl rfl ?_
              refine d_nil ?_
              refine s_ret ?_
              refine s_blk_ret ?_
              refine s_code_ret ?_
              refine s_end ?_
              obtain ⟨O4, W4, O5, hM4⟩ := hM.stepB hR
              exact ⟨rfl, O4, W4, O5, hM4, by have := hT.nf; omega⟩
            · have k6 := h6; try simp only [decide_eq_true_eq, decide_eq_false_iff_not, Bool.not_eq_true', Bool.not_eq_false', Bool.not_true, Bool.not_false, List.length_map, Decidable.not_not] at k6
              have e2 : s.dirsync = (c, z) := by
                rw [← e]; unfold DS.two; rw [if_neg k1, if_neg k2, if_neg k3, if_neg k4, if_neg k5, if_neg k6, ]
              have hfl : z.files.length ≤ s.files.length + 1 := by
                have := dirsync_files s
                rw [e2] at this; exact this
              refine s_skip ?_
              refine s_blk_normal ?_
              refine s_seq ?_
              refine s_region ?_
              refine o_q (q_mv ((by first | exact v_raw rfl | exact v_sptr rfl))) rfl rfl rfl ?_
              refine o_callx ((dirsync_at (hT.le (Mem.le_upd (Mem.le_refl M) hB1)).m.a hn e2)) goes14 (ac ((by first | exact v_raw rfl | exact v_sptr rfl)) ac_nil) rfl ?_
              rintro r2 M2 ⟨rfl, hA⟩
              obtain ⟨O3, W3, hM⟩ := (hT.le (Mem.le_upd (Mem.le_refl M) hB1)).m.stepA hA
              have hM2 : M2 B1 = some (.cells [int o.kind, str o.a, str o.b, int o.n, .sl (o.keeps.map int) false]) := (hA.keep (by rw [Mem.upd_self]; exact fun h => by cases h) (fun h => hT.m.a.own.2 B1 (hT.m.a.own.1 B1 h) hB1)).trans (Mem.upd_self _ _ _)
              refine o_q (q_mv ((by first | exact v_raw rfl | exact v_sptr rfl))) rfl rfl rfl ?_
              refine o_callx ((rdirsync hM.r hp hn e2)) goes60 (ac ((by first | exact v_raw rfl | exact v_sptr rfl)) ac_nil) rfl ?_
              rintro r3 M3 ⟨rfl, hR⟩
              have hM3 : M3 B1 = some (.cells [int o.kind, str o.a, str o.b, int o.n, .sl (o.keeps.map int) false]) := (hR.keep (by rw [hM2]; exact fun h => by cases h) (fun h => hT.m.r.ok B1 h hB1)).trans hM2
              refine o_q (q_as (v_raw rfl)) rfl rfl rfl ?_
              refine o_q (q_as (v_raw rfl)) rfl rfl rfl ?_
              refine o_nil ?_
              refine s_ret ?_
              refine s_end ?_
              obtain ⟨O4, W4, O5, hM4⟩ := hM.stepB hR
              exact ⟨rfl, O4, W4, O5, hM4, by have := hT.nf; omega⟩

def tk25 : Nat → Nat → Option Nat := fun _ _ => none
def pl25 : Nat → List PStep
  | 4 => [.q 0, .q 1, .q 2, .q 3, .q 4, .q 5, .q 6, .q 7, .q 8, .q 10, .s 9 [10, 6, 5, 4, 3, 2, 1, 0], .s 11 [8, 6, 5, 4, 3, 2, 1, 0], .q 12, .q 13, .q 14, .q 15, .q 17, .s 16 [17, 13, 12, 10, 8, 7, 6, 5, 4, 3, 2, 1, 0], .s 18 [15, 13, 12, 10, 8, 7, 6, 5, 4, 3, 2, 1, 0], .q 19, .q 20, .q 21, .q 22, .q 24, .q 25, .q 26, .q 27, .s 23 [27, 26, 25, 24, 20, 19, 17, 15, 14, 13, 12, 10, 8, 7, 6, 5, 4, 3, 2, 1, 0], .q 28, .q 29]
  | _ => []
theorem cb25 : Try.f25.body.map (codeB Try.prog Try.f25.ntmps tk25 pl25) = some true := by kernel_rfl
theorem goes25 : goesB Try.prog 25 = true := by kernel_rfl
set_option maxHeartbeats 4000000 in
set_option maxRecDepth 20000 in
theorem snd25 (M : Mem) (d x n : Nat) (s : DS) (O W O2 : Nat → Prop) (hT : Both M d x n s O W O2) (hn : n < BIG) : SoundCall Try.prog 25 [ptr d, ptr x] M fun r M' => r = bool true ∧ M' = M := by
  have hp := hT.pok
  have hA := hT.m.a
  have hR := hT.m.r
  obtain ⟨l, k, hl⟩ : ∃ l k, s.list = (l, k) := ⟨_, _, rfl⟩
  have hll : l.length ≤ 200 := by
    have h1 := hA.gd.len
    unfold DS.list at hl
    split at hl
    · cases hl; exact Nat.zero_le _
    · cases hl; rw [List.length_map]; exact h1
  obtain ⟨vf, L, hI⟩ := hT.m.r
  obtain ⟨q1, q2, hd⟩ := hI.hd
  refine SoundCall.go tk25 pl25 mixed Try.func25 cb25 rfl (Nat.le_of_ble_eq_true rfl) ?_
  refine s_seq ?_
  refine s_region ?_
  refine o_q (q_as (v_raw rfl)) rfl rfl rfl ?_
  refine o_nil ?_
  refine s_seq ?_
  refine s_region ?_
  refine o_q (q_mv ((by first | exact v_raw rfl | exact v_sptr rfl))) rfl rfl rfl ?_
  refine o_call ((list_at hA hl)) goes28 (ac ((by first | exact v_raw rfl | exact v_sptr rfl)) ac_nil) rfl ?_
  refine o_q (q_mv (v_tup rfl)) rfl rfl rfl ?_
  refine o_q (q_ext rfl rfl (v_sl rfl)) rfl rfl rfl ?_
  refine o_q (q_ext rfl rfl (v_raw rfl)) rfl rfl rfl ?_
  refine o_q (q_as (v_sl rfl)) rfl rfl rfl ?_
  refine o_q (q_as (v_raw rfl)) rfl rfl rfl ?_
  refine o_nil ?_
  refine s_seq ?_
  refine s_region ?_
  refine o_q (q_mv ((by first | exact v_raw rfl | exact v_sptr rfl))) rfl rfl rfl ?_
  refine o_call ((rlist hR hp hn hl)) goes61 (ac ((by first | exact v_raw rfl | exact v_sptr rfl)) ac_nil) rfl ?_
  refine o_q (q_mv (v_tup rfl)) rfl rfl rfl ?_
  refine o_q (q_ext rfl rfl (v_sl rfl)) rfl rfl rfl ?_
  refine o_q (q_ext rfl rfl (v_raw rfl)) rfl rfl rfl ?_
  refine o_q (q_as (v_sl rfl)) rfl rfl rfl ?_
  refine o_q (q_as (v_raw rfl)) rfl rfl rfl ?_
  refine o_nil ?_
  refine s_seq ?_
  refine s_region ?_
  refine o_q (q_mv (v_sl rfl)) rfl rfl rfl ?_
  refine o_q (q_mv (v_sl rfl)) rfl rfl rfl ?_
  refine o_call ((texts_same l false false _ (by omega))) goes31 (ac (v_sl rfl) (ac (v_sl rfl) ac_nil)) rfl ?_
  refine o_q (q_as (v_raw rfl)) rfl rfl rfl ?_
  refine o_nil ?_
  refine s_seq ?_
  refine s_seq ?_
  refine s_draw rfl ?_
  refine d_q rfl (q_mv (v_raw rfl)) rfl rfl rfl ?_
  refine d_q rfl (q_not rfl) rfl rfl rfl ?_
  refine d_q rfl (q_mv (v_raw rfl)) rfl rfl rfl ?_
  refine d_yes rfl (q_mv (v_raw rfl)) rfl rfl rfl rfl rfl rfl ?_
  refine d_yes rfl (q_mv (v_raw rfl)) rfl rfl rfl rfl rfl rfl ?_
  refine d_yes rfl (q_neq rfl rfl) rfl rfl rfl rfl rfl rfl ?_
  refine d_q rfl (q_pick_c (t := false) rfl rfl (v_raw rfl)) rfl rfl rfl ?_
  refine d_q rfl (q_mv (v_raw rfl)) rfl rfl rfl ?_
  refine d_cases (want := false) (j := 7) rfl rfl (fun h1 => ?_) (fun h1 => ?_)
  · have k1 := h1; try simp only [decide_eq_true_eq, decide_eq_false_iff_not, Bool.not_eq_true', Bool.not_eq_false', Bool.not_true, Bool.not_false, List.length_map, Decidable.not_not] at k1
    refine d_yes rfl (q_mv ((by first | exact v_raw rfl | exact v_sptr rfl))) rfl rfl rfl h1 rfl rfl ?_
    refine d_yes rfl (q_mv ((by first | exact v_raw rfl | exact v_sptr rfl))) rfl rfl rfl h1 rfl rfl ?_
    refine d_s rfl ?_
    refine o_yes rfl rfl rfl h1 ?_
    refine o_call ((used_at hA)) goes32 (ac ((by first | exact v_raw rfl | exact v_sptr rfl)) ac_nil) rfl ?_
    refine o_nil ⟨(by simp [Mem.upd, *]), ?_⟩
    refine d_s rfl ?_
    refine o_yes rfl rfl rfl h1 ?_
    refine o_call ((rused hR hp hn)) goes62 (ac ((by first | exact v_raw rfl | exact v_sptr rfl)) ac_nil) rfl ?_
    refine o_nil ⟨(by simp [Mem.upd, *]), ?_⟩
    refine d_yes rfl (q_neq rfl rfl) rfl rfl rfl h1 rfl rfl ?_
    refine d_q rfl (q_pick_c (t := false) rfl h1 (v_raw rfl)) rfl rfl rfl ?_
    refine d_q rfl (q_mv (v_raw rfl)) rfl rfl rfl ?_
    refine d_cases (want := false) (j := 14) rfl rfl (fun h2 => ?_) (fun h2 => ?_)
    · have k2 := h2; try simp only [decide_eq_true_eq, decide_eq_false_iff_not, Bool.not_eq_true', Bool.not_eq_false', Bool.not_true, Bool.not_false, List.length_map, Decidable.not_not] at k2
      refine d_yes rfl (q_mv ((by first | exact v_raw rfl | exact v_sptr rfl))) rfl rfl rfl h2 rfl rfl ?_
      refine d_yes rfl (q_mv ((by first | exact v_raw rfl | exact v_sptr rfl))) rfl rfl rfl h2 rfl rfl ?_
      refine d_s rfl ?_
      refine o_yes rfl rfl rfl h2 ?_
      refine o_call ((free_at hA)) goes33 (ac ((by first | exact v_raw rfl | exact v_sptr rfl)) ac_nil) rfl ?_
      refine o_nil ⟨(by simp [Mem.upd, *]), ?_⟩
      refine d_s rfl ?_
      refine o_yes rfl rfl rfl h2 ?_
      refine o_call ((rfree hR hp hn)) goes63 (ac ((by first | exact v_raw rfl | exact v_sptr rfl)) ac_nil) rfl ?_
      refine o_nil ⟨(by simp [Mem.upd, *]), ?_⟩
      refine d_yes rfl (q_neq rfl rfl) rfl rfl rfl h2 rfl rfl ?_
      refine d_q rfl (q_pick_c (t := false) rfl h2 (v_raw rfl)) rfl rfl rfl ?_
      refine d_q rfl (q_mv (v_raw rfl)) rfl rfl rfl ?_
      refine d_cases (want := false) (j := 21) rfl rfl (fun h3 => ?_) (fun h3 => ?_)
      · have k3 := h3; try simp only [decide_eq_true_eq, decide_eq_false_iff_not, Bool.not_eq_true', Bool.not_eq_false', Bool.not_true, Bool.not_false, List.length_map, Decidable.not_not] at k3
        refine d_yes rfl (q_mv ((by first | exact v_raw rfl | exact v_sptr rfl))) rfl rfl rfl h3 rfl rfl ?_
        refine d_yes rfl (q_mv ((by first | exact v_raw rfl | exact v_sptr rfl))) rfl rfl rfl h3 rfl rfl ?_
        refine d_yes rfl (q_nil rfl) rfl rfl rfl h3 rfl rfl ?_
        refine d_yes rfl (q_fr fo87_6 rfl) rfl rfl rfl h3 rfl rfl ?_
        refine d_yes rfl (q_ldm ag4 sz4 rfl (by repeat first | exact Mem.upd_self _ _ _ | assumption | refine Mem.upd_ne (by assumption) ?_) rfl (v_raw rfl)) rfl rfl rfl h3 rfl rfl ?_
        refine d_s rfl ?_
        refine o_yes rfl rfl rfl h3 ?_
        refine o_call ((down_at hA)) goes29 (ac ((by first | exact v_raw rfl | exact v_sptr rfl)) ac_nil) rfl ?_
        refine o_nil ⟨(by simp [Mem.upd, *]), ?_⟩
        refine d_yes rfl (q_bneq und4 rfl rfl) rfl rfl rfl h3 rfl rfl ?_
        refine d_q rfl (q_pick_c (t := false) rfl h3 (v_raw rfl)) rfl rfl rfl ?_
        refine d_nil ?_
        refine s_cond rfl (fun h4 => ?_) (fun h4 => ?_)
        · have k4 := h4; try simp only [decide_eq_true_eq, decide_eq_false_iff_not, Bool.not_eq_true', Bool.not_eq_false', Bool.not_true, Bool.not_false, List.length_map, Decidable.not_not] at k4
          first | exact absurd rfl k4 | exact absurd trivial k4 | exact absurd trivial (by assumption)
        · have k4 := h4; try simp only [decide_eq_true_eq, decide_eq_false_iff_not, Bool.not_eq_true', Bool.not_eq_false', Bool.not_true, Bool.not_false, List.length_map, Decidable.not_not] at k4
          refine s_skip ?_
          refine s_seq ?_
          refine s_seq ?_
          refine s_region ?_
          refine o_q (q_as (v_raw rfl)) rfl rfl rfl ?_
          refine o_nil ?_
          refine s_block ?_
          refine s_loop (fun m S => ∃ T, ∃ i : Nat, S = ⟨setT (setT (setT (setT T 0 (ptr d)) 1 (ptr x)) 5 (.sl (l.map str) false)) 10 (int (i : Nat)), M⟩ ∧ i ≤ l.length ∧ m = l.length - i) l.length ?_ ?_
          · exact ⟨_, 0, St.mkT (kp (kp (kp (kp rfl rfl) rfl) rfl) rfl).symm, Nat.zero_le _, rfl⟩
          rintro m S ⟨T, i, rfl, hi, rfl⟩
          refine s_seq ?_
          refine s_seq ?_
          refine s_region ?_
          refine o_q (q_mv (v_raw rfl)) rfl rfl rfl ?_
          refine o_q (q_mv (v_sl rfl)) rfl rfl rfl ?_
          refine o_q (q_len rfl und49 rfl) rfl rfl rfl ?_
          refine o_q (q_lss rfl rfl) rfl rfl rfl ?_
          refine o_nil ?_
          refine s_cond rfl (fun h5 => ?_) (fun h5 => ?_)
          · have k5 := h5; try simp only [decide_eq_true_eq, decide_eq_false_iff_not, Bool.not_eq_true', Bool.not_eq_false', Bool.not_true, Bool.not_false, List.length_map, Decidable.not_not] at k5
            have hi2 : i < l.length := by omega
            obtain ⟨tx, kk, hrd⟩ : ∃ tx kk, s.read l[i] = (tx, kk) := ⟨_, _, rfl⟩
            refine s_skip ?_
            refine s_seq ?_
            refine s_block ?_
            refine s_seq ?_
            refine s_region ?_
            refine o_q (q_mv ((by first | exact v_raw rfl | exact v_sptr rfl))) rfl rfl rfl ?_
            refine o_q (q_mv (v_sl rfl)) rfl rfl rfl ?_
            refine o_q (q_mv (v_raw rfl)) rfl rfl rfl ?_
            refine o_q (q_idx und49 sz9 rfl rfl (by omega) (gm i (by first | omega | simp)) rfl) rfl rfl rfl ?_
            refine o_q (q_ld ag9 sz9 rfl (gm i (by first | omega | simp)) rfl (v_raw rfl)) rfl rfl rfl ?_
            refine o_call ((read_at hA hrd)) goes16 (ac ((by first | exact v_raw rfl | exact v_sptr rfl)) (ac (v_raw rfl) ac_nil)) rfl ?_
            refine o_q (q_mv (v_tup rfl)) rfl rfl rfl ?_
            refine o_q (q_ext rfl rfl (v_raw rfl)) rfl rfl rfl ?_
            refine o_q (q_ext rfl rfl (v_raw rfl)) rfl rfl rfl ?_
            refine o_q (q_as (v_raw rfl)) rfl rfl rfl ?_
            refine o_q (q_as (v_raw rfl)) rfl rfl rfl ?_
            refine o_nil ?_
            refine s_seq ?_
            refine s_region ?_
            refine o_q (q_mv ((by first | exact v_raw rfl | exact v_sptr rfl))) rfl rfl rfl ?_
            refine o_q (q_mv (v_sl rfl)) rfl rfl rfl ?_
            refine o_q (q_mv (v_raw rfl)) rfl rfl rfl ?_
            refine o_q (q_idx und49 sz9 rfl rfl (by omega) (gm i (by first | omega | simp)) rfl) rfl rfl rfl ?_
            refine o_q (q_ld ag9 sz9 rfl (gm i (by first | omega | simp)) rfl (v_raw rfl)) rfl rfl rfl ?_
            refine o_call ((rread hR hp hn hrd)) goes21 (ac ((by first | exact v_raw rfl | exact v_sptr rfl)) (ac (v_raw rfl) ac_nil)) rfl ?_
            refine o_q (q_mv (v_tup rfl)) rfl rfl rfl ?_
            refine o_q (q_ext rfl rfl (v_raw rfl)) rfl rfl rfl ?_
            refine o_q (q_ext rfl rfl (v_raw rfl)) rfl rfl rfl ?_
            refine o_q (q_as (v_raw rfl)) rfl rfl rfl ?_
            refine o_q (q_as (v_raw rfl)) rfl rfl rfl ?_
            refine o_nil ?_
            refine s_seq ?_
            refine s_region ?_
            refine o_q (q_mv (v_raw rfl)) rfl rfl rfl ?_
            refine o_q (q_mv (v_raw rfl)) rfl rfl rfl ?_
            refine o_q (q_sneq rfl rfl) rfl rfl rfl ?_
            refine o_q (q_mv (v_raw rfl)) rfl rfl rfl ?_
            refine o_cases (want := false) (j := 3) rfl rfl (fun h6 => ?_) (fun h6 => ?_)
            · have k6 := h6; try simp only [decide_eq_true_eq, decide_eq_false_iff_not, Bool.not_eq_true', Bool.not_eq_false', Bool.not_true, Bool.not_false, List.length_map, Decidable.not_not] at k6
              refine o_yes rfl rfl rfl h6 ?_
              refine o_q (q_mv (v_raw rfl)) rfl rfl rfl ?_
              refine o_yes rfl rfl rfl h6 ?_
              refine o_q (q_mv (v_raw rfl)) rfl rfl rfl ?_
              refine o_yes rfl rfl rfl h6 ?_
              refine o_q (q_neq rfl rfl) rfl rfl rfl ?_
              refine o_q (q_pick_c (t := false) rfl h6 (v_raw rfl)) rfl rfl rfl ?_
              refine o_nil ?_
              refine s_cond rfl (fun h7 => ?_) (fun h7 => ?_)
              · have k7 := h7; try simp only [decide_eq_true_eq, decide_eq_false_iff_not, Bool.not_eq_true', Bool.not_eq_false', Bool.not_true, Bool.not_false, List.length_map, Decidable.not_not] at k7
                first | exact absurd rfl k7 | exact absurd trivial k7 | exact absurd trivial (by assumption)
              · have k7 := h7; try simp only [decide_eq_true_eq, decide_eq_false_iff_not, Bool.not_eq_true', Bool.not_eq_false', Bool.not_true, Bool.not_false, List.length_map, Decidable.not_not] at k7
                refine s_skip ?_
                refine s_blk_normal ?_
                refine s_region ?_
                refine o_q (q_mv (v_raw rfl)) rfl rfl rfl ?_
                refine o_q (q_add rfl rfl (wrap64 (by omega) (by omega))) rfl rfl rfl ?_
                refine o_q (q_as (v_raw rfl)) rfl rfl rfl ?_
                refine o_nil ?_
                refine s_inv ?_
                exact ⟨l.length - (i + 1), by omega, _, i + 1, St.mkT (kp (kp (kp (kp rfl rfl) rfl) rfl) rfl).symm, by omega, rfl⟩
            · have k6 := h6; try simp only [decide_eq_true_eq, decide_eq_false_iff_not, Bool.not_eq_true', Bool.not_eq_false', Bool.not_true, Bool.not_false, List.length_map, Decidable.not_not] at k6
              first | exact absurd rfl k6 | exact absurd trivial k6 | exact absurd trivial (by assumption)
          · have k5 := h5; try simp only [decide_eq_true_eq, decide_eq_false_iff_not, Bool.not_eq_true', Bool.not_eq_false', Bool.not_true, Bool.not_false, List.length_map, Decidable.not_not] at k5
            refine s_exit ?_
            refine s_code_exit ?_
            refine s_inv_exit ?_
            refine s_blk_here ?_
            refine s_seq ?_
            refine s_region ?_
            refine o_q (q_as (v_raw rfl)) rfl rfl rfl ?_
            refine o_nil ?_
            refine s_ret ?_
            refine s_end ?_
            first | exact ⟨rfl, rfl⟩ | exact absurd trivial (by assumption)
      · have k3 := h3; try simp only [decide_eq_true_eq, decide_eq_false_iff_not, Bool.not_eq_true', Bool.not_eq_false', Bool.not_true, Bool.not_false, List.length_map, Decidable.not_not] at k3
        first | exact absurd rfl k3 | exact absurd trivial k3 | exact absurd trivial (by assumption)
    · have k2 := h2; try simp only [decide_eq_true_eq, decide_eq_false_iff_not, Bool.not_eq_true', Bool.not_eq_false', Bool.not_true, Bool.not_false, List.length_map, Decidable.not_not] at k2
      first | exact absurd rfl k2 | exact absurd trivial k2 | exact absurd trivial (by assumption)
  · have k1 := h1; try simp only [decide_eq_true_eq, decide_eq_false_iff_not, Bool.not_eq_true', Bool.not_eq_false', Bool.not_true, Bool.not_false, List.length_map, Decidable.not_not] at k1
    first | exact absurd rfl k1 | exact absurd trivial k1 | exact absurd trivial (by assumption)

def tk5 : Nat → Nat → Option Nat := fun _ _ => none
def pl5 : Nat → List PStep
  | 26 => [.q 0, .q 1, .q 2, .q 3, .q 4, .q 5, .s 6 [4, 3, 1]]
  | _ => []
theorem cb5 : Try.f5.body.map (codeB Try.prog Try.f5.ntmps tk5 pl5) = some true := by kernel_rfl
set_option maxHeartbeats 4000000 in
set_option maxRecDepth 20000 in
theorem snd5b (room : Int) (deeds : List De2) (own : Bool) (hrm : -2 ^ 63 ≤ room ∧ room < 2 ^ 63) (hdl : deeds.length < 2 ^ 60) (hde : ∀ o ∈ deeds, okDe2 o) (hdz : ∀ o ∈ deeds, o.b.size ≤ 2 ^ 62) (hkl : ∀ o ∈ deeds, o.keeps.length ≤ 17592186043904) (M : Mem) (hM : M = M0) (hb : room < 0 ∨ 1000000000 < room) : SoundCall Try.prog 5 [int room, .sl (deeds.map encDe2) own] M fun r M' => r = bool true ∧ M0.le M' := by
  subst hM
  refine SoundCall.go tk5 pl5 mixed Try.func5 cb5 rfl (Nat.le_of_ble_eq_true rfl) ?_
  refine s_seq ?_
  refine s_region ?_
  refine o_q (q_as (v_raw rfl)) rfl rfl rfl ?_
  refine o_nil ?_
  refine s_seq ?_
  refine s_region ?_
  refine o_call (ex9) goes9 ac_nil rfl ?_
  refine o_q (q_as (v_raw rfl)) rfl rfl rfl ?_
  refine o_nil ?_
  refine s_seq ?_
  refine s_region ?_
  refine o_q (q_mv (v_raw rfl)) rfl rfl rfl ?_
  refine o_call ((newNo _ room hb)) goes10 (ac (v_raw rfl) ac_nil) rfl ?_
  refine o_q (q_mv (v_tup rfl)) rfl rfl rfl ?_
  refine o_q (q_ext rfl rfl ((by first | exact v_raw rfl | exact v_sptr rfl))) rfl rfl rfl ?_
  refine o_q (q_ext rfl rfl (v_raw rfl)) rfl rfl rfl ?_
  refine o_q (q_as ((by first | exact v_raw rfl | exact v_sptr rfl))) rfl rfl rfl ?_
  refine o_q (q_as (v_raw rfl)) rfl rfl rfl ?_
  refine o_nil ?_
  refine s_seq ?_
  refine s_region ?_
  refine o_q (q_mv (v_raw rfl)) rfl rfl rfl ?_
  refine o_call ((rnewNo _ room hb)) goes20 (ac (v_raw rfl) ac_nil) rfl ?_
  refine o_q (q_as ((by first | exact v_raw rfl | exact v_sptr rfl))) rfl rfl rfl ?_
  refine o_nil ?_
  refine s_seq ?_
  refine s_seq ?_
  refine s_region ?_
  refine o_q (q_mv ((by first | exact v_raw rfl | exact v_sptr rfl))) rfl rfl rfl ?_
  refine o_q (q_peql und39 rfl rfl) rfl rfl rfl ?_
  refine o_nil ?_
  refine s_then rfl rfl ?_
  refine s_seq ?_
  refine s_region ?_
  refine o_q (q_mv (v_raw rfl)) rfl rfl rfl ?_
  refine o_q (q_mv (v_raw rfl)) rfl rfl rfl ?_
  refine o_yes rfl rfl rfl rfl ?_
  refine o_q (q_mv ((by first | exact v_raw rfl | exact v_sptr rfl))) rfl rfl rfl ?_
  refine o_yes rfl rfl rfl rfl ?_
  refine o_q (q_peql und24 rfl rfl) rfl rfl rfl ?_
  refine o_q (q_pick_c (t := true) rfl rfl (v_raw rfl)) rfl rfl rfl ?_
  refine o_q (q_mv (v_raw rfl)) rfl rfl rfl ?_
  refine o_yes rfl rfl rfl rfl ?_
  refine o_q (q_mv (v_raw rfl)) rfl rfl rfl ?_
  refine o_yes rfl rfl rfl rfl ?_
  refine o_q (q_eql rfl rfl) rfl rfl rfl ?_
  refine o_q (q_pick_c (t := true) rfl rfl (v_raw rfl)) rfl rfl rfl ?_
  refine o_q (q_as (v_raw rfl)) rfl rfl rfl ?_
  refine o_nil ?_
  refine s_ret ?_
  refine s_code_ret ?_
  refine s_end ?_
  exact ⟨rfl, le0 _⟩

set_option maxHeartbeats 4000000 in
set_option maxRecDepth 20000 in
theorem snd5g (room : Int) (deeds : List De2) (own : Bool) (hrm : -2 ^ 63 ≤ room ∧ room < 2 ^ 63) (hdl : deeds.length < 2 ^ 60) (hde : ∀ o ∈ deeds, okDe2 o) (hdz : ∀ o ∈ deeds, o.b.size ≤ 2 ^ 62) (hkl : ∀ o ∈ deeds, o.keeps.length ≤ 17592186043904) (M : Mem) (hM : M = M0) (h0 : 0 ≤ room) (h9 : room ≤ 1000000000) : SoundCall Try.prog 5 [int room, .sl (deeds.map encDe2) own] M fun r M' => r = bool true ∧ M0.le M' := by
  subst hM
  have hbig : BIG = 2 ^ 40 := rfl
  refine SoundCall.go tk5 pl5 mixed Try.func5 cb5 rfl (Nat.le_of_ble_eq_true rfl) ?_
  refine s_seq ?_
  refine s_region ?_
  refine o_q (q_as (v_raw rfl)) rfl rfl rfl ?_
  refine o_nil ?_
  refine s_seq ?_
  refine s_region ?_
  refine o_call (ex9) goes9 ac_nil rfl ?_
  refine o_q (q_as (v_raw rfl)) rfl rfl rfl ?_
  refine o_nil ?_
  refine s_seq ?_
  refine s_region ?_
  refine o_q (q_mv (v_raw rfl)) rfl rfl rfl ?_
  refine o_callx ((newOk M0 room h0 h9 _ nW)) goes10 (ac (v_raw rfl) ac_nil) rfl ?_
  rintro r0 M1 ⟨d, O0, W0, rfl, hA0, -⟩
  refine o_q (q_mv (v_tup rfl)) rfl rfl rfl ?_
  refine o_q (q_ext rfl rfl ((by first | exact v_raw rfl | exact v_sptr rfl))) rfl rfl rfl ?_
  refine o_q (q_ext rfl rfl (v_raw rfl)) rfl rfl rfl ?_
  refine o_q (q_as ((by first | exact v_raw rfl | exact v_sptr rfl))) rfl rfl rfl ?_
  refine o_q (q_as (v_raw rfl)) rfl rfl rfl ?_
  refine o_nil ?_
  refine s_seq ?_
  refine s_region ?_
  refine o_q (q_mv (v_raw rfl)) rfl rfl rfl ?_
  refine o_callx ((rnewOk M1 room h0 h9)) goes20 (ac (v_raw rfl) ac_nil) rfl ?_
  rintro r0 M2 ⟨x, O1, rfl, hR0, hle0, hn0, -⟩
  have hT0 := Both.new hA0 hR0 hle0 hn0
  refine o_q (q_as ((by first | exact v_raw rfl | exact v_sptr rfl))) rfl rfl rfl ?_
  refine o_nil ?_
  refine s_seq ?_
  refine s_seq ?_
  refine s_region ?_
  refine o_q (q_mv ((by first | exact v_raw rfl | exact v_sptr rfl))) rfl rfl rfl ?_
  refine o_q (q_peql und39 rfl rfl) rfl rfl rfl ?_
  refine o_nil ?_
  refine s_else rfl rfl ?_
  refine s_skip ?_
  refine s_seq ?_
  refine s_seq ?_
  refine s_region ?_
  refine o_q (q_mv ((by first | exact v_raw rfl | exact v_sptr rfl))) rfl rfl rfl ?_
  refine o_q (q_peql und24 rfl rfl) rfl rfl rfl ?_
  refine o_q (q_mv (v_raw rfl)) rfl rfl rfl ?_
  refine o_yes rfl rfl rfl rfl ?_
  refine o_q (q_mv (v_raw rfl)) rfl rfl rfl ?_
  refine o_yes rfl rfl rfl rfl ?_
  refine o_q (q_neq rfl rfl) rfl rfl rfl ?_
  refine o_q (q_pick_c (t := false) rfl rfl (v_raw rfl)) rfl rfl rfl ?_
  refine o_nil ?_
  refine s_cond rfl (fun h1 => ?_) (fun h1 => ?_)
  · have k1 := h1; try simp only [decide_eq_true_eq, decide_eq_false_iff_not, Bool.not_eq_true', Bool.not_eq_false', Bool.not_true, Bool.not_false, List.length_map, Decidable.not_not] at k1
    first | cases k1 | exact absurd rfl k1 | exact absurd trivial k1 | exact absurd trivial (by assumption)
  · have k1 := h1; try simp only [decide_eq_true_eq, decide_eq_false_iff_not, Bool.not_eq_true', Bool.not_eq_false', Bool.not_true, Bool.not_false, List.length_map, Decidable.not_not] at k1
    refine s_skip ?_
    refine s_seq ?_
    refine s_seq ?_
    refine s_region ?_
    refine o_q (q_as (v_raw rfl)) rfl rfl rfl ?_
    refine o_nil ?_
    refine s_block ?_
    refine s_loop (fun m S => ∃ T Mc s O W O2, ∃ i : Nat, S = ⟨setT (setT (setT (setT (setT T 1 (.sl (deeds.map encDe2) own)) 5 (bool true)) 6 (ptr d)) 8 (ptr x)) 9 (int (i : Nat)), Mc⟩ ∧ Both Mc d x i s O W O2 ∧ i ≤ 60 ∧ m = 60 - i) 60 ?_ ?_
    · exact ⟨_, _, DS.new room, O0, _, O1, 0, St.mkT (kp (kp (kp (kp (kp rfl rfl) rfl) rfl) rfl) rfl).symm, hT0, by decide, rfl⟩
    rintro m S ⟨T, Mc, s, O, W, O2, i, rfl, hT, hi, rfl⟩
    refine s_seq ?_
    refine s_seq ?_
    refine s_region ?_
    refine o_q (q_mv (v_raw rfl)) rfl rfl rfl ?_
    refine o_q (q_mv (v_sl rfl)) rfl rfl rfl ?_
    refine o_q (q_len rfl und38 rfl) rfl rfl rfl ?_
    refine o_q (q_lss rfl rfl) rfl rfl rfl ?_
    refine o_q (q_mv (v_raw rfl)) rfl rfl rfl ?_
    refine o_cases (want := true) (j := 4) rfl rfl (fun h2 => ?_) (fun h2 => ?_)
    · have k2 := h2; try simp only [decide_eq_true_eq, decide_eq_false_iff_not, Bool.not_eq_true', Bool.not_eq_false', Bool.not_true, Bool.not_false, List.length_map, Decidable.not_not] at k2
      refine o_yes rfl rfl rfl h2 ?_
      refine o_q (q_mv (v_raw rfl)) rfl rfl rfl ?_
      refine o_yes rfl rfl rfl h2 ?_
      refine o_q (q_lss rfl rfl) rfl rfl rfl ?_
      refine o_q (q_pick_c (t := true) rfl h2 (v_raw rfl)) rfl rfl rfl ?_
      refine o_nil ?_
      refine s_cond rfl (fun h3 => ?_) (fun h3 => ?_)
      · have k3 := h3; try simp only [decide_eq_true_eq, decide_eq_false_iff_not, Bool.not_eq_true', Bool.not_eq_false', Bool.not_true, Bool.not_false, List.length_map, Decidable.not_not] at k3
        have hil : i < deeds.length := by omega
        have hi60 : i < 60 := by omega
        obtain ⟨c, z, e⟩ : ∃ k z, s.two deeds[i] = (k, z) := ⟨_, _, rfl⟩
        obtain ⟨tx, kk, hrd⟩ : ∃ tx kk, s.read deeds[i].a = (tx, kk) := ⟨_, _, rfl⟩
        have hoi := hde _ (List.getElem_mem hil)
        have hpo := hT.pok
        have hi6 : i ≤ 60 := hi
        have hsh : (AVal.agg [int deeds[i].kind, str deeds[i].a, str deeds[i].b, int deeds[i].n, .sl (deeds[i].keeps.map int) false]).cells = [int deeds[i].kind, str deeds[i].a, str deeds[i].b, int deeds[i].n, .sl (deeds[i].keeps.map int) false] := rfl
        have hki := hkl _ (List.getElem_mem hil)
        refine s_skip ?_
        refine s_seq ?_
        refine s_block ?_
        refine s_seq ?_
        refine s_region ?_
        refine o_q (q_mv (v_sl rfl)) rfl rfl rfl ?_
        refine o_q (q_mv (v_raw rfl)) rfl rfl rfl ?_
        refine o_q (q_idx und38 sz42 rfl rfl (by omega) (gm i (by first | omega | simp)) rfl) rfl rfl rfl ?_
        refine o_q (q_lde ag42 sz42 rfl (gm i (by first | omega | simp)) rfl rfl) rfl rfl rfl ?_
        refine o_alloc zc42 (fun B1 hB1 => ?_)
        skip
        refine o_storew rfl (by repeat first | exact Mem.upd_self _ _ _ | assumption | refine Mem.upd_ne (by assumption) ?_) (by first | exact e_agg rfl | rfl) rfl sz42 rfl rfl rfl rfl ?_
        refine o_nil ?_
        refine s_seq ?_
        refine s_seq ?_
        refine s_region ?_
        refine o_q (q_fr fo42_0 rfl) rfl rfl rfl ?_
        refine o_q (q_ldm ag3 sz3 rfl (by repeat first | exact Mem.upd_self _ _ _ | assumption | refine Mem.upd_ne (by assumption) ?_) rfl (v_raw rfl)) rfl rfl rfl ?_
        refine o_call ((snd18 deeds[i].kind 11 _ (by decide) (by decide) hoi.1)) goes18 (ac (v_raw rfl) (ac (v_raw rfl) ac_nil)) rfl ?_
        refine o_nil ?_
        refine s_cut (fun S => ∃ T M4 z O4 W4 O5, S = ⟨setT (setT (setT (setT (setT T 1 (.sl (deeds.map encDe2) own)) 5 (bool true)) 6 (ptr d)) 8 (ptr x)) 9 (int (i : Nat)), M4⟩ ∧ Both M4 d x (i + 1) z O4 W4 O5) ?_ ?_
        · skip
          refine s_block ?_
          refine s_seq ?_
          refine s_region ?_
          refine o_q (q_eql rfl rfl) rfl rfl rfl ?_
          refine o_q (q_as (v_raw rfl)) rfl rfl rfl ?_
          refine o_nil ?_
          refine s_cond rfl (fun h4 => ?_) (fun h4 => ?_)
          · have k4 := h4; try simp only [decide_eq_true_eq, decide_eq_false_iff_not, Bool.not_eq_true', Bool.not_eq_false', Bool.not_true, Bool.not_false, List.length_map, Decidable.not_not] at k4
            refine s_seq ?_
            refine s_region ?_
            refine o_q (q_mv ((by first | exact v_raw rfl | exact v_sptr rfl))) rfl rfl rfl ?_
            refine o_q (q_fr fo42_1 rfl) rfl rfl rfl ?_
            refine o_q (q_ldm ag9 sz9 rfl (by repeat first | exact Mem.upd_self _ _ _ | assumption | refine Mem.upd_ne (by assumption) ?_) rfl (v_raw rfl)) rfl rfl rfl ?_
            refine o_call ((read_at (hT.le (leU (leU (Mem.le_refl Mc) hB1) hB1)).m.a hrd)) goes16 (ac ((by first | exact v_raw rfl | exact v_sptr rfl)) (ac (v_raw rfl) ac_nil)) rfl ?_
            refine o_q (q_mv (v_tup rfl)) rfl rfl rfl ?_
            refine o_q (q_ext rfl rfl (v_raw rfl)) rfl rfl rfl ?_
            refine o_q (q_ext rfl rfl (v_raw rfl)) rfl rfl rfl ?_
            refine o_q (q_as (v_raw rfl)) rfl rfl rfl ?_
            refine o_q (q_as (v_raw rfl)) rfl rfl rfl ?_
            refine o_nil ?_
            refine s_seq ?_
            refine s_region ?_
            refine o_q (q_mv ((by first | exact v_raw rfl | exact v_sptr rfl))) rfl rfl rfl ?_
            refine o_q (q_fr fo42_1 rfl) rfl rfl rfl ?_
            refine o_q (q_ldm ag9 sz9 rfl (by repeat first | exact Mem.upd_self _ _ _ | assumption | refine Mem.upd_ne (by assumption) ?_) rfl (v_raw rfl)) rfl rfl rfl ?_
            refine o_call ((rread (hT.le (leU (leU (Mem.le_refl Mc) hB1) hB1)).m.r hpo (by omega) hrd)) goes21 (ac ((by first | exact v_raw rfl | exact v_sptr rfl)) (ac (v_raw rfl) ac_nil)) rfl ?_
            refine o_q (q_mv (v_tup rfl)) rfl rfl rfl ?_
            refine o_q (q_ext rfl rfl (v_raw rfl)) rfl rfl rfl ?_
            refine o_q (q_ext rfl rfl (v_raw rfl)) rfl rfl rfl ?_
            refine o_q (q_as (v_raw rfl)) rfl rfl rfl ?_
            refine o_q (q_as (v_raw rfl)) rfl rfl rfl ?_
            refine o_nil ?_
            refine s_seq ?_
            refine s_region ?_
            refine o_q (q_mv (v_raw rfl)) rfl rfl rfl ?_
            refine o_q (q_mv (v_raw rfl)) rfl rfl rfl ?_
            refine o_q (q_sneq rfl rfl) rfl rfl rfl ?_
            refine o_q (q_mv (v_raw rfl)) rfl rfl rfl ?_
            refine o_cases (want := false) (j := 3) rfl rfl (fun h5 => ?_) (fun h5 => ?_)
            · have k5 := h5; try simp only [decide_eq_true_eq, decide_eq_false_iff_not, Bool.not_eq_true', Bool.not_eq_false', Bool.not_true, Bool.not_false, List.length_map, Decidable.not_not] at k5
              refine o_yes rfl rfl rfl h5 ?_
              refine o_q (q_mv (v_raw rfl)) rfl rfl rfl ?_
              refine o_yes rfl rfl rfl h5 ?_
              refine o_q (q_mv (v_raw rfl)) rfl rfl rfl ?_
              refine o_yes rfl rfl rfl h5 ?_
              refine o_q (q_neq rfl rfl) rfl rfl rfl ?_
              refine o_q (q_pick_c (t := false) rfl h5 (v_raw rfl)) rfl rfl rfl ?_
              refine o_nil ?_
              refine s_cond rfl (fun h6 => ?_) (fun h6 => ?_)
              · have k6 := h6; try simp only [decide_eq_true_eq, decide_eq_false_iff_not, Bool.not_eq_true', Bool.not_eq_false', Bool.not_true, Bool.not_false, List.length_map, Decidable.not_not] at k6
                first | cases k6 | exact absurd rfl k6 | exact absurd trivial k6 | exact absurd trivial (by assumption)
              · have k6 := h6; try simp only [decide_eq_true_eq, decide_eq_false_iff_not, Bool.not_eq_true', Bool.not_eq_false', Bool.not_true, Bool.not_false, List.length_map, Decidable.not_not] at k6
                refine s_skip ?_
                refine s_blk_normal ?_
                refine s_inv ?_
                first | exact ⟨_, _, s, O, W, O2, St.mkT (kp (kp (kp (kp (kp rfl rfl) rfl) rfl) rfl) rfl).symm, (hT.le (leU (leU (Mem.le_refl Mc) hB1) hB1)).up (Nat.le_succ i)⟩ | exact ⟨_, _, _, O4, W4, O5, St.mkT (kp (kp (kp (kp (kp rfl rfl) rfl) rfl) rfl) rfl).symm, hB4⟩ | exact ⟨_, _, _, O4, W4, O5, St.mkT (kp (kp (kp (kp (kp rfl rfl) rfl) rfl) rfl) rfl).symm, hM4.up (Nat.le_succ i), by first | (rw [crash_files]; exact Nat.le_trans hT.nf (Nat.le_succ i)) | exact Nat.le_trans hT.nf (Nat.le_succ i)⟩
            · have k5 := h5; try simp only [decide_eq_true_eq, decide_eq_false_iff_not, Bool.not_eq_true', Bool.not_eq_false', Bool.not_true, Bool.not_false, List.length_map, Decidable.not_not] at k5
              first | cases k5 | exact absurd rfl k5 | exact absurd trivial k5 | exact absurd trivial (by assumption)
          · have k4 := h4; try simp only [decide_eq_true_eq, decide_eq_false_iff_not, Bool.not_eq_true', Bool.not_eq_false', Bool.not_true, Bool.not_false, List.length_map, Decidable.not_not] at k4
            refine s_seq ?_
            refine s_region ?_
            refine o_q (q_eql rfl rfl) rfl rfl rfl ?_
            refine o_q (q_as (v_raw rfl)) rfl rfl rfl ?_
            refine o_nil ?_
            refine s_cond rfl (fun h7 => ?_) (fun h7 => ?_)
            · have k7 := h7; try simp only [decide_eq_true_eq, decide_eq_false_iff_not, Bool.not_eq_true', Bool.not_eq_false', Bool.not_true, Bool.not_false, List.length_map, Decidable.not_not] at k7
              refine s_skip ?_
              refine s_blk_normal ?_
              refine s_inv ?_
              first | exact ⟨_, _, s, O, W, O2, St.mkT (kp (kp (kp (kp (kp rfl rfl) rfl) rfl) rfl) rfl).symm, (hT.le (leU (leU (Mem.le_refl Mc) hB1) hB1)).up (Nat.le_succ i)⟩ | exact ⟨_, _, _, O4, W4, O5, St.mkT (kp (kp (kp (kp (kp rfl rfl) rfl) rfl) rfl) rfl).symm, hB4⟩ | exact ⟨_, _, _, O4, W4, O5, St.mkT (kp (kp (kp (kp (kp rfl rfl) rfl) rfl) rfl) rfl).symm, hM4.up (Nat.le_succ i), by first | (rw [crash_files]; exact Nat.le_trans hT.nf (Nat.le_succ i)) | exact Nat.le_trans hT.nf (Nat.le_succ i)⟩
            · have k7 := h7; try simp only [decide_eq_true_eq, decide_eq_false_iff_not, Bool.not_eq_true', Bool.not_eq_false', Bool.not_true, Bool.not_false, List.length_map, Decidable.not_not] at k7
              refine s_seq ?_
              refine s_region ?_
              refine o_q (q_eql rfl rfl) rfl rfl rfl ?_
              refine o_q (q_as (v_raw rfl)) rfl rfl rfl ?_
              refine o_nil ?_
              refine s_cond rfl (fun h8 => ?_) (fun h8 => ?_)
              · have k8 := h8; try simp only [decide_eq_true_eq, decide_eq_false_iff_not, Bool.not_eq_true', Bool.not_eq_false', Bool.not_true, Bool.not_false, List.length_map, Decidable.not_not] at k8
                refine s_seq ?_
                refine s_region ?_
                refine o_q (q_mv ((by first | exact v_raw rfl | exact v_sptr rfl))) rfl rfl rfl ?_
                refine o_q (q_fr fo42_3 rfl) rfl rfl rfl ?_
                refine o_q (q_ldm ag3 sz3 rfl (by repeat first | exact Mem.upd_self _ _ _ | assumption | refine Mem.upd_ne (by assumption) ?_) rfl (v_raw rfl)) rfl rfl rfl ?_
                refine o_callx ((fuse_at (hT.le (leU (leU (Mem.le_refl Mc) hB1) hB1)).m.a hoi.2.1 rfl)) goes17 (ac ((by first | exact v_raw rfl | exact v_sptr rfl)) (ac (v_raw rfl) ac_nil)) rfl ?_
                rintro r2 M2 ⟨rfl, hA⟩
                obtain ⟨O3, W3, hM⟩ := (hT.le (leU (leU (Mem.le_refl Mc) hB1) hB1)).m.stepA hA
                have hM2 : M2 B1 = some (.cells [int deeds[i].kind, str deeds[i].a, str deeds[i].b, int deeds[i].n, .sl (deeds[i].keeps.map int) false]) := (hA.keep (by rw [Mem.upd_self]; exact fun h => by cases h) (fun h => hT.m.a.own.2 B1 (hT.m.a.own.1 B1 h) hB1)).trans (Mem.upd_self _ _ _)
                refine o_nil ?_
                refine s_region ?_
                refine o_q (q_mv ((by first | exact v_raw rfl | exact v_sptr rfl))) rfl rfl rfl ?_
                refine o_q (q_fr fo42_3 rfl) rfl rfl rfl ?_
                refine o_q (q_ldm ag3 sz3 rfl (by repeat first | exact Mem.upd_self _ _ _ | assumption | refine Mem.upd_ne (by assumption) ?_) rfl (v_raw rfl)) rfl rfl rfl ?_
                refine o_callx ((rfuse hM.r hpo (by omega) hoi.2.1)) goes22 (ac ((by first | exact v_raw rfl | exact v_sptr rfl)) (ac (v_raw rfl) ac_nil)) rfl ?_
                rintro r3 M3 hR
                obtain ⟨O4, W4, O5, hM4⟩ := hM.stepB hR
                have hM3 : M3 B1 = some (.cells [int deeds[i].kind, str deeds[i].a, str deeds[i].b, int deeds[i].n, .sl (deeds[i].keeps.map int) false]) := (hR.keep (by rw [hM2]; exact fun h => by cases h) (fun h => hT.m.r.ok B1 h hB1)).trans hM2
                refine o_nil ?_
                refine s_blk_normal ?_
                refine s_inv ?_
                first | exact ⟨_, _, s, O, W, O2, St.mkT (kp (kp (kp (kp (kp rfl rfl) rfl) rfl) rfl) rfl).symm, (hT.le (leU (leU (Mem.le_refl Mc) hB1) hB1)).up (Nat.le_succ i)⟩ | exact ⟨_, _, _, O4, W4, O5, St.mkT (kp (kp (kp (kp (kp rfl rfl) rfl) rfl) rfl) rfl).symm, hB4⟩ | exact ⟨_, _, _, O4, W4, O5, St.mkT (kp (kp (kp (kp (kp rfl rfl) rfl) rfl) rfl) rfl).symm, hM4.up (Nat.le_succ i), by first | (rw [crash_files]; exact Nat.le_trans hT.nf (Nat.le_succ i)) | exact Nat.le_trans hT.nf (Nat.le_succ i)⟩
              · have k8 := h8; try simp only [decide_eq_true_eq, decide_eq_false_iff_not, Bool.not_eq_true', Bool.not_eq_false', Bool.not_true, Bool.not_false, List.length_map, Decidable.not_not] at k8
                refine s_seq ?_
                refine s_region ?_
                refine o_q (q_eql rfl rfl) rfl rfl rfl ?_
                refine o_q (q_as (v_raw rfl)) rfl rfl rfl ?_
                refine o_nil ?_
                refine s_cond rfl (fun h9 => ?_) (fun h9 => ?_)
                · have k9 := h9; try simp only [decide_eq_true_eq, decide_eq_false_iff_not, Bool.not_eq_true', Bool.not_eq_false', Bool.not_true, Bool.not_false, List.length_map, Decidable.not_not] at k9
                  refine s_seq ?_
                  refine s_draw rfl ?_
                  refine d_q rfl (q_mv ((by first | exact v_raw rfl | exact v_sptr rfl))) rfl rfl rfl ?_
                  refine d_q rfl (q_fr fo42_3 rfl) rfl rfl rfl ?_
                  refine d_q rfl (q_ldm ag3 sz3 rfl (by repeat first | exact Mem.upd_self _ _ _ | assumption | refine Mem.upd_ne (by assumption) ?_) rfl (v_raw rfl)) rfl rfl rfl ?_
                  refine d_q rfl (q_fr fo42_4 rfl) rfl rfl rfl ?_
                  refine d_q rfl (q_ldm ag22 sz22 rfl (by repeat first | exact Mem.upd_self _ _ _ | assumption | refine Mem.upd_ne (by assumption) ?_) rfl (v_sl rfl)) rfl rfl rfl ?_
                  refine d_q rfl (q_app_nil slt22 rfl rfl rfl (Els.map fun _ => ⟨rfl, rfl⟩) (by simp; omega)) rfl rfl rfl ?_
                  refine d_s rfl ?_
                  refine o_callx ((crash_at (hT.le (leU (leU (Mem.le_refl Mc) hB1) hB1)).m.a (by omega) hoi.2.1 hoi.2.2 rfl)) goes15 (ac ((by first | exact v_raw rfl | exact v_sptr rfl)) (ac (v_raw rfl) (ac (v_sl rfl) ac_nil))) rfl ?_
                  rintro r2 M2 hA
                  obtain ⟨O3, W3, hM⟩ := (hT.le (leU (leU (Mem.le_refl Mc) hB1) hB1)).m.stepA hA
                  have hM2 : M2 B1 = some (.cells [int deeds[i].kind, str deeds[i].a, str deeds[i].b, int deeds[i].n, .sl (deeds[i].keeps.map int) false]) := (hA.keep (by rw [Mem.upd_self]; exact fun h => by cases h) (fun h => hT.m.a.own.2 B1 (hT.m.a.own.1 B1 h) hB1)).trans (Mem.upd_self _ _ _)
                  refine o_nil ⟨(by simp [Mem.upd, *]), ?_⟩
                  refine d_nil ?_
                  refine s_region ?_
                  refine o_q (q_mv ((by first | exact v_raw rfl | exact v_sptr rfl))) rfl rfl rfl ?_
                  refine o_q (q_fr fo42_3 rfl) rfl rfl rfl ?_
                  refine o_q (q_ldm ag3 sz3 rfl (by repeat first | exact Mem.upd_self _ _ _ | assumption | refine Mem.upd_ne (by assumption) ?_) rfl (v_raw rfl)) rfl rfl rfl ?_
                  refine o_q (q_fr fo42_4 rfl) rfl rfl rfl ?_
                  refine o_q (q_ldm ag22 sz22 rfl (by repeat first | exact Mem.upd_self _ _ _ | assumption | refine Mem.upd_ne (by assumption) ?_) rfl (v_sl rfl)) rfl rfl rfl ?_
                  refine o_callx ((rcrash hM.r hpo (by omega) hoi.2.1 hoi.2.2)) goes23 (ac ((by first | exact v_raw rfl | exact v_sptr rfl)) (ac (v_raw rfl) (ac (v_sl rfl) ac_nil))) rfl ?_
                  rintro r3 M3 hR
                  obtain ⟨O4, W4, O5, hM4⟩ := hM.stepB hR
                  have hM3 : M3 B1 = some (.cells [int deeds[i].kind, str deeds[i].a, str deeds[i].b, int deeds[i].n, .sl (deeds[i].keeps.map int) false]) := (hR.keep (by rw [hM2]; exact fun h => by cases h) (fun h => hT.m.r.ok B1 h hB1)).trans hM2
                  refine o_nil ?_
                  refine s_blk_normal ?_
                  refine s_inv ?_
                  first | exact ⟨_, _, s, O, W, O2, St.mkT (kp (kp (kp (kp (kp rfl rfl) rfl) rfl) rfl) rfl).symm, (hT.le (leU (leU (Mem.le_refl Mc) hB1) hB1)).up (Nat.le_succ i)⟩ | exact ⟨_, _, _, O4, W4, O5, St.mkT (kp (kp (kp (kp (kp rfl rfl) rfl) rfl) rfl) rfl).symm, hB4⟩ | exact ⟨_, _, _, O4, W4, O5, St.mkT (kp (kp (kp (kp (kp rfl rfl) rfl) rfl) rfl) rfl).symm, hM4.up (Nat.le_succ i), by first | (rw [crash_files]; exact Nat.le_trans hT.nf (Nat.le_succ i)) | exact Nat.le_trans hT.nf (Nat.le_succ i)⟩
                · have k9 := h9; try simp only [decide_eq_true_eq, decide_eq_false_iff_not, Bool.not_eq_true', Bool.not_eq_false', Bool.not_true, Bool.not_false, List.length_map, Decidable.not_not] at k9
                  refine s_seq ?_
                  refine s_region ?_
                  refine o_q (q_mv ((by first | exact v_raw rfl | exact v_sptr rfl))) rfl rfl rfl ?_
                  refine o_q (q_mv ((by first | exact v_raw rfl | exact v_sptr rfl))) rfl rfl rfl ?_
                  refine o_q (q_ldmw ag42 sz42 rfl (by repeat first | exact Mem.upd_self _ _ _ | assumption | refine Mem.upd_ne (by assumption) ?_) rfl rfl) rfl rfl rfl ?_
                  refine o_callx ((snd24 _ d x i s O W O2 (hT.le (leU (leU (Mem.le_refl Mc) hB1) hB1)) (by omega) deeds[i] hoi (hdz _ (List.getElem_mem hil)) c z e)) goes24 (ac ((by first | exact v_raw rfl | exact v_sptr rfl)) (ac ((by first | exact v_raw rfl | exact v_sptr rfl)) (ac (v_agg rfl) ac_nil))) rfl ?_
                  rintro r2 M2 ⟨rfl, O4, W4, O5, hB4⟩
                  refine o_q (q_mv (v_tup rfl)) rfl rfl rfl ?_
                  refine o_q (q_ext rfl rfl (v_raw rfl)) rfl rfl rfl ?_
                  refine o_q (q_ext rfl rfl (v_raw rfl)) rfl rfl rfl ?_
                  refine o_q (q_as (v_raw rfl)) rfl rfl rfl ?_
                  refine o_q (q_as (v_raw rfl)) rfl rfl rfl ?_
                  refine o_nil ?_
                  refine s_seq ?_
                  refine s_region ?_
                  refine o_q (q_mv (v_raw rfl)) rfl rfl rfl ?_
                  refine o_q (q_mv (v_raw rfl)) rfl rfl rfl ?_
                  refine o_q (q_neq rfl rfl) rfl rfl rfl ?_
                  refine o_nil ?_
                  refine s_cond rfl (fun h10 => ?_) (fun h10 => ?_)
                  · have k10 := h10; try simp only [decide_eq_true_eq, decide_eq_false_iff_not, Bool.not_eq_true', Bool.not_eq_false', Bool.not_true, Bool.not_false, List.length_map, Decidable.not_not] at k10
                    first | cases k10 | exact absurd rfl k10 | exact absurd trivial k10 | exact absurd trivial (by assumption)
                  · have k10 := h10; try simp only [decide_eq_true_eq, decide_eq_false_iff_not, Bool.not_eq_true', Bool.not_eq_false', Bool.not_true, Bool.not_false, List.length_map, Decidable.not_not] at k10
                    refine s_skip ?_
                    refine s_blk_normal ?_
                    refine s_inv ?_
                    first | exact ⟨_, _, s, O, W, O2, St.mkT (kp (kp (kp (kp (kp rfl rfl) rfl) rfl) rfl) rfl).symm, (hT.le (leU (leU (Mem.le_refl Mc) hB1) hB1)).up (Nat.le_succ i)⟩ | exact ⟨_, _, _, O4, W4, O5, St.mkT (kp (kp (kp (kp (kp rfl rfl) rfl) rfl) rfl) rfl).symm, hB4⟩ | exact ⟨_, _, _, O4, W4, O5, St.mkT (kp (kp (kp (kp (kp rfl rfl) rfl) rfl) rfl) rfl).symm, hM4.up (Nat.le_succ i), by first | (rw [crash_files]; exact Nat.le_trans hT.nf (Nat.le_succ i)) | exact Nat.le_trans hT.nf (Nat.le_succ i)⟩
        rintro S ⟨T, M4, z, O4, W4, O5, rfl, hT4⟩
        refine s_seq ?_
        refine s_region ?_
        refine o_q (q_mv ((by first | exact v_raw rfl | exact v_sptr rfl))) rfl rfl rfl ?_
        refine o_q (q_mv ((by first | exact v_raw rfl | exact v_sptr rfl))) rfl rfl rfl ?_
        refine o_call ((snd25 _ d x (i + 1) z O4 W4 O5 hT4 (by omega))) goes25 (ac ((by first | exact v_raw rfl | exact v_sptr rfl)) (ac ((by first | exact v_raw rfl | exact v_sptr rfl)) ac_nil)) rfl ?_
        refine o_q (q_as (v_raw rfl)) rfl rfl rfl ?_
        refine o_nil ?_
        refine s_seq ?_
        refine s_region ?_
        refine o_q (q_mv (v_raw rfl)) rfl rfl rfl ?_
        refine o_q (q_not rfl) rfl rfl rfl ?_
        refine o_nil ?_
        refine s_else rfl rfl ?_
        refine s_skip ?_
        refine s_blk_normal ?_
        refine s_region ?_
        refine o_q (q_mv (v_raw rfl)) rfl rfl rfl ?_
        refine o_q (q_add rfl rfl (wrap64 (by omega) (by omega))) rfl rfl rfl ?_
        refine o_q (q_as (v_raw rfl)) rfl rfl rfl ?_
        refine o_nil ?_
        refine s_inv ?_
        exact ⟨60 - (i + 1), by omega, _, M4, z, O4, W4, O5, i + 1, St.mkT (kp (kp (kp (kp (kp rfl rfl) rfl) rfl) rfl) rfl).symm, hT4, by omega, rfl⟩
      · have k3 := h3; try simp only [decide_eq_true_eq, decide_eq_false_iff_not, Bool.not_eq_true', Bool.not_eq_false', Bool.not_true, Bool.not_false, List.length_map, Decidable.not_not] at k3
        refine s_exit ?_
        refine s_code_exit ?_
        refine s_inv_exit ?_
        refine s_blk_here ?_
        refine s_seq ?_
        refine s_region ?_
        refine o_q (q_mv (v_raw rfl)) rfl rfl rfl ?_
        refine o_q (q_as (v_raw rfl)) rfl rfl rfl ?_
        refine o_nil ?_
        refine s_ret ?_
        refine s_end ?_
        first | exact ⟨rfl, le0 _⟩ | exact absurd trivial (by assumption)
    · have k2 := h2; try simp only [decide_eq_true_eq, decide_eq_false_iff_not, Bool.not_eq_true', Bool.not_eq_false', Bool.not_true, Bool.not_false, List.length_map, Decidable.not_not] at k2
      refine o_no rfl rfl rfl rfl h2 ?_
      refine o_no rfl rfl rfl rfl h2 ?_
      refine o_q (q_pick_c (t := false) rfl h2 (v_raw rfl)) rfl rfl rfl ?_
      refine o_nil ?_
      refine s_else rfl rfl ?_
      refine s_exit ?_
      refine s_code_exit ?_
      refine s_inv_exit ?_
      refine s_blk_here ?_
      refine s_seq ?_
      refine s_region ?_
      refine o_q (q_mv (v_raw rfl)) rfl rfl rfl ?_
      refine o_q (q_as (v_raw rfl)) rfl rfl rfl ?_
      refine o_nil ?_
      refine s_ret ?_
      refine s_end ?_
      first | exact ⟨rfl, le0 _⟩ | exact absurd trivial (by assumption)
theorem snd5 (room : Int) (deeds : List De2) (own : Bool) (hrm : -2 ^ 63 ≤ room ∧ room < 2 ^ 63) (hdl : deeds.length < 2 ^ 60) (hde : ∀ o ∈ deeds, okDe2 o) (hdz : ∀ o ∈ deeds, o.b.size ≤ 2 ^ 62) (hkl : ∀ o ∈ deeds, o.keeps.length ≤ 17592186043904) (M : Mem) (hM : M = M0) : SoundCall Try.prog 5 [int room, .sl (deeds.map encDe2) own] M fun r M' => r = bool true ∧ M0.le M' := by
  by_cases h : 0 ≤ room ∧ room ≤ 1000000000
  · exact snd5g room deeds own hrm hdl hde hdz hkl M hM h.1 h.2
  · exact snd5b room deeds own hrm hdl hde hdz hkl M hM (by omega)

end C04
