import Derived.Test.YtkjdclhhmgjfbaaW04
import Derived.Test.YtkjdclhhmgjfbaaK04
/-! Chapter 4: the disk: what its functions compute. -/
open Go Go.Proofs Go.Am
set_option linter.unusedVariables false
set_option linter.unusedSimpArgs false
set_option autoImplicit false
namespace C04
theorem ag42 : aggT Try.prog 42 = some true := by kernel_rfl
theorem fo42_0 : fo Try.prog 42 0 = some (0, 1) := by kernel_rfl
theorem fo42_1 : fo Try.prog 42 1 = some (1, 1) := by kernel_rfl
theorem fo42_2 : fo Try.prog 42 2 = some (2, 1) := by kernel_rfl
theorem fo42_3 : fo Try.prog 42 3 = some (3, 1) := by kernel_rfl
theorem sz42 : sizeT Try.prog 42 = some 5 := by kernel_rfl
theorem und38 : Try.prog.underlying 38 = some (.slice 42) := by kernel_rfl
def tk18 : Nat → Nat → Option Nat := fun _ _ => none
def pl18 : Nat → List PStep := fun _ => []
theorem cb18 : Try.f18.body.map (codeB Try.prog Try.f18.ntmps tk18 pl18) = some true := by kernel_rfl
theorem goes18 : goesB Try.prog 18 = true := by kernel_rfl
-- carillon/carillonlaw04.pick params ['int', 'int'] results [['t', 4]] own [] names ['0:c', '1:n', '2:c', '3:n'] calls [] paths 2
set_option maxHeartbeats 4000000 in
set_option maxRecDepth 20000 in
theorem snd18 (c n : Int) (M : Mem) (hn : 0 < n) (hn2 : n < 2 ^ 62) (hc : -2 ^ 63 ≤ c ∧ c < 2 ^ 63) : SoundCall Try.prog 18 [int c, int n] M fun r M' => r = int (pick c n) ∧ M' = M := by
  refine SoundCall.go tk18 pl18 mixed Try.func18 cb18 rfl (Nat.le_of_ble_eq_true rfl) ?_
  refine s_seq ?_
  refine s_region ?_
  refine o_q (q_as (v_raw rfl)) rfl rfl rfl ?_
  refine o_nil ?_
  refine s_seq ?_
  refine s_seq ?_
  refine s_region ?_
  refine o_q (q_mv (v_raw rfl)) rfl rfl rfl ?_
  refine o_q (q_lss rfl rfl) rfl rfl rfl ?_
  refine o_nil ?_
  refine s_cond rfl (fun h1 => ?_) (fun h1 => ?_)
  · have k1 := h1; try simp only [decide_eq_true_eq, decide_eq_false_iff_not, Bool.not_eq_true', Bool.not_eq_false', Bool.not_true, Bool.not_false, List.length_map, Decidable.not_not] at k1
    refine s_region ?_
    refine o_q (q_mv (v_raw rfl)) rfl rfl rfl ?_
    refine o_q (q_add rfl rfl (wrap64 (by omega) (by omega))) rfl rfl rfl ?_
    refine o_q (q_neg rfl (wrap64 (by omega) (by omega))) rfl rfl rfl ?_
    refine o_q (q_as (v_raw rfl)) rfl rfl rfl ?_
    refine o_nil ?_
    refine s_seq ?_
    refine s_region ?_
    refine o_q (q_mv (v_raw rfl)) rfl rfl rfl ?_
    refine o_q (q_mv (v_raw rfl)) rfl rfl rfl ?_
    refine o_q (q_rem rfl rfl (by omega)) rfl rfl rfl ?_
    refine o_q (q_as (v_raw rfl)) rfl rfl rfl ?_
    refine o_nil ?_
    refine s_ret ?_
    refine s_end ?_
    unfold pick
    rw [if_pos (by omega)]
    exact ⟨congrArg int (Int.tmod_eq_emod_of_nonneg (by omega)), rfl⟩
  · have k1 := h1; try simp only [decide_eq_true_eq, decide_eq_false_iff_not, Bool.not_eq_true', Bool.not_eq_false', Bool.not_true, Bool.not_false, List.length_map, Decidable.not_not] at k1
    refine s_skip ?_
    refine s_seq ?_
    refine s_region ?_
    refine o_q (q_mv (v_raw rfl)) rfl rfl rfl ?_
    refine o_q (q_mv (v_raw rfl)) rfl rfl rfl ?_
    refine o_q (q_rem rfl rfl (by omega)) rfl rfl rfl ?_
    refine o_q (q_as (v_raw rfl)) rfl rfl rfl ?_
    refine o_nil ?_
    refine s_ret ?_
    refine s_end ?_
    unfold pick
    rw [if_neg (by omega)]
    exact ⟨congrArg int (Int.tmod_eq_emod_of_nonneg (by omega)), rfl⟩

def tk3 : Nat → Nat → Option Nat := fun _ _ => none
def pl3 : Nat → List PStep := fun _ => []
theorem cb3 : Try.f3.body.map (codeB Try.prog Try.f3.ntmps tk3 pl3) = some true := by kernel_rfl
theorem goes3 : goesB Try.prog 3 = true := by kernel_rfl
-- carillon/carillonlaw04.DiskLasts params ['string', 'string', 'string', 'int', '[]int'] results [['t', 10]] own [] names ['0:name', '1:synced', '2:more', '3:dirs', '4:keeps', '5:name', '6:synced', '7:more', '8:dirs', '9:keeps', '11:head', '12:d', '13:_', '14:e', '15:f', '16:g', '17:s', '18:h', '19:all'] calls [9, 10, 11, 12, 13, 14, 15, 16] paths 4

theorem lasts_fin {syn more tx : ByteArray} {j : Nat} (h : tx.data.toList = syn.data.toList ++ more.data.toList.take j) : syn.size ≤ tx.size ∧ tx.size ≤ (syn ++ more).size ∧ tx = (syn ++ more).extract 0 tx.size := by
  have hl : ∀ s : ByteArray, s.data.toList.length = s.size := fun s => Array.length_toList
  have h1 : tx.size = syn.size + min j more.size := by
    have := congrArg List.length h
    rw [List.length_append, List.length_take, hl, hl, hl] at this
    exact this
  have h2 : (syn ++ more).size = syn.size + more.size := ByteArray.size_append
  refine ⟨by omega, by omega, ba_ext ?_⟩
  rw [extract_take, ByteArray.data_append, Array.toList_append, h, h1, List.take_append, hl, List.take_of_length_le (l := syn.data.toList) (by rw [hl]; omega), show syn.size + min j more.size - syn.size = min j more.size by omega]
  congr 1
  by_cases hj : j ≤ more.size
  · rw [Nat.min_eq_left hj]
  · rw [Nat.min_eq_right (by omega), List.take_of_length_le (by rw [hl]; omega), List.take_of_length_le (by rw [hl]; omega)]
set_option maxHeartbeats 4000000 in
set_option maxRecDepth 20000 in
theorem snd3 (nm syn more : ByteArray) (dirs : Int) (keeps : List Int) (own : Bool) (hdi : -2 ^ 63 ≤ dirs ∧ dirs < 2 ^ 63) (hks : ∀ z ∈ keeps, -2 ^ 63 ≤ z ∧ z < 2 ^ 63) (hsz : syn.size + more.size ≤ 2 ^ 62) (M : Mem) (hM : M = M0) : SoundCall Try.prog 3 [str nm, str syn, str more, int dirs, .sl (keeps.map int) own] M fun r M' => r = bool true ∧ M0.le M' := by
  subst hM
  obtain ⟨c1, z1, e1⟩ : ∃ k z, (DS.new 1000000).create nm = (k, z) := ⟨_, _, rfl⟩
  obtain ⟨c2, z2, e2⟩ : ∃ k z, z1.append nm syn = (k, z) := ⟨_, _, rfl⟩
  obtain ⟨c3, z3, e3⟩ : ∃ k z, z2.sync nm = (k, z) := ⟨_, _, rfl⟩
  obtain ⟨c4, z4, e4⟩ : ∃ k z, z3.dirsync = (k, z) := ⟨_, _, rfl⟩
  obtain ⟨c5, z5, e5⟩ : ∃ k z, z4.append nm more = (k, z) := ⟨_, _, rfl⟩
  obtain ⟨z6, e6⟩ : ∃ z, z5.crash dirs keeps = z := ⟨_, rfl⟩
  obtain ⟨tx, c7, e7⟩ : ∃ t k, z6.read nm = (t, k) := ⟨_, _, rfl⟩
  have hL := lasts_law e1 e2 e3 e4 e5 e6 e7
  refine SoundCall.go tk3 pl3 mixed Try.func3 cb3 rfl (Nat.le_of_ble_eq_true rfl) ?_
  refine s_seq ?_
  refine s_region ?_
  refine o_q (q_as (v_raw rfl)) rfl rfl rfl ?_
  refine o_nil ?_
  refine s_seq ?_
  refine s_region ?_
  refine o_call (ex9) goes9 ac_nil rfl ?_
  refine o_q (q_as (v_raw rfl)) rfl rfl rfl ?_
  refine o_nil ?_
  refine s_seq ?_
  refine s_region ?_
  refine o_callx ((newOk M0 1000000 (by decide) (by decide) _ nW)) goes10 (ac (v_raw rfl) ac_nil) rfl ?_
  rintro r0 M1 ⟨d, O0, W0, rfl, hA0, -⟩
  refine o_q (q_mv (v_tup rfl)) rfl rfl rfl ?_
  refine o_q (q_ext rfl rfl ((by first | exact v_raw rfl | exact v_sptr rfl))) rfl rfl rfl ?_
  refine o_q (q_ext rfl rfl (v_raw rfl)) rfl rfl rfl ?_
  refine o_q (q_as ((by first | exact v_raw rfl | exact v_sptr rfl))) rfl rfl rfl ?_
  refine o_q (q_as (v_raw rfl)) rfl rfl rfl ?_
  refine o_nil ?_
  refine s_seq ?_
  refine s_seq ?_
  refine s_region ?_
  refine o_q (q_mv ((by first | exact v_raw rfl | exact v_sptr rfl))) rfl rfl rfl ?_
  refine o_q (q_peql und24 rfl rfl) rfl rfl rfl ?_
  refine o_nil ?_
  refine s_else rfl rfl ?_
  refine s_skip ?_
  refine s_seq ?_
  refine s_region ?_
  refine o_q (q_mv ((by first | exact v_raw rfl | exact v_sptr rfl))) rfl rfl rfl ?_
  refine o_q (q_mv (v_raw rfl)) rfl rfl rfl ?_
  refine o_callx ((create_at hA0 (by decide) e1)) goes11 (ac ((by first | exact v_raw rfl | exact v_sptr rfl)) (ac (v_raw rfl) ac_nil)) rfl ?_
  rintro r1 M1 ⟨rfl, O1, W1, hA1, -⟩
  refine o_q (q_as (v_raw rfl)) rfl rfl rfl ?_
  refine o_nil ?_
  refine s_seq ?_
  refine s_seq ?_
  refine s_region ?_
  refine o_q (q_mv (v_raw rfl)) rfl rfl rfl ?_
  refine o_q (q_neq rfl rfl) rfl rfl rfl ?_
  refine o_nil ?_
  refine s_cond rfl (fun h1 => ?_) (fun h1 => ?_)
  · have k1 := h1; try simp only [decide_eq_true_eq, decide_eq_false_iff_not, Bool.not_eq_true', Bool.not_eq_false', Bool.not_true, Bool.not_false, List.length_map, Decidable.not_not] at k1
    refine s_seq ?_
    refine s_region ?_
    refine o_q (q_mv (v_raw rfl)) rfl rfl rfl ?_
    refine o_q (q_mv (v_raw rfl)) rfl rfl rfl ?_
    refine o_yes rfl rfl rfl rfl ?_
    refine o_q (q_mv (v_raw rfl)) rfl rfl rfl ?_
    refine o_yes rfl rfl rfl rfl ?_
    refine o_q (q_eql rfl rfl) rfl rfl rfl ?_
    refine o_q (q_pick_c (t := true) rfl rfl (v_raw rfl)) rfl rfl rfl ?_
    refine o_q (q_as (v_raw rfl)) rfl rfl rfl ?_
    refine o_nil ?_
    refine s_ret ?_
    refine s_code_ret ?_
    refine s_end ?_
    exact ⟨congrArg bool (decide_eq_true (hL.1 k1)), le0 _⟩
  · have k1 := h1; try simp only [decide_eq_true_eq, decide_eq_false_iff_not, Bool.not_eq_true', Bool.not_eq_false', Bool.not_true, Bool.not_false, List.length_map, Decidable.not_not] at k1
    have hL2 := hL.2 k1
    refine s_skip ?_
    refine s_seq ?_
    refine s_region ?_
    refine o_q (q_mv ((by first | exact v_raw rfl | exact v_sptr rfl))) rfl rfl rfl ?_
    refine o_q (q_mv (v_raw rfl)) rfl rfl rfl ?_
    refine o_q (q_mv (v_raw rfl)) rfl rfl rfl ?_
    refine o_callx ((append_at hA1 (by decide) e2)) goes12 (ac ((by first | exact v_raw rfl | exact v_sptr rfl)) (ac (v_raw rfl) (ac (v_raw rfl) ac_nil))) rfl ?_
    rintro r2 M2 ⟨rfl, O2, W2, hA2, -⟩
    refine o_q (q_as (v_raw rfl)) rfl rfl rfl ?_
    refine o_nil ?_
    refine s_seq ?_
    refine s_seq ?_
    refine s_region ?_
    refine o_q (q_mv (v_raw rfl)) rfl rfl rfl ?_
    refine o_q (q_neq rfl rfl) rfl rfl rfl ?_
    refine o_nil ?_
    refine s_cond rfl (fun h2 => ?_) (fun h2 => ?_)
    · have k2 := h2; try simp only [decide_eq_true_eq, decide_eq_false_iff_not, Bool.not_eq_true', Bool.not_eq_false', Bool.not_true, Bool.not_false, List.length_map, Decidable.not_not] at k2
      refine s_seq ?_
      refine s_region ?_
      refine o_q (q_mv (v_raw rfl)) rfl rfl rfl ?_
      refine o_q (q_mv (v_raw rfl)) rfl rfl rfl ?_
      refine o_yes rfl rfl rfl rfl ?_
      refine o_q (q_mv (v_raw rfl)) rfl rfl rfl ?_
      refine o_yes rfl rfl rfl rfl ?_
      refine o_q (q_eql rfl rfl) rfl rfl rfl ?_
      refine o_q (q_pick_c (t := true) rfl rfl (v_raw rfl)) rfl rfl rfl ?_
      refine o_q (q_as (v_raw rfl)) rfl rfl rfl ?_
      refine o_nil ?_
      refine s_ret ?_
      refine s_code_ret ?_
      refine s_end ?_
      exact ⟨congrArg bool (decide_eq_true (hL2.1 k2)), le0 _⟩
    · have k2 := h2; try simp only [decide_eq_true_eq, decide_eq_false_iff_not, Bool.not_eq_true', Bool.not_eq_false', Bool.not_true, Bool.not_false, List.length_map, Decidable.not_not] at k2
      obtain ⟨g7, g5, j, hj⟩ := hL2.2 k2
      obtain ⟨hs1, hs2, hs3⟩ := lasts_fin hj
      refine s_skip ?_
      refine s_seq ?_
      refine s_region ?_
      refine o_q (q_mv ((by first | exact v_raw rfl | exact v_sptr rfl))) rfl rfl rfl ?_
      refine o_q (q_mv (v_raw rfl)) rfl rfl rfl ?_
      refine o_callx ((sync_at hA2 (by decide) e3)) goes13 (ac ((by first | exact v_raw rfl | exact v_sptr rfl)) (ac (v_raw rfl) ac_nil)) rfl ?_
      rintro r3 M3 ⟨rfl, O3, W3, hA3, -⟩
      refine o_nil ?_
      refine s_seq ?_
      refine s_region ?_
      refine o_q (q_mv ((by first | exact v_raw rfl | exact v_sptr rfl))) rfl rfl rfl ?_
      refine o_callx ((dirsync_at hA3 (by decide) e4)) goes14 (ac ((by first | exact v_raw rfl | exact v_sptr rfl)) ac_nil) rfl ?_
      rintro r4 M4 ⟨rfl, O4, W4, hA4, -⟩
      refine o_nil ?_
      refine s_seq ?_
      refine s_region ?_
      refine o_q (q_mv ((by first | exact v_raw rfl | exact v_sptr rfl))) rfl rfl rfl ?_
      refine o_q (q_mv (v_raw rfl)) rfl rfl rfl ?_
      refine o_q (q_mv (v_raw rfl)) rfl rfl rfl ?_
      refine o_callx ((append_at hA4 (by decide) e5)) goes12 (ac ((by first | exact v_raw rfl | exact v_sptr rfl)) (ac (v_raw rfl) (ac (v_raw rfl) ac_nil))) rfl ?_
      rintro r5 M5 ⟨rfl, O5, W5, hA5, -⟩
      refine o_q (q_as (v_raw rfl)) rfl rfl rfl ?_
      refine o_nil ?_
      refine s_seq ?_
      refine s_region ?_
      refine o_q (q_mv ((by first | exact v_raw rfl | exact v_sptr rfl))) rfl rfl rfl ?_
      refine o_q (q_mv (v_raw rfl)) rfl rfl rfl ?_
      refine o_q (q_mv (v_sl rfl)) rfl rfl rfl ?_
      refine o_callx ((crash_at hA5 (by decide) hdi hks e6)) goes15 (ac ((by first | exact v_raw rfl | exact v_sptr rfl)) (ac (v_raw rfl) (ac (v_sl rfl) ac_nil))) rfl ?_
      rintro r6 M6 ⟨O6, W6, hA6, -⟩
      refine o_nil ?_
      refine s_seq ?_
      refine s_region ?_
      refine o_q (q_mv ((by first | exact v_raw rfl | exact v_sptr rfl))) rfl rfl rfl ?_
      refine o_q (q_mv (v_raw rfl)) rfl rfl rfl ?_
      refine o_call ((read_at hA6 e7)) goes16 (ac ((by first | exact v_raw rfl | exact v_sptr rfl)) (ac (v_raw rfl) ac_nil)) rfl ?_
      refine o_q (q_mv (v_tup rfl)) rfl rfl rfl ?_
      refine o_q (q_ext rfl rfl (v_raw rfl)) rfl rfl rfl ?_
      refine o_q (q_ext rfl rfl (v_raw rfl)) rfl rfl rfl ?_
      refine o_q (q_as (v_raw rfl)) rfl rfl rfl ?_
      refine o_q (q_as (v_raw rfl)) rfl rfl rfl ?_
      refine o_nil ?_
      refine s_seq ?_
      refine s_seq ?_
      refine s_region ?_
      refine o_q (q_mv (v_raw rfl)) rfl rfl rfl ?_
      refine o_q (q_neq rfl rfl) rfl rfl rfl ?_
      refine o_q (q_mv (v_raw rfl)) rfl rfl rfl ?_
      refine o_cases (want := false) (j := 2) rfl rfl (fun h3 => ?_) (fun h3 => ?_)
      · have k3 := h3; try simp only [decide_eq_true_eq, decide_eq_false_iff_not, Bool.not_eq_true', Bool.not_eq_false', Bool.not_true, Bool.not_false, List.length_map, Decidable.not_not] at k3
        refine o_yes rfl rfl rfl h3 ?_
        refine o_q (q_mv (v_raw rfl)) rfl rfl rfl ?_
        refine o_yes rfl rfl rfl h3 ?_
        refine o_q (q_neq rfl rfl) rfl rfl rfl ?_
        refine o_yes rfl rfl rfl h3 ?_
        refine o_q (q_mv (v_raw rfl)) rfl rfl rfl ?_
        refine o_cases (want := true) (j := 5) rfl rfl (fun h4 => ?_) (fun h4 => ?_)
        · have k4 := h4; try simp only [decide_eq_true_eq, decide_eq_false_iff_not, Bool.not_eq_true', Bool.not_eq_false', Bool.not_true, Bool.not_false, List.length_map, Decidable.not_not] at k4
          refine o_yes rfl rfl rfl h4 ?_
          refine o_q (q_mv (v_raw rfl)) rfl rfl rfl ?_
          refine o_yes rfl rfl rfl h4 ?_
          refine o_q (q_mv (v_raw rfl)) rfl rfl rfl ?_
          refine o_yes rfl rfl rfl h4 ?_
          refine o_q (q_sneq rfl rfl) rfl rfl rfl ?_
          refine o_yes rfl rfl rfl h3 ?_
          refine o_q (q_pick_c (t := true) rfl h4 (v_raw rfl)) rfl rfl rfl ?_
          refine o_q (q_pick_c (t := false) rfl h3 (v_raw rfl)) rfl rfl rfl ?_
          refine o_nil ?_
          refine s_cond rfl (fun h5 => ?_) (fun h5 => ?_)
          · have k5 := h5; try simp only [decide_eq_true_eq, decide_eq_false_iff_not, Bool.not_eq_true', Bool.not_eq_false', Bool.not_true, Bool.not_false, List.length_map, Decidable.not_not] at k5
            first | exact absurd (g5 (by assumption)) k5 | cases h5
          · have k5 := h5; try simp only [decide_eq_true_eq, decide_eq_false_iff_not, Bool.not_eq_true', Bool.not_eq_false', Bool.not_true, Bool.not_false, List.length_map, Decidable.not_not] at k5
            refine s_skip ?_
            refine s_seq ?_
            refine s_region ?_
            refine o_q (q_mv (v_raw rfl)) rfl rfl rfl ?_
            refine o_q (q_mv (v_raw rfl)) rfl rfl rfl ?_
            refine o_q (q_sadd rfl rfl (by omega)) rfl rfl rfl ?_
            refine o_q (q_as (v_raw rfl)) rfl rfl rfl ?_
            refine o_nil ?_
            refine s_seq ?_
            refine s_region ?_
            refine o_q (q_mv (v_raw rfl)) rfl rfl rfl ?_
            refine o_q (q_mv (v_raw rfl)) rfl rfl rfl ?_
            refine o_yes rfl rfl rfl rfl ?_
            refine o_q (q_mv (v_raw rfl)) rfl rfl rfl ?_
            refine o_yes rfl rfl rfl rfl ?_
            refine o_q (q_lens rfl und9 rfl) rfl rfl rfl ?_
            refine o_yes rfl rfl rfl rfl ?_
            refine o_q (q_mv (v_raw rfl)) rfl rfl rfl ?_
            refine o_yes rfl rfl rfl rfl ?_
            refine o_q (q_lens rfl und9 rfl) rfl rfl rfl ?_
            refine o_yes rfl rfl rfl rfl ?_
            refine o_q (q_geq rfl rfl) rfl rfl rfl ?_
            refine o_q (q_pick_c (t := true) rfl rfl (v_raw rfl)) rfl rfl rfl ?_
            refine o_q (q_mv (v_raw rfl)) rfl rfl rfl ?_
            refine o_cases (want := true) (j := 8) rfl rfl (fun h6 => ?_) (fun h6 => ?_)
            · have k6 := h6; try simp only [decide_eq_true_eq, decide_eq_false_iff_not, Bool.not_eq_true', Bool.not_eq_false', Bool.not_true, Bool.not_false, List.length_map, Decidable.not_not] at k6
              refine o_yes rfl rfl rfl h6 ?_
              refine o_q (q_mv (v_raw rfl)) rfl rfl rfl ?_
              refine o_yes rfl rfl rfl h6 ?_
              refine o_q (q_lens rfl und9 rfl) rfl rfl rfl ?_
              refine o_yes rfl rfl rfl h6 ?_
              refine o_q (q_mv (v_raw rfl)) rfl rfl rfl ?_
              refine o_yes rfl rfl rfl h6 ?_
              refine o_q (q_lens rfl und9 rfl) rfl rfl rfl ?_
              refine o_yes rfl rfl rfl h6 ?_
              refine o_q (q_leq rfl rfl) rfl rfl rfl ?_
              refine o_q (q_pick_c (t := true) rfl h6 (v_raw rfl)) rfl rfl rfl ?_
              refine o_q (q_mv (v_raw rfl)) rfl rfl rfl ?_
              refine o_cases (want := true) (j := 15) rfl rfl (fun h7 => ?_) (fun h7 => ?_)
              · have k7 := h7; try simp only [decide_eq_true_eq, decide_eq_false_iff_not, Bool.not_eq_true', Bool.not_eq_false', Bool.not_true, Bool.not_false, List.length_map, Decidable.not_not] at k7
                refine o_yes rfl rfl rfl h7 ?_
                refine o_q (q_mv (v_raw rfl)) rfl rfl rfl ?_
                refine o_yes rfl rfl rfl h7 ?_
                refine o_q (q_mv (v_raw rfl)) rfl rfl rfl ?_
                refine o_yes rfl rfl rfl h7 ?_
                refine o_q (q_mv (v_raw rfl)) rfl rfl rfl ?_
                refine o_yes rfl rfl rfl h7 ?_
                refine o_q (q_lens rfl und9 rfl) rfl rfl rfl ?_
                refine o_yes rfl rfl rfl h7 ?_
                refine o_q (q_slstr und9 rfl rfl hs2) rfl rfl rfl ?_
                refine o_yes rfl rfl rfl h7 ?_
                refine o_q (q_seql rfl rfl) rfl rfl rfl ?_
                refine o_q (q_pick_c (t := true) rfl h7 (v_raw rfl)) rfl rfl rfl ?_
                refine o_q (q_as (v_raw rfl)) rfl rfl rfl ?_
                refine o_nil ?_
                refine s_ret ?_
                refine s_end ?_
                exact ⟨congrArg bool (decide_eq_true hs3), le0 _⟩
              · have k7 := h7; try simp only [decide_eq_true_eq, decide_eq_false_iff_not, Bool.not_eq_true', Bool.not_eq_false', Bool.not_true, Bool.not_false, List.length_map, Decidable.not_not] at k7
                omega
            · have k6 := h6; try simp only [decide_eq_true_eq, decide_eq_false_iff_not, Bool.not_eq_true', Bool.not_eq_false', Bool.not_true, Bool.not_false, List.length_map, Decidable.not_not] at k6
              omega
        · have k4 := h4; try simp only [decide_eq_true_eq, decide_eq_false_iff_not, Bool.not_eq_true', Bool.not_eq_false', Bool.not_true, Bool.not_false, List.length_map, Decidable.not_not] at k4
          refine o_no rfl rfl rfl rfl h4 ?_
          refine o_no rfl rfl rfl rfl h4 ?_
          refine o_no rfl rfl rfl rfl h4 ?_
          refine o_yes rfl rfl rfl h3 ?_
          refine o_q (q_pick_c (t := false) rfl h4 (v_raw rfl)) rfl rfl rfl ?_
          refine o_q (q_pick_c (t := false) rfl h3 (v_raw rfl)) rfl rfl rfl ?_
          refine o_nil ?_
          refine s_else rfl rfl ?_
          refine s_skip ?_
          refine s_seq ?_
          refine s_region ?_
          refine o_q (q_mv (v_raw rfl)) rfl rfl rfl ?_
          refine o_q (q_mv (v_raw rfl)) rfl rfl rfl ?_
          refine o_q (q_sadd rfl rfl (by omega)) rfl rfl rfl ?_
          refine o_q (q_as (v_raw rfl)) rfl rfl rfl ?_
          refine o_nil ?_
          refine s_seq ?_
          refine s_region ?_
          refine o_q (q_mv (v_raw rfl)) rfl rfl rfl ?_
          refine o_q (q_mv (v_raw rfl)) rfl rfl rfl ?_
          refine o_yes rfl rfl rfl rfl ?_
          refine o_q (q_mv (v_raw rfl)) rfl rfl rfl ?_
          refine o_yes rfl rfl rfl rfl ?_
          refine o_q (q_lens rfl und9 rfl) rfl rfl rfl ?_
          refine o_yes rfl rfl rfl rfl ?_
          refine o_q (q_mv (v_raw rfl)) rfl rfl rfl ?_
          refine o_yes rfl rfl rfl rfl ?_
          refine o_q (q_lens rfl und9 rfl) rfl rfl rfl ?_
          refine o_yes rfl rfl rfl rfl ?_
          refine o_q (q_geq rfl rfl) rfl rfl rfl ?_
          refine o_q (q_pick_c (t := true) rfl rfl (v_raw rfl)) rfl rfl rfl ?_
          refine o_q (q_mv (v_raw rfl)) rfl rfl rfl ?_
          refine o_cases (want := true) (j := 8) rfl rfl (fun h8 => ?_) (fun h8 => ?_)
          · have k8 := h8; try simp only [decide_eq_true_eq, decide_eq_false_iff_not, Bool.not_eq_true', Bool.not_eq_false', Bool.not_true, Bool.not_false, List.length_map, Decidable.not_not] at k8
            refine o_yes rfl rfl rfl h8 ?_
            refine o_q (q_mv (v_raw rfl)) rfl rfl rfl ?_
            refine o_yes rfl rfl rfl h8 ?_
            refine o_q (q_lens rfl und9 rfl) rfl rfl rfl ?_
            refine o_yes rfl rfl rfl h8 ?_
            refine o_q (q_mv (v_raw rfl)) rfl rfl rfl ?_
            refine o_yes rfl rfl rfl h8 ?_
            refine o_q (q_lens rfl und9 rfl) rfl rfl rfl ?_
            refine o_yes rfl rfl rfl h8 ?_
            refine o_q (q_leq rfl rfl) rfl rfl rfl ?_
            refine o_q (q_pick_c (t := true) rfl h8 (v_raw rfl)) rfl rfl rfl ?_
            refine o_q (q_mv (v_raw rfl)) rfl rfl rfl ?_
            refine o_cases (want := true) (j := 15) rfl rfl (fun h9 => ?_) (fun h9 => ?_)
            · have k9 := h9; try simp only [decide_eq_true_eq, decide_eq_false_iff_not, Bool.not_eq_true', Bool.not_eq_false', Bool.not_true, Bool.not_false, List.length_map, Decidable.not_not] at k9
              refine o_yes rfl rfl rfl h9 ?_
              refine o_q (q_mv (v_raw rfl)) rfl rfl rfl ?_
              refine o_yes rfl rfl rfl h9 ?_
              refine o_q (q_mv (v_raw rfl)) rfl rfl rfl ?_
              refine o_yes rfl rfl rfl h9 ?_
              refine o_q (q_mv (v_raw rfl)) rfl rfl rfl ?_
              refine o_yes rfl rfl rfl h9 ?_
              refine o_q (q_lens rfl und9 rfl) rfl rfl rfl ?_
              refine o_yes rfl rfl rfl h9 ?_
              refine o_q (q_slstr und9 rfl rfl hs2) rfl rfl rfl ?_
              refine o_yes rfl rfl rfl h9 ?_
              refine o_q (q_seql rfl rfl) rfl rfl rfl ?_
              refine o_q (q_pick_c (t := true) rfl h9 (v_raw rfl)) rfl rfl rfl ?_
              refine o_q (q_as (v_raw rfl)) rfl rfl rfl ?_
              refine o_nil ?_
              refine s_ret ?_
              refine s_end ?_
              exact ⟨congrArg bool (decide_eq_true hs3), le0 _⟩
            · have k9 := h9; try simp only [decide_eq_true_eq, decide_eq_false_iff_not, Bool.not_eq_true', Bool.not_eq_false', Bool.not_true, Bool.not_false, List.length_map, Decidable.not_not] at k9
              omega
          · have k8 := h8; try simp only [decide_eq_true_eq, decide_eq_false_iff_not, Bool.not_eq_true', Bool.not_eq_false', Bool.not_true, Bool.not_false, List.length_map, Decidable.not_not] at k8
            omega
      · have k3 := h3; try simp only [decide_eq_true_eq, decide_eq_false_iff_not, Bool.not_eq_true', Bool.not_eq_false', Bool.not_true, Bool.not_false, List.length_map, Decidable.not_not] at k3
        exact absurd g7 k3

def tk4 : Nat → Nat → Option Nat := fun _ _ => none
def pl4 : Nat → List PStep := fun _ => []
theorem cb4 : Try.f4.body.map (codeB Try.prog Try.f4.ntmps tk4 pl4) = some true := by kernel_rfl
theorem goes4 : goesB Try.prog 4 = true := by kernel_rfl
-- carillon/carillonlaw04.DiskSwaps params ['string', 'string', 'int', 'int', '[]int'] results [['t', 10]] own [] names ['0:old', '1:anew', '2:fuse', '3:dirs', '4:keeps', '5:old', '6:anew', '7:fuse', '8:dirs', '9:keeps', '11:head', '12:d', '13:_', '14:s', '15:e'] calls [9, 10, 11, 12, 13, 14, 15, 16, 17, 18, 19] paths 11

theorem pickT {c : Int} {p q : Prop} (h : (c = 0 ∧ p) ∨ (c ≠ 0 ∧ q)) (k : c = 0) : p := h.elim (·.2) fun h => absurd k h.1
theorem pickF {c : Int} {p q : Prop} (h : (c = 0 ∧ p) ∨ (c ≠ 0 ∧ q)) (k : ¬ c = 0) : q := h.elim (fun h => absurd h.1 k) (·.2)
theorem sw_fin {old anew : ByteArray} {z : DS} (h : ∃ k, k ≤ 5 ∧ Sw old.data.toList anew.data.toList k z) (dirs : Int) (keeps : List Int) : ((z.crash dirs keeps).read sM).2 = 0 ∧ (((z.crash dirs keeps).read sM).1 = old ∨ ((z.crash dirs keeps).read sM).1 = anew) := by
  obtain ⟨k, h1, h2⟩ := h
  obtain ⟨g1, g2⟩ := sw_read h1 h2 dirs keeps
  exact ⟨g1, g2.imp ba_ext ba_ext⟩
set_option maxHeartbeats 4000000 in
set_option maxRecDepth 20000 in
theorem snd4 (old anew : ByteArray) (fuse dirs : Int) (keeps : List Int) (own : Bool) (hdi : -2 ^ 63 ≤ dirs ∧ dirs < 2 ^ 63) (hks : ∀ z ∈ keeps, -2 ^ 63 ≤ z ∧ z < 2 ^ 63) (hfu : -2 ^ 63 ≤ fuse ∧ fuse < 2 ^ 63) (ho : old.size ≤ 2 ^ 60) (hw : anew.size ≤ 2 ^ 60) (M : Mem) (hM : M = M0) : SoundCall Try.prog 4 [str old, str anew, int fuse, int dirs, .sl (keeps.map int) own] M fun r M' => r = bool true ∧ M0.le M' := by
  subst hM
  obtain ⟨c1, z1, e1⟩ : ∃ k z, (DS.new 1000000).create sM = (k, z) := ⟨_, _, rfl⟩
  obtain ⟨c2, z2, e2⟩ : ∃ k z, z1.append sM old = (k, z) := ⟨_, _, rfl⟩
  obtain ⟨c3, z3, e3⟩ : ∃ k z, z2.sync sM = (k, z) := ⟨_, _, rfl⟩
  obtain ⟨c4, z4, e4⟩ : ∃ k z, z3.dirsync = (k, z) := ⟨_, _, rfl⟩
  obtain ⟨z5, e5⟩ : ∃ z, z4.setfuse (pick fuse 8) = z := ⟨_, rfl⟩
  obtain ⟨c6, z6, e6⟩ : ∃ k z, z5.create sT = (k, z) := ⟨_, _, rfl⟩
  obtain ⟨c7, z7, e7⟩ : ∃ k z, z6.append sT anew = (k, z) := ⟨_, _, rfl⟩
  obtain ⟨c8, z8, e8⟩ : ∃ k z, z7.sync sT = (k, z) := ⟨_, _, rfl⟩
  obtain ⟨c9, z9, e9⟩ : ∃ k z, z8.rename sT sM = (k, z) := ⟨_, _, rfl⟩
  obtain ⟨c10, z10, e10⟩ : ∃ k z, z9.dirsync = (k, z) := ⟨_, _, rfl⟩
  have hpk := pick_lt (c := fuse) (n := 8) (by decide)
  refine SoundCall.go tk4 pl4 mixed Try.func4 cb4 rfl (Nat.le_of_ble_eq_true rfl) ?_
  refine s_seq ?_
  refine s_region ?_
  refine o_q (q_as (v_raw rfl)) rfl rfl rfl ?_
  refine o_nil ?_
  refine s_seq ?_
  refine s_region ?_
  refine o_call (ex9) goes9 ac_nil rfl ?_
  refine o_q (q_as (v_raw rfl)) rfl rfl rfl ?_
  refine o_nil ?_
  refine s_seq ?_
  refine s_region ?_
  refine o_callx ((newOk M0 1000000 (by decide) (by decide) _ nW)) goes10 (ac (v_raw rfl) ac_nil) rfl ?_
  rintro r0 M1 ⟨d, O0, W0, rfl, hA0, -⟩
  refine o_q (q_mv (v_tup rfl)) rfl rfl rfl ?_
  refine o_q (q_ext rfl rfl ((by first | exact v_raw rfl | exact v_sptr rfl))) rfl rfl rfl ?_
  refine o_q (q_ext rfl rfl (v_raw rfl)) rfl rfl rfl ?_
  refine o_q (q_as ((by first | exact v_raw rfl | exact v_sptr rfl))) rfl rfl rfl ?_
  refine o_q (q_as (v_raw rfl)) rfl rfl rfl ?_
  refine o_nil ?_
  refine s_seq ?_
  refine s_seq ?_
  refine s_region ?_
  refine o_q (q_mv ((by first | exact v_raw rfl | exact v_sptr rfl))) rfl rfl rfl ?_
  refine o_q (q_peql und24 rfl rfl) rfl rfl rfl ?_
  refine o_q (q_mv (v_raw rfl)) rfl rfl rfl ?_
  refine o_yes rfl rfl rfl rfl ?_
  refine o_q (q_mv (v_raw rfl)) rfl rfl rfl ?_
  refine o_yes rfl rfl rfl rfl ?_
  refine o_q (q_lens rfl und9 rfl) rfl rfl rfl ?_
  refine o_yes rfl rfl rfl rfl ?_
  refine o_q (q_mv (v_raw rfl)) rfl rfl rfl ?_
  refine o_yes rfl rfl rfl rfl ?_
  refine o_q (q_lens rfl und9 rfl) rfl rfl rfl ?_
  refine o_yes rfl rfl rfl rfl ?_
  refine o_q (q_add rfl rfl (wrap64 (by omega) (by omega))) rfl rfl rfl ?_
  refine o_yes rfl rfl rfl rfl ?_
  refine o_q (q_gtr rfl rfl) rfl rfl rfl ?_
  refine o_q (q_pick_c (t := false) rfl rfl (v_raw rfl)) rfl rfl rfl ?_
  refine o_nil ?_
  refine s_cond rfl (fun h1 => ?_) (fun h1 => ?_)
  · have k1 := h1; try simp only [decide_eq_true_eq, decide_eq_false_iff_not, Bool.not_eq_true', Bool.not_eq_false', Bool.not_true, Bool.not_false, List.length_map, Decidable.not_not] at k1
    refine s_seq ?_
    refine s_region ?_
    refine o_q (q_mv ((by first | exact v_raw rfl | exact v_sptr rfl))) rfl rfl rfl ?_
    refine o_q (q_pneq und24 rfl rfl) rfl rfl rfl ?_
    refine o_q (q_mv (v_raw rfl)) rfl rfl rfl ?_
    refine o_yes rfl rfl rfl rfl ?_
    refine o_q (q_mv (v_raw rfl)) rfl rfl rfl ?_
    refine o_q (q_pick_c (t := true) rfl rfl (v_raw rfl)) rfl rfl rfl ?_
    refine o_q (q_as (v_raw rfl)) rfl rfl rfl ?_
    refine o_nil ?_
    refine s_ret ?_
    refine s_code_ret ?_
    refine s_end ?_
    first | exact ⟨rfl, le0 _⟩ | exact ⟨congrArg bool (decide_eq_true (hR.2.resolve_left (by assumption))), le0 _⟩
  · have k1 := h1; try simp only [decide_eq_true_eq, decide_eq_false_iff_not, Bool.not_eq_true', Bool.not_eq_false', Bool.not_true, Bool.not_false, List.length_map, Decidable.not_not] at k1
    have hsz : old.size + anew.size ≤ 500000 := by omega
    have hS0 : Sw old.data.toList anew.data.toList 0 z5 := sw_setup (by omega) e1 e2 e3 e4 e5
    have ho2 : old.data.toList.length = old.size := Array.length_toList
    refine s_skip ?_
    refine s_seq ?_
    refine s_region ?_
    refine o_q (q_mv ((by first | exact v_raw rfl | exact v_sptr rfl))) rfl rfl rfl ?_
    refine o_callx ((create_at (nm := sM) hA0 (by decide) e1)) goes11 (ac ((by first | exact v_raw rfl | exact v_sptr rfl)) (ac (v_raw rfl) ac_nil)) rfl ?_
    rintro r1 M1 ⟨rfl, O1, W1, hA1, -⟩
    refine o_nil ?_
    refine s_seq ?_
    refine s_region ?_
    refine o_q (q_mv ((by first | exact v_raw rfl | exact v_sptr rfl))) rfl rfl rfl ?_
    refine o_q (q_mv (v_raw rfl)) rfl rfl rfl ?_
    refine o_callx ((append_at (nm := sM) hA1 (by decide) e2)) goes12 (ac ((by first | exact v_raw rfl | exact v_sptr rfl)) (ac (v_raw rfl) (ac (v_raw rfl) ac_nil))) rfl ?_
    rintro r2 M2 ⟨rfl, O2, W2, hA2, -⟩
    refine o_nil ?_
    refine s_seq ?_
    refine s_region ?_
    refine o_q (q_mv ((by first | exact v_raw rfl | exact v_sptr rfl))) rfl rfl rfl ?_
    refine o_callx ((sync_at (nm := sM) hA2 (by decide) e3)) goes13 (ac ((by first | exact v_raw rfl | exact v_sptr rfl)) (ac (v_raw rfl) ac_nil)) rfl ?_
    rintro r3 M3 ⟨rfl, O3, W3, hA3, -⟩
    refine o_nil ?_
    refine s_seq ?_
    refine s_region ?_
    refine o_q (q_mv ((by first | exact v_raw rfl | exact v_sptr rfl))) rfl rfl rfl ?_
    refine o_callx ((dirsync_at hA3 (by decide) e4)) goes14 (ac ((by first | exact v_raw rfl | exact v_sptr rfl)) ac_nil) rfl ?_
    rintro r4 M4 ⟨rfl, O4, W4, hA4, -⟩
    refine o_nil ?_
    refine s_seq ?_
    refine s_region ?_
    refine o_q (q_mv ((by first | exact v_raw rfl | exact v_sptr rfl))) rfl rfl rfl ?_
    refine o_q (q_mv (v_raw rfl)) rfl rfl rfl ?_
    refine o_call ((snd18 fuse 8 _ (by decide) (by decide) hfu)) goes18 (ac (v_raw rfl) (ac (v_raw rfl) ac_nil)) rfl ?_
    refine o_callx ((fuse_at hA4 (by omega) e5)) goes17 (ac ((by first | exact v_raw rfl | exact v_sptr rfl)) (ac (v_raw rfl) ac_nil)) rfl ?_
    rintro r5 M5 ⟨rfl, O5, W5, hA5, -⟩
    refine o_nil ?_
    refine s_seq ?_
    refine s_seq ?_
    refine s_region ?_
    refine o_q (q_mv ((by first | exact v_raw rfl | exact v_sptr rfl))) rfl rfl rfl ?_
    refine o_callx ((create_at (nm := sT) hA5 (by decide) e6)) goes11 (ac ((by first | exact v_raw rfl | exact v_sptr rfl)) (ac (v_raw rfl) ac_nil)) rfl ?_
    rintro r6 M6 ⟨rfl, O6, W6, hA6, -⟩
    refine o_q (q_eql rfl rfl) rfl rfl rfl ?_
    refine o_q (q_mv (v_raw rfl)) rfl rfl rfl ?_
    refine o_cases (want := true) (j := 3) rfl rfl (fun h2 => ?_) (fun h2 => ?_)
    · have k2 := h2; try simp only [decide_eq_true_eq, decide_eq_false_iff_not, Bool.not_eq_true', Bool.not_eq_false', Bool.not_true, Bool.not_false, List.length_map, Decidable.not_not] at k2
      have hS1 := pickT (sw1 hS0 e6) k2
      refine o_yes rfl rfl rfl h2 ?_
      refine o_q (q_mv ((by first | exact v_raw rfl | exact v_sptr rfl))) rfl rfl rfl ?_
      refine o_yes rfl rfl rfl h2 ?_
      refine o_q (q_mv (v_raw rfl)) rfl rfl rfl ?_
      refine o_yes rfl rfl rfl h2 ?_
      refine o_callx ((append_at (nm := sT) hA6 (by decide) e7)) goes12 (ac ((by first | exact v_raw rfl | exact v_sptr rfl)) (ac (v_raw rfl) (ac (v_raw rfl) ac_nil))) rfl ?_
      rintro r7 M7 ⟨rfl, O7, W7, hA7, -⟩
      refine o_yes rfl rfl rfl h2 ?_
      refine o_q (q_eql rfl rfl) rfl rfl rfl ?_
      refine o_q (q_pick_c (t := true) rfl h2 (v_raw rfl)) rfl rfl rfl ?_
      refine o_q (q_mv (v_raw rfl)) rfl rfl rfl ?_
      refine o_cases (want := true) (j := 9) rfl rfl (fun h3 => ?_) (fun h3 => ?_)
      · have k3 := h3; try simp only [decide_eq_true_eq, decide_eq_false_iff_not, Bool.not_eq_true', Bool.not_eq_false', Bool.not_true, Bool.not_false, List.length_map, Decidable.not_not] at k3
        have hS2 := pickT (sw2 (tx := anew) rfl (by omega) hS1 e7) k3
        refine o_yes rfl rfl rfl h3 ?_
        refine o_q (q_mv ((by first | exact v_raw rfl | exact v_sptr rfl))) rfl rfl rfl ?_
        refine o_yes rfl rfl rfl h3 ?_
        refine o_callx ((sync_at (nm := sT) hA7 (by decide) e8)) goes13 (ac ((by first | exact v_raw rfl | exact v_sptr rfl)) (ac (v_raw rfl) ac_nil)) rfl ?_
        rintro r8 M8 ⟨rfl, O8, W8, hA8, -⟩
        refine o_yes rfl rfl rfl h3 ?_
        refine o_q (q_eql rfl rfl) rfl rfl rfl ?_
        refine o_q (q_pick_c (t := true) rfl h3 (v_raw rfl)) rfl rfl rfl ?_
        refine o_q (q_mv (v_raw rfl)) rfl rfl rfl ?_
        refine o_cases (want := true) (j := 14) rfl rfl (fun h4 => ?_) (fun h4 => ?_)
        · have k4 := h4; try simp only [decide_eq_true_eq, decide_eq_false_iff_not, Bool.not_eq_true', Bool.not_eq_false', Bool.not_true, Bool.not_false, List.length_map, Decidable.not_not] at k4
          have hS3 := pickT (sw3 hS2 e8) k4
          refine o_yes rfl rfl rfl h4 ?_
          refine o_q (q_mv ((by first | exact v_raw rfl | exact v_sptr rfl))) rfl rfl rfl ?_
          refine o_yes rfl rfl rfl h4 ?_
          refine o_callx ((rename_at (nm := sT) (b := sM) hA8 (by decide) e9)) goes19 (ac ((by first | exact v_raw rfl | exact v_sptr rfl)) (ac (v_raw rfl) (ac (v_raw rfl) ac_nil))) rfl ?_
          rintro r9 M9 ⟨rfl, O9, W9, hA9, -⟩
          refine o_yes rfl rfl rfl h4 ?_
          refine o_q (q_eql rfl rfl) rfl rfl rfl ?_
          refine o_q (q_pick_c (t := true) rfl h4 (v_raw rfl)) rfl rfl rfl ?_
          refine o_nil ?_
          refine s_cond rfl (fun h5 => ?_) (fun h5 => ?_)
          · have k5 := h5; try simp only [decide_eq_true_eq, decide_eq_false_iff_not, Bool.not_eq_true', Bool.not_eq_false', Bool.not_true, Bool.not_false, List.length_map, Decidable.not_not] at k5
            have hS4 := pickT (sw4 hS3 e9) k5
            refine s_region ?_
            refine o_q (q_mv ((by first | exact v_raw rfl | exact v_sptr rfl))) rfl rfl rfl ?_
            refine o_callx ((dirsync_at hA9 (by decide) e10)) goes14 (ac ((by first | exact v_raw rfl | exact v_sptr rfl)) ac_nil) rfl ?_
            rintro r10 M10 ⟨rfl, O10, W10, hA10, -⟩
            have hSe : ∃ k, k ≤ 5 ∧ Sw old.data.toList anew.data.toList k z10 := by
              rcases sw5 hS4 e10 with h | h
              · exact ⟨5, by decide, h.2⟩
              · exact ⟨4, by decide, h.2⟩
            refine o_nil ?_
            refine s_seq ?_
            refine s_region ?_
            refine o_q (q_mv ((by first | exact v_raw rfl | exact v_sptr rfl))) rfl rfl rfl ?_
            refine o_q (q_mv (v_raw rfl)) rfl rfl rfl ?_
            refine o_q (q_mv (v_sl rfl)) rfl rfl rfl ?_
            refine o_callx ((crash_at hA10 (by decide) hdi hks rfl)) goes15 (ac ((by first | exact v_raw rfl | exact v_sptr rfl)) (ac (v_raw rfl) (ac (v_sl rfl) ac_nil))) rfl ?_
            rintro r M20 ⟨O20, W20, hA20, -⟩
            have hR := sw_fin hSe dirs keeps
            refine o_nil ?_
            refine s_seq ?_
            refine s_region ?_
            refine o_q (q_mv ((by first | exact v_raw rfl | exact v_sptr rfl))) rfl rfl rfl ?_
            refine o_call ((read_at (nm := sM) hA20 rfl)) goes16 (ac ((by first | exact v_raw rfl | exact v_sptr rfl)) (ac (v_raw rfl) ac_nil)) rfl ?_
            refine o_q (q_mv (v_tup rfl)) rfl rfl rfl ?_
            refine o_q (q_ext rfl rfl (v_raw rfl)) rfl rfl rfl ?_
            refine o_q (q_ext rfl rfl (v_raw rfl)) rfl rfl rfl ?_
            refine o_q (q_as (v_raw rfl)) rfl rfl rfl ?_
            refine o_q (q_as (v_raw rfl)) rfl rfl rfl ?_
            refine o_nil ?_
            refine s_seq ?_
            refine s_region ?_
            refine o_q (q_mv (v_raw rfl)) rfl rfl rfl ?_
            refine o_q (q_mv (v_raw rfl)) rfl rfl rfl ?_
            refine o_yes rfl rfl rfl rfl ?_
            refine o_q (q_mv (v_raw rfl)) rfl rfl rfl ?_
            refine o_yes rfl rfl rfl rfl ?_
            refine o_q (q_eql rfl rfl) rfl rfl rfl ?_
            refine o_q (q_pick_c (t := true) rfl rfl (v_raw rfl)) rfl rfl rfl ?_
            refine o_q (q_mv (v_raw rfl)) rfl rfl rfl ?_
            refine o_cases (want := true) (j := 5) rfl rfl (fun h6 => ?_) (fun h6 => ?_)
            · have k6 := h6; try simp only [decide_eq_true_eq, decide_eq_false_iff_not, Bool.not_eq_true', Bool.not_eq_false', Bool.not_true, Bool.not_false, List.length_map, Decidable.not_not] at k6
              refine o_yes rfl rfl rfl h6 ?_
              refine o_q (q_mv (v_raw rfl)) rfl rfl rfl ?_
              refine o_yes rfl rfl rfl h6 ?_
              refine o_q (q_mv (v_raw rfl)) rfl rfl rfl ?_
              refine o_yes rfl rfl rfl h6 ?_
              refine o_q (q_seql rfl rfl) rfl rfl rfl ?_
              refine o_yes rfl rfl rfl h6 ?_
              refine o_q (q_mv (v_raw rfl)) rfl rfl rfl ?_
              refine o_cases (want := false) (j := 9) rfl rfl (fun h7 => ?_) (fun h7 => ?_)
              · have k7 := h7; try simp only [decide_eq_true_eq, decide_eq_false_iff_not, Bool.not_eq_true', Bool.not_eq_false', Bool.not_true, Bool.not_false, List.length_map, Decidable.not_not] at k7
                refine o_yes rfl rfl rfl h7 ?_
                refine o_q (q_mv (v_raw rfl)) rfl rfl rfl ?_
                refine o_yes rfl rfl rfl h7 ?_
                refine o_q (q_mv (v_raw rfl)) rfl rfl rfl ?_
                refine o_yes rfl rfl rfl h7 ?_
                refine o_q (q_seql rfl rfl) rfl rfl rfl ?_
                refine o_yes rfl rfl rfl h6 ?_
                refine o_q (q_pick_c (t := false) rfl h7 (v_raw rfl)) rfl rfl rfl ?_
                refine o_q (q_pick_c (t := true) rfl h6 (v_raw rfl)) rfl rfl rfl ?_
                refine o_q (q_as (v_raw rfl)) rfl rfl rfl ?_
                refine o_nil ?_
                refine s_ret ?_
                refine s_end ?_
                first | exact ⟨rfl, le0 _⟩ | exact ⟨congrArg bool (decide_eq_true (hR.2.resolve_left (by assumption))), le0 _⟩
              · have k7 := h7; try simp only [decide_eq_true_eq, decide_eq_false_iff_not, Bool.not_eq_true', Bool.not_eq_false', Bool.not_true, Bool.not_false, List.length_map, Decidable.not_not] at k7
                refine o_no rfl rfl rfl rfl h7 ?_
                refine o_no rfl rfl rfl rfl h7 ?_
                refine o_no rfl rfl rfl rfl h7 ?_
                refine o_yes rfl rfl rfl h6 ?_
                refine o_q (q_pick_c (t := true) rfl h7 (v_raw rfl)) rfl rfl rfl ?_
                refine o_q (q_pick_c (t := true) rfl h6 (v_raw rfl)) rfl rfl rfl ?_
                refine o_q (q_as (v_raw rfl)) rfl rfl rfl ?_
                refine o_nil ?_
                refine s_ret ?_
                refine s_end ?_
                first | exact ⟨rfl, le0 _⟩ | exact ⟨congrArg bool (decide_eq_true (hR.2.resolve_left (by assumption))), le0 _⟩
            · have k6 := h6; try simp only [decide_eq_true_eq, decide_eq_false_iff_not, Bool.not_eq_true', Bool.not_eq_false', Bool.not_true, Bool.not_false, List.length_map, Decidable.not_not] at k6
              exact absurd hR.1 k6
          · have k5 := h5; try simp only [decide_eq_true_eq, decide_eq_false_iff_not, Bool.not_eq_true', Bool.not_eq_false', Bool.not_true, Bool.not_false, List.length_map, Decidable.not_not] at k5
            have hSe : ∃ k, k ≤ 5 ∧ Sw old.data.toList anew.data.toList k z9 := ⟨3, by decide, pickF (sw4 hS3 e9) k5⟩
            refine s_skip ?_
            refine s_seq ?_
            refine s_region ?_
            refine o_q (q_mv ((by first | exact v_raw rfl | exact v_sptr rfl))) rfl rfl rfl ?_
            refine o_q (q_mv (v_raw rfl)) rfl rfl rfl ?_
            refine o_q (q_mv (v_sl rfl)) rfl rfl rfl ?_
            refine o_callx ((crash_at hA9 (by decide) hdi hks rfl)) goes15 (ac ((by first | exact v_raw rfl | exact v_sptr rfl)) (ac (v_raw rfl) (ac (v_sl rfl) ac_nil))) rfl ?_
            rintro r M21 ⟨O21, W21, hA21, -⟩
            have hR := sw_fin hSe dirs keeps
            refine o_nil ?_
            refine s_seq ?_
            refine s_region ?_
            refine o_q (q_mv ((by first | exact v_raw rfl | exact v_sptr rfl))) rfl rfl rfl ?_
            refine o_call ((read_at (nm := sM) hA21 rfl)) goes16 (ac ((by first | exact v_raw rfl | exact v_sptr rfl)) (ac (v_raw rfl) ac_nil)) rfl ?_
            refine o_q (q_mv (v_tup rfl)) rfl rfl rfl ?_
            refine o_q (q_ext rfl rfl (v_raw rfl)) rfl rfl rfl ?_
            refine o_q (q_ext rfl rfl (v_raw rfl)) rfl rfl rfl ?_
            refine o_q (q_as (v_raw rfl)) rfl rfl rfl ?_
            refine o_q (q_as (v_raw rfl)) rfl rfl rfl ?_
            refine o_nil ?_
            refine s_seq ?_
            refine s_region ?_
            refine o_q (q_mv (v_raw rfl)) rfl rfl rfl ?_
            refine o_q (q_mv (v_raw rfl)) rfl rfl rfl ?_
            refine o_yes rfl rfl rfl rfl ?_
            refine o_q (q_mv (v_raw rfl)) rfl rfl rfl ?_
            refine o_yes rfl rfl rfl rfl ?_
            refine o_q (q_eql rfl rfl) rfl rfl rfl ?_
            refine o_q (q_pick_c (t := true) rfl rfl (v_raw rfl)) rfl rfl rfl ?_
            refine o_q (q_mv (v_raw rfl)) rfl rfl rfl ?_
            refine o_cases (want := true) (j := 5) rfl rfl (fun h8 => ?_) (fun h8 => ?_)
            · have k8 := h8; try simp only [decide_eq_true_eq, decide_eq_false_iff_not, Bool.not_eq_true', Bool.not_eq_false', Bool.not_true, Bool.not_false, List.length_map, Decidable.not_not] at k8
              refine o_yes rfl rfl rfl h8 ?_
              refine o_q (q_mv (v_raw rfl)) rfl rfl rfl ?_
              refine o_yes rfl rfl rfl h8 ?_
              refine o_q (q_mv (v_raw rfl)) rfl rfl rfl ?_
              refine o_yes rfl rfl rfl h8 ?_
              refine o_q (q_seql rfl rfl) rfl rfl rfl ?_
              refine o_yes rfl rfl rfl h8 ?_
              refine o_q (q_mv (v_raw rfl)) rfl rfl rfl ?_
              refine o_cases (want := false) (j := 9) rfl rfl (fun h9 => ?_) (fun h9 => ?_)
              · have k9 := h9; try simp only [decide_eq_true_eq, decide_eq_false_iff_not, Bool.not_eq_true', Bool.not_eq_false', Bool.not_true, Bool.not_false, List.length_map, Decidable.not_not] at k9
                refine o_yes rfl rfl rfl h9 ?_
                refine o_q (q_mv (v_raw rfl)) rfl rfl rfl ?_
                refine o_yes rfl rfl rfl h9 ?_
                refine o_q (q_mv (v_raw rfl)) rfl rfl rfl ?_
                refine o_yes rfl rfl rfl h9 ?_
                refine o_q (q_seql rfl rfl) rfl rfl rfl ?_
                refine o_yes rfl rfl rfl h8 ?_
                refine o_q (q_pick_c (t := false) rfl h9 (v_raw rfl)) rfl rfl rfl ?_
                refine o_q (q_pick_c (t := true) rfl h8 (v_raw rfl)) rfl rfl rfl ?_
                refine o_q (q_as (v_raw rfl)) rfl rfl rfl ?_
                refine o_nil ?_
                refine s_ret ?_
                refine s_end ?_
                first | exact ⟨rfl, le0 _⟩ | exact ⟨congrArg bool (decide_eq_true (hR.2.resolve_left (by assumption))), le0 _⟩
              · have k9 := h9; try simp only [decide_eq_true_eq, decide_eq_false_iff_not, Bool.not_eq_true', Bool.not_eq_false', Bool.not_true, Bool.not_false, List.length_map, Decidable.not_not] at k9
                refine o_no rfl rfl rfl rfl h9 ?_
                refine o_no rfl rfl rfl rfl h9 ?_
                refine o_no rfl rfl rfl rfl h9 ?_
                refine o_yes rfl rfl rfl h8 ?_
                refine o_q (q_pick_c (t := true) rfl h9 (v_raw rfl)) rfl rfl rfl ?_
                refine o_q (q_pick_c (t := true) rfl h8 (v_raw rfl)) rfl rfl rfl ?_
                refine o_q (q_as (v_raw rfl)) rfl rfl rfl ?_
                refine o_nil ?_
                refine s_ret ?_
                refine s_end ?_
                first | exact ⟨rfl, le0 _⟩ | exact ⟨congrArg bool (decide_eq_true (hR.2.resolve_left (by assumption))), le0 _⟩
            · have k8 := h8; try simp only [decide_eq_true_eq, decide_eq_false_iff_not, Bool.not_eq_true', Bool.not_eq_false', Bool.not_true, Bool.not_false, List.length_map, Decidable.not_not] at k8
              exact absurd hR.1 k8
        · have k4 := h4; try simp only [decide_eq_true_eq, decide_eq_false_iff_not, Bool.not_eq_true', Bool.not_eq_false', Bool.not_true, Bool.not_false, List.length_map, Decidable.not_not] at k4
          have hSe : ∃ k, k ≤ 5 ∧ Sw old.data.toList anew.data.toList k z8 := ⟨2, by decide, pickF (sw3 hS2 e8) k4⟩
          refine o_no rfl rfl rfl rfl h4 ?_
          refine o_no rfl rfl rfl rfl h4 ?_
          refine o_no rfl rfl rfl rfl h4 ?_
          refine o_q (q_pick_c (t := false) rfl h4 (v_raw rfl)) rfl rfl rfl ?_
          refine o_nil ?_
          refine s_else rfl rfl ?_
          refine s_skip ?_
          refine s_seq ?_
          refine s_region ?_
          refine o_q (q_mv ((by first | exact v_raw rfl | exact v_sptr rfl))) rfl rfl rfl ?_
          refine o_q (q_mv (v_raw rfl)) rfl rfl rfl ?_
          refine o_q (q_mv (v_sl rfl)) rfl rfl rfl ?_
          refine o_callx ((crash_at hA8 (by decide) hdi hks rfl)) goes15 (ac ((by first | exact v_raw rfl | exact v_sptr rfl)) (ac (v_raw rfl) (ac (v_sl rfl) ac_nil))) rfl ?_
          rintro r M22 ⟨O22, W22, hA22, -⟩
          have hR := sw_fin hSe dirs keeps
          refine o_nil ?_
          refine s_seq ?_
          refine s_region ?_
          refine o_q (q_mv ((by first | exact v_raw rfl | exact v_sptr rfl))) rfl rfl rfl ?_
          refine o_call ((read_at (nm := sM) hA22 rfl)) goes16 (ac ((by first | exact v_raw rfl | exact v_sptr rfl)) (ac (v_raw rfl) ac_nil)) rfl ?_
          refine o_q (q_mv (v_tup rfl)) rfl rfl rfl ?_
          refine o_q (q_ext rfl rfl (v_raw rfl)) rfl rfl rfl ?_
          refine o_q (q_ext rfl rfl (v_raw rfl)) rfl rfl rfl ?_
          refine o_q (q_as (v_raw rfl)) rfl rfl rfl ?_
          refine o_q (q_as (v_raw rfl)) rfl rfl rfl ?_
          refine o_nil ?_
          refine s_seq ?_
          refine s_region ?_
          refine o_q (q_mv (v_raw rfl)) rfl rfl rfl ?_
          refine o_q (q_mv (v_raw rfl)) rfl rfl rfl ?_
          refine o_yes rfl rfl rfl rfl ?_
          refine o_q (q_mv (v_raw rfl)) rfl rfl rfl ?_
          refine o_yes rfl rfl rfl rfl ?_
          refine o_q (q_eql rfl rfl) rfl rfl rfl ?_
          refine o_q (q_pick_c (t := true) rfl rfl (v_raw rfl)) rfl rfl rfl ?_
          refine o_q (q_mv (v_raw rfl)) rfl rfl rfl ?_
          refine o_cases (want := true) (j := 5) rfl rfl (fun h10 => ?_) (fun h10 => ?_)
          · have k10 := h10; try simp only [decide_eq_true_eq, decide_eq_false_iff_not, Bool.not_eq_true', Bool.not_eq_false', Bool.not_true, Bool.not_false, List.length_map, Decidable.not_not] at k10
            refine o_yes rfl rfl rfl h10 ?_
            refine o_q (q_mv (v_raw rfl)) rfl rfl rfl ?_
            refine o_yes rfl rfl rfl h10 ?_
            refine o_q (q_mv (v_raw rfl)) rfl rfl rfl ?_
            refine o_yes rfl rfl rfl h10 ?_
            refine o_q (q_seql rfl rfl) rfl rfl rfl ?_
            refine o_yes rfl rfl rfl h10 ?_
            refine o_q (q_mv (v_raw rfl)) rfl rfl rfl ?_
            refine o_cases (want := false) (j := 9) rfl rfl (fun h11 => ?_) (fun h11 => ?_)
            · have k11 := h11; try simp only [decide_eq_true_eq, decide_eq_false_iff_not, Bool.not_eq_true', Bool.not_eq_false', Bool.not_true, Bool.not_false, List.length_map, Decidable.not_not] at k11
              refine o_yes rfl rfl rfl h11 ?_
              refine o_q (q_mv (v_raw rfl)) rfl rfl rfl ?_
              refine o_yes rfl rfl rfl h11 ?_
              refine o_q (q_mv (v_raw rfl)) rfl rfl rfl ?_
              refine o_yes rfl rfl rfl h11 ?_
              refine o_q (q_seql rfl rfl) rfl rfl rfl ?_
              refine o_yes rfl rfl rfl h10 ?_
              refine o_q (q_pick_c (t := false) rfl h11 (v_raw rfl)) rfl rfl rfl ?_
              refine o_q (q_pick_c (t := true) rfl h10 (v_raw rfl)) rfl rfl rfl ?_
              refine o_q (q_as (v_raw rfl)) rfl rfl rfl ?_
              refine o_nil ?_
              refine s_ret ?_
              refine s_end ?_
              first | exact ⟨rfl, le0 _⟩ | exact ⟨congrArg bool (decide_eq_true (hR.2.resolve_left (by assumption))), le0 _⟩
            · have k11 := h11; try simp only [decide_eq_true_eq, decide_eq_false_iff_not, Bool.not_eq_true', Bool.not_eq_false', Bool.not_true, Bool.not_false, List.length_map, Decidable.not_not] at k11
              refine o_no rfl rfl rfl rfl h11 ?_
              refine o_no rfl rfl rfl rfl h11 ?_
              refine o_no rfl rfl rfl rfl h11 ?_
              refine o_yes rfl rfl rfl h10 ?_
              refine o_q (q_pick_c (t := true) rfl h11 (v_raw rfl)) rfl rfl rfl ?_
              refine o_q (q_pick_c (t := true) rfl h10 (v_raw rfl)) rfl rfl rfl ?_
              refine o_q (q_as (v_raw rfl)) rfl rfl rfl ?_
              refine o_nil ?_
              refine s_ret ?_
              refine s_end ?_
              first | exact ⟨rfl, le0 _⟩ | exact ⟨congrArg bool (decide_eq_true (hR.2.resolve_left (by assumption))), le0 _⟩
          · have k10 := h10; try simp only [decide_eq_true_eq, decide_eq_false_iff_not, Bool.not_eq_true', Bool.not_eq_false', Bool.not_true, Bool.not_false, List.length_map, Decidable.not_not] at k10
            exact absurd hR.1 k10
      · have k3 := h3; try simp only [decide_eq_true_eq, decide_eq_false_iff_not, Bool.not_eq_true', Bool.not_eq_false', Bool.not_true, Bool.not_false, List.length_map, Decidable.not_not] at k3
        have hSe : ∃ k, k ≤ 5 ∧ Sw old.data.toList anew.data.toList k z7 := ⟨1, by decide, pickF (sw2 (tx := anew) rfl (by omega) hS1 e7) k3⟩
        refine o_no rfl rfl rfl rfl h3 ?_
        refine o_no rfl rfl rfl rfl h3 ?_
        refine o_no rfl rfl rfl rfl h3 ?_
        refine o_q (q_pick_c (t := false) rfl h3 (v_raw rfl)) rfl rfl rfl ?_
        refine o_q (q_mv (v_raw rfl)) rfl rfl rfl ?_
        refine o_no rfl rfl rfl rfl rfl ?_
        refine o_no rfl rfl rfl rfl rfl ?_
        refine o_no rfl rfl rfl rfl rfl ?_
        refine o_q (q_pick_c (t := false) rfl rfl (v_raw rfl)) rfl rfl rfl ?_
        refine o_nil ?_
        refine s_else rfl rfl ?_
        refine s_skip ?_
        refine s_seq ?_
        refine s_region ?_
        refine o_q (q_mv ((by first | exact v_raw rfl | exact v_sptr rfl))) rfl rfl rfl ?_
        refine o_q (q_mv (v_raw rfl)) rfl rfl rfl ?_
        refine o_q (q_mv (v_sl rfl)) rfl rfl rfl ?_
        refine o_callx ((crash_at hA7 (by decide) hdi hks rfl)) goes15 (ac ((by first | exact v_raw rfl | exact v_sptr rfl)) (ac (v_raw rfl) (ac (v_sl rfl) ac_nil))) rfl ?_
        rintro r M23 ⟨O23, W23, hA23, -⟩
        have hR := sw_fin hSe dirs keeps
        refine o_nil ?_
        refine s_seq ?_
        refine s_region ?_
        refine o_q (q_mv ((by first | exact v_raw rfl | exact v_sptr rfl))) rfl rfl rfl ?_
        refine o_call ((read_at (nm := sM) hA23 rfl)) goes16 (ac ((by first | exact v_raw rfl | exact v_sptr rfl)) (ac (v_raw rfl) ac_nil)) rfl ?_
        refine o_q (q_mv (v_tup rfl)) rfl rfl rfl ?_
        refine o_q (q_ext rfl rfl (v_raw rfl)) rfl rfl rfl ?_
        refine o_q (q_ext rfl rfl (v_raw rfl)) rfl rfl rfl ?_
        refine o_q (q_as (v_raw rfl)) rfl rfl rfl ?_
        refine o_q (q_as (v_raw rfl)) rfl rfl rfl ?_
        refine o_nil ?_
        refine s_seq ?_
        refine s_region ?_
        refine o_q (q_mv (v_raw rfl)) rfl rfl rfl ?_
        refine o_q (q_mv (v_raw rfl)) rfl rfl rfl ?_
        refine o_yes rfl rfl rfl rfl ?_
        refine o_q (q_mv (v_raw rfl)) rfl rfl rfl ?_
        refine o_yes rfl rfl rfl rfl ?_
        refine o_q (q_eql rfl rfl) rfl rfl rfl ?_
        refine o_q (q_pick_c (t := true) rfl rfl (v_raw rfl)) rfl rfl rfl ?_
        refine o_q (q_mv (v_raw rfl)) rfl rfl rfl ?_
        refine o_cases (want := true) (j := 5) rfl rfl (fun h12 => ?_) (fun h12 => ?_)
        · have k12 := h12; try simp only [decide_eq_true_eq, decide_eq_false_iff_not, Bool.not_eq_true', Bool.not_eq_false', Bool.not_true, Bool.not_false, List.length_map, Decidable.not_not] at k12
          refine o_yes rfl rfl rfl h12 ?_
          refine o_q (q_mv (v_raw rfl)) rfl rfl rfl ?_
          refine o_yes rfl rfl rfl h12 ?_
          refine o_q (q_mv (v_raw rfl)) rfl rfl rfl ?_
          refine o_yes rfl rfl rfl h12 ?_
          refine o_q (q_seql rfl rfl) rfl rfl rfl ?_
          refine o_yes rfl rfl rfl h12 ?_
          refine o_q (q_mv (v_raw rfl)) rfl rfl rfl ?_
          refine o_cases (want := false) (j := 9) rfl rfl (fun h13 => ?_) (fun h13 => ?_)
          · have k13 := h13; try simp only [decide_eq_true_eq, decide_eq_false_iff_not, Bool.not_eq_true', Bool.not_eq_false', Bool.not_true, Bool.not_false, List.length_map, Decidable.not_not] at k13
            refine o_yes rfl rfl rfl h13 ?_
            refine o_q (q_mv (v_raw rfl)) rfl rfl rfl ?_
            refine o_yes rfl rfl rfl h13 ?_
            refine o_q (q_mv (v_raw rfl)) rfl rfl rfl ?_
            refine o_yes rfl rfl rfl h13 ?_
            refine o_q (q_seql rfl rfl) rfl rfl rfl ?_
            refine o_yes rfl rfl rfl h12 ?_
            refine o_q (q_pick_c (t := false) rfl h13 (v_raw rfl)) rfl rfl rfl ?_
            refine o_q (q_pick_c (t := true) rfl h12 (v_raw rfl)) rfl rfl rfl ?_
            refine o_q (q_as (v_raw rfl)) rfl rfl rfl ?_
            refine o_nil ?_
            refine s_ret ?_
            refine s_end ?_
            first | exact ⟨rfl, le0 _⟩ | exact ⟨congrArg bool (decide_eq_true (hR.2.resolve_left (by assumption))), le0 _⟩
          · have k13 := h13; try simp only [decide_eq_true_eq, decide_eq_false_iff_not, Bool.not_eq_true', Bool.not_eq_false', Bool.not_true, Bool.not_false, List.length_map, Decidable.not_not] at k13
            refine o_no rfl rfl rfl rfl h13 ?_
            refine o_no rfl rfl rfl rfl h13 ?_
            refine o_no rfl rfl rfl rfl h13 ?_
            refine o_yes rfl rfl rfl h12 ?_
            refine o_q (q_pick_c (t := true) rfl h13 (v_raw rfl)) rfl rfl rfl ?_
            refine o_q (q_pick_c (t := true) rfl h12 (v_raw rfl)) rfl rfl rfl ?_
            refine o_q (q_as (v_raw rfl)) rfl rfl rfl ?_
            refine o_nil ?_
            refine s_ret ?_
            refine s_end ?_
            first | exact ⟨rfl, le0 _⟩ | exact ⟨congrArg bool (decide_eq_true (hR.2.resolve_left (by assumption))), le0 _⟩
        · have k12 := h12; try simp only [decide_eq_true_eq, decide_eq_false_iff_not, Bool.not_eq_true', Bool.not_eq_false', Bool.not_true, Bool.not_false, List.length_map, Decidable.not_not] at k12
          exact absurd hR.1 k12
    · have k2 := h2; try simp only [decide_eq_true_eq, decide_eq_false_iff_not, Bool.not_eq_true', Bool.not_eq_false', Bool.not_true, Bool.not_false, List.length_map, Decidable.not_not] at k2
      have hSe : ∃ k, k ≤ 5 ∧ Sw old.data.toList anew.data.toList k z6 := ⟨0, by decide, pickF (sw1 hS0 e6) k2⟩
      refine o_no rfl rfl rfl rfl h2 ?_
      refine o_no rfl rfl rfl rfl h2 ?_
      refine o_no rfl rfl rfl rfl h2 ?_
      refine o_no rfl rfl rfl rfl h2 ?_
      refine o_q (q_pick_c (t := false) rfl h2 (v_raw rfl)) rfl rfl rfl ?_
      refine o_q (q_mv (v_raw rfl)) rfl rfl rfl ?_
      refine o_no rfl rfl rfl rfl rfl ?_
      refine o_no rfl rfl rfl rfl rfl ?_
      refine o_no rfl rfl rfl rfl rfl ?_
      refine o_q (q_pick_c (t := false) rfl rfl (v_raw rfl)) rfl rfl rfl ?_
      refine o_q (q_mv (v_raw rfl)) rfl rfl rfl ?_
      refine o_no rfl rfl rfl rfl rfl ?_
      refine o_no rfl rfl rfl rfl rfl ?_
      refine o_no rfl rfl rfl rfl rfl ?_
      refine o_q (q_pick_c (t := false) rfl rfl (v_raw rfl)) rfl rfl rfl ?_
      refine o_nil ?_
      refine s_else rfl rfl ?_
      refine s_skip ?_
      refine s_seq ?_
      refine s_region ?_
      refine o_q (q_mv ((by first | exact v_raw rfl | exact v_sptr rfl))) rfl rfl rfl ?_
      refine o_q (q_mv (v_raw rfl)) rfl rfl rfl ?_
      refine o_q (q_mv (v_sl rfl)) rfl rfl rfl ?_
      refine o_callx ((crash_at hA6 (by decide) hdi hks rfl)) goes15 (ac ((by first | exact v_raw rfl | exact v_sptr rfl)) (ac (v_raw rfl) (ac (v_sl rfl) ac_nil))) rfl ?_
      rintro r M24 ⟨O24, W24, hA24, -⟩
      have hR := sw_fin hSe dirs keeps
      refine o_nil ?_
      refine s_seq ?_
      refine s_region ?_
      refine o_q (q_mv ((by first | exact v_raw rfl | exact v_sptr rfl))) rfl rfl rfl ?_
      refine o_call ((read_at (nm := sM) hA24 rfl)) goes16 (ac ((by first | exact v_raw rfl | exact v_sptr rfl)) (ac (v_raw rfl) ac_nil)) rfl ?_
      refine o_q (q_mv (v_tup rfl)) rfl rfl rfl ?_
      refine o_q (q_ext rfl rfl (v_raw rfl)) rfl rfl rfl ?_
      refine o_q (q_ext rfl rfl (v_raw rfl)) rfl rfl rfl ?_
      refine o_q (q_as (v_raw rfl)) rfl rfl rfl ?_
      refine o_q (q_as (v_raw rfl)) rfl rfl rfl ?_
      refine o_nil ?_
      refine s_seq ?_
      refine s_region ?_
      refine o_q (q_mv (v_raw rfl)) rfl rfl rfl ?_
      refine o_q (q_mv (v_raw rfl)) rfl rfl rfl ?_
      refine o_yes rfl rfl rfl rfl ?_
      refine o_q (q_mv (v_raw rfl)) rfl rfl rfl ?_
      refine o_yes rfl rfl rfl rfl ?_
      refine o_q (q_eql rfl rfl) rfl rfl rfl ?_
      refine o_q (q_pick_c (t := true) rfl rfl (v_raw rfl)) rfl rfl rfl ?_
      refine o_q (q_mv (v_raw rfl)) rfl rfl rfl ?_
      refine o_cases (want := true) (j := 5) rfl rfl (fun h14 => ?_) (fun h14 => ?_)
      · have k14 := h14; try simp only [decide_eq_true_eq, decide_eq_false_iff_not, Bool.not_eq_true', Bool.not_eq_false', Bool.not_true, Bool.not_false, List.length_map, Decidable.not_not] at k14
        refine o_yes rfl rfl rfl h14 ?_
        refine o_q (q_mv (v_raw rfl)) rfl rfl rfl ?_
        refine o_yes rfl rfl rfl h14 ?_
        refine o_q (q_mv (v_raw rfl)) rfl rfl rfl ?_
        refine o_yes rfl rfl rfl h14 ?_
        refine o_q (q_seql rfl rfl) rfl rfl rfl ?_
        refine o_yes rfl rfl rfl h14 ?_
        refine o_q (q_mv (v_raw rfl)) rfl rfl rfl ?_
        refine o_cases (want := false) (j := 9) rfl rfl (fun h15 => ?_) (fun h15 => ?_)
        · have k15 := h15; try simp only [decide_eq_true_eq, decide_eq_false_iff_not, Bool.not_eq_true', Bool.not_eq_false', Bool.not_true, Bool.not_false, List.length_map, Decidable.not_not] at k15
          refine o_yes rfl rfl rfl h15 ?_
          refine o_q (q_mv (v_raw rfl)) rfl rfl rfl ?_
          refine o_yes rfl rfl rfl h15 ?_
          refine o_q (q_mv (v_raw rfl)) rfl rfl rfl ?_
          refine o_yes rfl rfl rfl h15 ?_
          refine o_q (q_seql rfl rfl) rfl rfl rfl ?_
          refine o_yes rfl rfl rfl h14 ?_
          refine o_q (q_pick_c (t := false) rfl h15 (v_raw rfl)) rfl rfl rfl ?_
          refine o_q (q_pick_c (t := true) rfl h14 (v_raw rfl)) rfl rfl rfl ?_
          refine o_q (q_as (v_raw rfl)) rfl rfl rfl ?_
          refine o_nil ?_
          refine s_ret ?_
          refine s_end ?_
          first | exact ⟨rfl, le0 _⟩ | exact ⟨congrArg bool (decide_eq_true (hR.2.resolve_left (by assumption))), le0 _⟩
        · have k15 := h15; try simp only [decide_eq_true_eq, decide_eq_false_iff_not, Bool.not_eq_true', Bool.not_eq_false', Bool.not_true, Bool.not_false, List.length_map, Decidable.not_not] at k15
          refine o_no rfl rfl rfl rfl h15 ?_
          refine o_no rfl rfl rfl rfl h15 ?_
          refine o_no rfl rfl rfl rfl h15 ?_
          refine o_yes rfl rfl rfl h14 ?_
          refine o_q (q_pick_c (t := true) rfl h15 (v_raw rfl)) rfl rfl rfl ?_
          refine o_q (q_pick_c (t := true) rfl h14 (v_raw rfl)) rfl rfl rfl ?_
          refine o_q (q_as (v_raw rfl)) rfl rfl rfl ?_
          refine o_nil ?_
          refine s_ret ?_
          refine s_end ?_
          first | exact ⟨rfl, le0 _⟩ | exact ⟨congrArg bool (decide_eq_true (hR.2.resolve_left (by assumption))), le0 _⟩
      · have k14 := h14; try simp only [decide_eq_true_eq, decide_eq_false_iff_not, Bool.not_eq_true', Bool.not_eq_false', Bool.not_true, Bool.not_false, List.length_map, Decidable.not_not] at k14
        exact absurd hR.1 k14

def tk30 : Nat → Nat → Option Nat := fun _ _ => none
def pl30 : Nat → List PStep := fun _ => []
theorem cb30 : Try.f30.body.map (codeB Try.prog Try.f30.ntmps tk30 pl30) = some true := by kernel_rfl
theorem goes30 : goesB Try.prog 30 = true := by kernel_rfl
-- carillon/carillonlaw04.one params ['*disk.Disk', 'carillonlaw04.Deed'] results [['t', 4]] own [] names ['0:d', '1:o', '2:d', '3:o'] calls [11, 12, 13, 14, 18, 19, 26, 27] paths 7

theorem Aft.pre' {M M2 M' : Mem} {O W : Nat → Prop} {d n m : Nat} {s s' : DS} (hA : DiskAt M d n s O W) (hle : M.le M2) (h : Aft M2 M' d m s' O W) : Aft M M' d m s' O W := by
  obtain ⟨rf, rl, adr, chs, hD⟩ := hA
  exact Aft.pre hD hle (fun c _ _ => rfl) (fun c h => h) h
theorem DiskAt.gd {M : Mem} {O W : Nat → Prop} {d n : Nat} {s : DS} (hA : DiskAt M d n s O W) : Gd s.files.length s.dir := by
  obtain ⟨rf, rl, adr, chs, hD⟩ := hA
  exact (okC_gd hD.oc).2
set_option maxHeartbeats 4000000 in
set_option maxRecDepth 20000 in
theorem snd30 (M : Mem) (d n : Nat) (s : DS) (O W : Nat → Prop) (hA : DiskAt M d n s O W) (hn : n < BIG) (o : De) (ho : okDe o) (c : Int) (z : DS) (e : s.one o = (c, z)) : SoundCall Try.prog 30 [ptr d, encDe o] M fun r M' => r = int c ∧ Aft M M' d (n + 1) z O W := by
  obtain ⟨ho1, ho2⟩ := ho
  refine SoundCall.go tk30 pl30 mixed Try.func30 cb30 rfl (Nat.le_of_ble_eq_true rfl) ?_
  refine s_seq ?_
  refine s_region ?_
  refine o_box (by first | exact e_raw rfl | exact e_agg rfl | exact e_sl rfl) rfl rfl (fun B1 hB1 => ?_)
  refine o_q (q_as (v_raw rfl)) rfl rfl rfl ?_
  refine o_nil ?_
  refine s_seq ?_
  refine s_seq ?_
  refine s_region ?_
  refine o_q (q_fr fo42_0 rfl) rfl rfl rfl ?_
  refine o_q (q_ldm ag3 sz3 rfl (by repeat first | exact Mem.upd_self _ _ _ | assumption | refine Mem.upd_ne (by assumption) ?_) rfl (v_raw rfl)) rfl rfl rfl ?_
  refine o_call ((snd18 o.kind 7 _ (by decide) (by decide) ho1)) goes18 (ac (v_raw rfl) (ac (v_raw rfl) ac_nil)) rfl ?_
  refine o_nil ?_
  refine s_block ?_
  refine s_seq ?_
  refine s_region ?_
  refine o_q (q_eql rfl rfl) rfl rfl rfl ?_
  refine o_q (q_as (v_raw rfl)) rfl rfl rfl ?_
  refine o_nil ?_
  refine s_cond rfl (fun h1 => ?_) (fun h1 => ?_)
  · have k1 := h1; try simp only [decide_eq_true_eq, decide_eq_false_iff_not, Bool.not_eq_true', Bool.not_eq_false', Bool.not_true, Bool.not_false, List.length_map, Decidable.not_not] at k1
    have e2 : s.create o.a = (c, z) := by
      rw [← e]; unfold DS.one; rw [if_pos k1]
    refine s_seq ?_
    refine s_region ?_
    refine o_q (q_mv ((by first | exact v_raw rfl | exact v_sptr rfl))) rfl rfl rfl ?_
    refine o_q (q_fr fo42_1 rfl) rfl rfl rfl ?_
    refine o_q (q_ldm ag9 sz9 rfl (by repeat first | exact Mem.upd_self _ _ _ | assumption | refine Mem.upd_ne (by assumption) ?_) rfl (v_raw rfl)) rfl rfl rfl ?_
    refine o_callx ((create_at (hA.le (Mem.le_upd (Mem.le_refl M) hB1)) hn e2)) goes11 (ac ((by first | exact v_raw rfl | exact v_sptr rfl)) (ac (v_raw rfl) ac_nil)) rfl ?_
    rintro r2 M2 ⟨rfl, hB⟩
    refine o_q (q_as (v_raw rfl)) rfl rfl rfl ?_
    refine o_nil ?_
    refine s_ret ?_
    refine s_blk_ret ?_
    refine s_code_ret ?_
    refine s_end ?_
    exact ⟨rfl, hB.pre' hA (Mem.le_upd (Mem.le_refl M) hB1)⟩
  · have k1 := h1; try simp only [decide_eq_true_eq, decide_eq_false_iff_not, Bool.not_eq_true', Bool.not_eq_false', Bool.not_true, Bool.not_false, List.length_map, Decidable.not_not] at k1
    refine s_seq ?_
    refine s_region ?_
    refine o_q (q_eql rfl rfl) rfl rfl rfl ?_
    refine o_q (q_as (v_raw rfl)) rfl rfl rfl ?_
    refine o_nil ?_
    refine s_cond rfl (fun h2 => ?_) (fun h2 => ?_)
    · have k2 := h2; try simp only [decide_eq_true_eq, decide_eq_false_iff_not, Bool.not_eq_true', Bool.not_eq_false', Bool.not_true, Bool.not_false, List.length_map, Decidable.not_not] at k2
      have e2 : s.append o.a o.b = (c, z) := by
        rw [← e]; unfold DS.one; rw [if_neg k1, if_pos k2]
      refine s_seq ?_
      refine s_region ?_
      refine o_q (q_mv ((by first | exact v_raw rfl | exact v_sptr rfl))) rfl rfl rfl ?_
      refine o_q (q_fr fo42_1 rfl) rfl rfl rfl ?_
      refine o_q (q_ldm ag9 sz9 rfl (by repeat first | exact Mem.upd_self _ _ _ | assumption | refine Mem.upd_ne (by assumption) ?_) rfl (v_raw rfl)) rfl rfl rfl ?_
      refine o_q (q_fr fo42_2 rfl) rfl rfl rfl ?_
      refine o_q (q_ldm ag9 sz9 rfl (by repeat first | exact Mem.upd_self _ _ _ | assumption | refine Mem.upd_ne (by assumption) ?_) rfl (v_raw rfl)) rfl rfl rfl ?_
      refine o_callx ((append_at (hA.le (Mem.le_upd (Mem.le_refl M) hB1)) hn e2)) goes12 (ac ((by first | exact v_raw rfl | exact v_sptr rfl)) (ac (v_raw rfl) (ac (v_raw rfl) ac_nil))) rfl ?_
      rintro r2 M2 ⟨rfl, hB⟩
      refine o_q (q_as (v_raw rfl)) rfl rfl rfl ?_
      refine o_nil ?_
      refine s_ret ?_
      refine s_blk_ret ?_
      refine s_code_ret ?_
      refine s_end ?_
      exact ⟨rfl, hB.pre' hA (Mem.le_upd (Mem.le_refl M) hB1)⟩
    · have k2 := h2; try simp only [decide_eq_true_eq, decide_eq_false_iff_not, Bool.not_eq_true', Bool.not_eq_false', Bool.not_true, Bool.not_false, List.length_map, Decidable.not_not] at k2
      refine s_seq ?_
      refine s_region ?_
      refine o_q (q_eql rfl rfl) rfl rfl rfl ?_
      refine o_q (q_as (v_raw rfl)) rfl rfl rfl ?_
      refine o_nil ?_
      refine s_cond rfl (fun h3 => ?_) (fun h3 => ?_)
      · have k3 := h3; try simp only [decide_eq_true_eq, decide_eq_false_iff_not, Bool.not_eq_true', Bool.not_eq_false', Bool.not_true, Bool.not_false, List.length_map, Decidable.not_not] at k3
        have e2 : s.sync o.a = (c, z) := by
          rw [← e]; unfold DS.one; rw [if_neg k1, if_neg k2, if_pos k3]
        refine s_seq ?_
        refine s_region ?_
        refine o_q (q_mv ((by first | exact v_raw rfl | exact v_sptr rfl))) rfl rfl rfl ?_
        refine o_q (q_fr fo42_1 rfl) rfl rfl rfl ?_
        refine o_q (q_ldm ag9 sz9 rfl (by repeat first | exact Mem.upd_self _ _ _ | assumption | refine Mem.upd_ne (by assumption) ?_) rfl (v_raw rfl)) rfl rfl rfl ?_
        refine o_callx ((sync_at (hA.le (Mem.le_upd (Mem.le_refl M) hB1)) hn e2)) goes13 (ac ((by first | exact v_raw rfl | exact v_sptr rfl)) (ac (v_raw rfl) ac_nil)) rfl ?_
        rintro r2 M2 ⟨rfl, hB⟩
        refine o_q (q_as (v_raw rfl)) rfl rfl rfl ?_
        refine o_nil ?_
        refine s_ret ?_
        refine s_blk_ret ?_
        refine s_code_ret ?_
        refine s_end ?_
        exact ⟨rfl, hB.pre' hA (Mem.le_upd (Mem.le_refl M) hB1)⟩
      · have k3 := h3; try simp only [decide_eq_true_eq, decide_eq_false_iff_not, Bool.not_eq_true', Bool.not_eq_false', Bool.not_true, Bool.not_false, List.length_map, Decidable.not_not] at k3
        refine s_seq ?_
        refine s_region ?_
        refine o_q (q_eql rfl rfl) rfl rfl rfl ?_
        refine o_q (q_as (v_raw rfl)) rfl rfl rfl ?_
        refine o_nil ?_
        refine s_cond rfl (fun h4 => ?_) (fun h4 => ?_)
        · have k4 := h4; try simp only [decide_eq_true_eq, decide_eq_false_iff_not, Bool.not_eq_true', Bool.not_eq_false', Bool.not_true, Bool.not_false, List.length_map, Decidable.not_not] at k4
          have e2 : s.rename o.a o.b = (c, z) := by
            rw [← e]; unfold DS.one; rw [if_neg k1, if_neg k2, if_neg k3, if_pos k4]
          refine s_seq ?_
          refine s_region ?_
          refine o_q (q_mv ((by first | exact v_raw rfl | exact v_sptr rfl))) rfl rfl rfl ?_
          refine o_q (q_fr fo42_1 rfl) rfl rfl rfl ?_
          refine o_q (q_ldm ag9 sz9 rfl (by repeat first | exact Mem.upd_self _ _ _ | assumption | refine Mem.upd_ne (by assumption) ?_) rfl (v_raw rfl)) rfl rfl rfl ?_
          refine o_q (q_fr fo42_2 rfl) rfl rfl rfl ?_
          refine o_q (q_ldm ag9 sz9 rfl (by repeat first | exact Mem.upd_self _ _ _ | assumption | refine Mem.upd_ne (by assumption) ?_) rfl (v_raw rfl)) rfl rfl rfl ?_
          refine o_callx ((rename_at (hA.le (Mem.le_upd (Mem.le_refl M) hB1)) hn e2)) goes19 (ac ((by first | exact v_raw rfl | exact v_sptr rfl)) (ac (v_raw rfl) (ac (v_raw rfl) ac_nil))) rfl ?_
          rintro r2 M2 ⟨rfl, hB⟩
          refine o_q (q_as (v_raw rfl)) rfl rfl rfl ?_
          refine o_nil ?_
          refine s_ret ?_
          refine s_blk_ret ?_
          refine s_code_ret ?_
          refine s_end ?_
          exact ⟨rfl, hB.pre' hA (Mem.le_upd (Mem.le_refl M) hB1)⟩
        · have k4 := h4; try simp only [decide_eq_true_eq, decide_eq_false_iff_not, Bool.not_eq_true', Bool.not_eq_false', Bool.not_true, Bool.not_false, List.length_map, Decidable.not_not] at k4
          refine s_seq ?_
          refine s_region ?_
          refine o_q (q_eql rfl rfl) rfl rfl rfl ?_
          refine o_q (q_as (v_raw rfl)) rfl rfl rfl ?_
          refine o_nil ?_
          refine s_cond rfl (fun h5 => ?_) (fun h5 => ?_)
          · have k5 := h5; try simp only [decide_eq_true_eq, decide_eq_false_iff_not, Bool.not_eq_true', Bool.not_eq_false', Bool.not_true, Bool.not_false, List.length_map, Decidable.not_not] at k5
            have e2 : s.trunc o.a o.n = (c, z) := by
              rw [← e]; unfold DS.one; rw [if_neg k1, if_neg k2, if_neg k3, if_neg k4, if_pos k5]
            refine s_seq ?_
            refine s_region ?_
            refine o_q (q_mv ((by first | exact v_raw rfl | exact v_sptr rfl))) rfl rfl rfl ?_
            refine o_q (q_fr fo42_1 rfl) rfl rfl rfl ?_
            refine o_q (q_ldm ag9 sz9 rfl (by repeat first | exact Mem.upd_self _ _ _ | assumption | refine Mem.upd_ne (by assumption) ?_) rfl (v_raw rfl)) rfl rfl rfl ?_
            refine o_q (q_fr fo42_3 rfl) rfl rfl rfl ?_
            refine o_q (q_ldm ag3 sz3 rfl (by repeat first | exact Mem.upd_self _ _ _ | assumption | refine Mem.upd_ne (by assumption) ?_) rfl (v_raw rfl)) rfl rfl rfl ?_
            refine o_callx ((trunc_at (hA.le (Mem.le_upd (Mem.le_refl M) hB1)) hn e2)) goes26 (ac ((by first | exact v_raw rfl | exact v_sptr rfl)) (ac (v_raw rfl) (ac (v_raw rfl) ac_nil))) rfl ?_
            rintro r2 M2 ⟨rfl, hB⟩
            refine o_q (q_as (v_raw rfl)) rfl rfl rfl ?_
            refine o_nil ?_
            refine s_ret ?_
            refine s_blk_ret ?_
            refine s_code_ret ?_
            refine s_end ?_
            exact ⟨rfl, hB.pre' hA (Mem.le_upd (Mem.le_refl M) hB1)⟩
          · have k5 := h5; try simp only [decide_eq_true_eq, decide_eq_false_iff_not, Bool.not_eq_true', Bool.not_eq_false', Bool.not_true, Bool.not_false, List.length_map, Decidable.not_not] at k5
            refine s_seq ?_
            refine s_region ?_
            refine o_q (q_eql rfl rfl) rfl rfl rfl ?_
            refine o_q (q_as (v_raw rfl)) rfl rfl rfl ?_
            refine o_nil ?_
            refine s_cond rfl (fun h6 => ?_) (fun h6 => ?_)
            · have k6 := h6; try simp only [decide_eq_true_eq, decide_eq_false_iff_not, Bool.not_eq_true', Bool.not_eq_false', Bool.not_true, Bool.not_false, List.length_map, Decidable.not_not] at k6
              have e2 : s.remove o.a = (c, z) := by
                rw [← e]; unfold DS.one; rw [if_neg k1, if_neg k2, if_neg k3, if_neg k4, if_neg k5, if_pos k6]
              refine s_seq ?_
              refine s_region ?_
              refine o_q (q_mv ((by first | exact v_raw rfl | exact v_sptr rfl))) rfl rfl rfl ?_
              refine o_q (q_fr fo42_1 rfl) rfl rfl rfl ?_
              refine o_q (q_ldm ag9 sz9 rfl (by repeat first | exact Mem.upd_self _ _ _ | assumption | refine Mem.upd_ne (by assumption) ?_) rfl (v_raw rfl)) rfl rfl rfl ?_
              refine o_callx ((remove_at (hA.le (Mem.le_upd (Mem.le_refl M) hB1)) hn e2)) goes27 (ac ((by first | exact v_raw rfl | exact v_sptr rfl)) (ac (v_raw rfl) ac_nil)) rfl ?_
              rintro r2 M2 ⟨rfl, hB⟩
              refine o_q (q_as (v_raw rfl)) rfl rfl rfl ?_
              refine o_nil ?_
              refine s_ret ?_
              refine s_blk_ret ?_
              refine s_code_ret ?_
              refine s_end ?_
              exact ⟨rfl, hB.pre' hA (Mem.le_upd (Mem.le_refl M) hB1)⟩
            · have k6 := h6; try simp only [decide_eq_true_eq, decide_eq_false_iff_not, Bool.not_eq_true', Bool.not_eq_false', Bool.not_true, Bool.not_false, List.length_map, Decidable.not_not] at k6
              have e2 : s.dirsync = (c, z) := by
                rw [← e]; unfold DS.one; rw [if_neg k1, if_neg k2, if_neg k3, if_neg k4, if_neg k5, if_neg k6, ]
              refine s_skip ?_
              refine s_blk_normal ?_
              refine s_seq ?_
              refine s_region ?_
              refine o_q (q_mv ((by first | exact v_raw rfl | exact v_sptr rfl))) rfl rfl rfl ?_
              refine o_callx ((dirsync_at (hA.le (Mem.le_upd (Mem.le_refl M) hB1)) hn e2)) goes14 (ac ((by first | exact v_raw rfl | exact v_sptr rfl)) ac_nil) rfl ?_
              rintro r2 M2 ⟨rfl, hB⟩
              refine o_q (q_as (v_raw rfl)) rfl rfl rfl ?_
              refine o_nil ?_
              refine s_ret ?_
              refine s_end ?_
              exact ⟨rfl, hB.pre' hA (Mem.le_upd (Mem.le_refl M) hB1)⟩

def tk8 : Nat → Nat → Option Nat := fun _ _ => none
def pl8 : Nat → List PStep := fun _ => []
theorem cb8 : Try.f8.body.map (codeB Try.prog Try.f8.ntmps tk8 pl8) = some true := by kernel_rfl
theorem goes8 : goesB Try.prog 8 = true := by kernel_rfl
-- carillon/carillonlaw04.DiskRoom params ['int', '[]carillonlaw04.Deed'] results [['t', 4]] own [] names ['0:room', '1:deeds', '2:room', '3:deeds', '5:head', '6:d', '7:_', '8:i', '9:used', '10:e'] calls [9, 10, 18, 30, 32, 33] paths 4
set_option maxHeartbeats 4000000 in
set_option maxRecDepth 20000 in
theorem snd8 (room : Int) (deeds : List De) (own : Bool) (hrm : -2 ^ 63 ≤ room ∧ room < 2 ^ 63) (hdl : deeds.length < 2 ^ 60) (hde : ∀ o ∈ deeds, okDe o) (M : Mem) (hM : M = M0) : SoundCall Try.prog 8 [int room, .sl (deeds.map encDe) own] M fun r M' => r = bool true ∧ M0.le M' := by
  subst hM
  have hpk := pick_lt (c := room) (n := 2000) (by decide)
  obtain ⟨rm, hrme⟩ : ∃ rm, pick room 2000 = rm := ⟨_, rfl⟩
  rw [hrme] at hpk
  have hbig : BIG = 2 ^ 40 := rfl
  refine SoundCall.go tk8 pl8 mixed Try.func8 cb8 rfl (Nat.le_of_ble_eq_true rfl) ?_
  refine s_seq ?_
  refine s_region ?_
  refine o_q (q_as (v_raw rfl)) rfl rfl rfl ?_
  refine o_nil ?_
  refine s_seq ?_
  refine s_region ?_
  refine o_call (ex9) goes9 ac_nil rfl ?_
  refine o_q (q_as (v_raw rfl)) rfl rfl rfl ?_
  refine o_nil ?_
  refine s_seq ?_
  refine s_region ?_
  refine o_q (q_mv (v_raw rfl)) rfl rfl rfl ?_
  refine o_call ((show SoundCall Try.prog 18 [int room, int 2000] M0 fun r M' => r = int rm ∧ M' = M0 by rw [← hrme]; exact snd18 room 2000 _ (by decide) (by decide) hrm)) goes18 (ac (v_raw rfl) (ac (v_raw rfl) ac_nil)) rfl ?_
  refine o_q (q_as (v_raw rfl)) rfl rfl rfl ?_
  refine o_nil ?_
  refine s_seq ?_
  refine s_region ?_
  refine o_q (q_mv (v_raw rfl)) rfl rfl rfl ?_
  refine o_callx ((newOk M0 rm (by omega) (by omega) _ nW)) goes10 (ac (v_raw rfl) ac_nil) rfl ?_
  rintro r0 M1 ⟨d, O0, W0, rfl, hA0, -⟩
  refine o_q (q_mv (v_tup rfl)) rfl rfl rfl ?_
  refine o_q (q_ext rfl rfl ((by first | exact v_raw rfl | exact v_sptr rfl))) rfl rfl rfl ?_
  refine o_q (q_ext rfl rfl (v_raw rfl)) rfl rfl rfl ?_
  refine o_q (q_as ((by first | exact v_raw rfl | exact v_sptr rfl))) rfl rfl rfl ?_
  refine o_q (q_as (v_raw rfl)) rfl rfl rfl ?_
  refine o_nil ?_
  refine s_seq ?_
  refine s_seq ?_
  refine s_region ?_
  refine o_q (q_mv ((by first | exact v_raw rfl | exact v_sptr rfl))) rfl rfl rfl ?_
  refine o_q (q_peql und24 rfl rfl) rfl rfl rfl ?_
  refine o_nil ?_
  refine s_else rfl rfl ?_
  refine s_skip ?_
  refine s_seq ?_
  refine s_seq ?_
  refine s_region ?_
  refine o_q (q_as (v_raw rfl)) rfl rfl rfl ?_
  refine o_nil ?_
  refine s_block ?_
  refine s_loop (fun m S => ∃ T Mc s O W, ∃ i : Nat, S = ⟨setT (setT (setT (setT (setT T 0 (int rm)) 1 (.sl (deeds.map encDe) own)) 5 (bool true)) 6 (ptr d)) 8 (int (i : Nat)), Mc⟩ ∧ DiskAt Mc d i s O W ∧ s.room = rm ∧ (s.used : Int) ≤ rm ∧ i ≤ 60 ∧ m = 60 - i) 60 ?_ ?_
  · exact ⟨_, _, DS.new rm, O0, W0, 0, St.mkT (kp (kp (kp (kp (kp rfl rfl) rfl) rfl) rfl) rfl).symm, hA0, rfl, (show ((0 : Nat) : Int) ≤ rm by omega), by decide, rfl⟩
  rintro m S ⟨T, Mc, s, O, W, i, rfl, hA, hr, hu, hi, rfl⟩
  refine s_seq ?_
  refine s_seq ?_
  refine s_region ?_
  refine o_q (q_mv (v_raw rfl)) rfl rfl rfl ?_
  refine o_q (q_mv (v_sl rfl)) rfl rfl rfl ?_
  refine o_q (q_len rfl und38 rfl) rfl rfl rfl ?_
  refine o_q (q_lss rfl rfl) rfl rfl rfl ?_
  refine o_q (q_mv (v_raw rfl)) rfl rfl rfl ?_
  refine o_cases (want := true) (j := 4) rfl rfl (fun h1 => ?_) (fun h1 => ?_)
  · have k1 := h1; try simp only [decide_eq_true_eq, decide_eq_false_iff_not, Bool.not_eq_true', Bool.not_eq_false', Bool.not_true, Bool.not_false, List.length_map, Decidable.not_not] at k1
    refine o_yes rfl rfl rfl h1 ?_
    refine o_q (q_mv (v_raw rfl)) rfl rfl rfl ?_
    refine o_yes rfl rfl rfl h1 ?_
    refine o_q (q_lss rfl rfl) rfl rfl rfl ?_
    refine o_q (q_pick_c (t := true) rfl h1 (v_raw rfl)) rfl rfl rfl ?_
    refine o_nil ?_
    refine s_cond rfl (fun h2 => ?_) (fun h2 => ?_)
    · have k2 := h2; try simp only [decide_eq_true_eq, decide_eq_false_iff_not, Bool.not_eq_true', Bool.not_eq_false', Bool.not_true, Bool.not_false, List.length_map, Decidable.not_not] at k2
      have hil : i < deeds.length := by omega
      have hi60 : i < 60 := by omega
      obtain ⟨c, z, e⟩ : ∃ k z, s.one deeds[i] = (k, z) := ⟨_, _, rfl⟩
      obtain ⟨hu1, hu2, hu3⟩ := room_step hA.gd (plan_right s deeds[i]) (by omega) ((one_go s deeds[i]).symm.trans e)
      refine s_skip ?_
      refine s_seq ?_
      refine s_block ?_
      refine s_seq ?_
      refine s_region ?_
      refine o_q (q_mv ((by first | exact v_raw rfl | exact v_sptr rfl))) rfl rfl rfl ?_
      refine o_call ((used_at hA)) goes32 (ac ((by first | exact v_raw rfl | exact v_sptr rfl)) ac_nil) rfl ?_
      refine o_q (q_as (v_raw rfl)) rfl rfl rfl ?_
      refine o_nil ?_
      refine s_seq ?_
      refine s_region ?_
      refine o_q (q_mv ((by first | exact v_raw rfl | exact v_sptr rfl))) rfl rfl rfl ?_
      refine o_q (q_mv (v_sl rfl)) rfl rfl rfl ?_
      refine o_q (q_mv (v_raw rfl)) rfl rfl rfl ?_
      refine o_q (q_idx und38 sz42 rfl rfl (by omega) (gm i (by first | omega | simp)) rfl) rfl rfl rfl ?_
      refine o_q (q_lde ag42 sz42 rfl (gm i (by first | omega | simp)) rfl rfl) rfl rfl rfl ?_
      refine o_callx ((snd30 _ d i s O W hA (by omega) deeds[i] (hde _ (List.getElem_mem hil)) c z e)) goes30 (ac ((by first | exact v_raw rfl | exact v_sptr rfl)) (ac (v_agg rfl) ac_nil)) rfl ?_
      rintro r2 M2 ⟨rfl, O2, W2, hA2, -⟩
      refine o_q (q_as (v_raw rfl)) rfl rfl rfl ?_
      refine o_nil ?_
      refine s_seq ?_
      refine s_region ?_
      refine o_q (q_mv ((by first | exact v_raw rfl | exact v_sptr rfl))) rfl rfl rfl ?_
      refine o_call ((used_at hA2)) goes32 (ac ((by first | exact v_raw rfl | exact v_sptr rfl)) ac_nil) rfl ?_
      refine o_q (q_mv (v_raw rfl)) rfl rfl rfl ?_
      refine o_q (q_gtr rfl rfl) rfl rfl rfl ?_
      refine o_q (q_mv (v_raw rfl)) rfl rfl rfl ?_
      refine o_cases (want := false) (j := 4) rfl rfl (fun h3 => ?_) (fun h3 => ?_)
      · have k3 := h3; try simp only [decide_eq_true_eq, decide_eq_false_iff_not, Bool.not_eq_true', Bool.not_eq_false', Bool.not_true, Bool.not_false, List.length_map, Decidable.not_not] at k3
        refine o_yes rfl rfl rfl h3 ?_
        refine o_q (q_mv ((by first | exact v_raw rfl | exact v_sptr rfl))) rfl rfl rfl ?_
        refine o_yes rfl rfl rfl h3 ?_
        refine o_call ((used_at hA2)) goes32 (ac ((by first | exact v_raw rfl | exact v_sptr rfl)) ac_nil) rfl ?_
        refine o_yes rfl rfl rfl h3 ?_
        refine o_q (q_lss rfl rfl) rfl rfl rfl ?_
        refine o_q (q_pick_c (t := false) rfl h3 (v_raw rfl)) rfl rfl rfl ?_
        refine o_q (q_mv (v_raw rfl)) rfl rfl rfl ?_
        refine o_cases (want := false) (j := 9) rfl rfl (fun h4 => ?_) (fun h4 => ?_)
        · have k4 := h4; try simp only [decide_eq_true_eq, decide_eq_false_iff_not, Bool.not_eq_true', Bool.not_eq_false', Bool.not_true, Bool.not_false, List.length_map, Decidable.not_not] at k4
          refine o_yes rfl rfl rfl h4 ?_
          refine o_q (q_mv ((by first | exact v_raw rfl | exact v_sptr rfl))) rfl rfl rfl ?_
          refine o_yes rfl rfl rfl h4 ?_
          refine o_call ((free_at hA2)) goes33 (ac ((by first | exact v_raw rfl | exact v_sptr rfl)) ac_nil) rfl ?_
          refine o_yes rfl rfl rfl h4 ?_
          refine o_q (q_mv (v_raw rfl)) rfl rfl rfl ?_
          refine o_yes rfl rfl rfl h4 ?_
          refine o_q (q_mv ((by first | exact v_raw rfl | exact v_sptr rfl))) rfl rfl rfl ?_
          refine o_yes rfl rfl rfl h4 ?_
          refine o_call ((used_at hA2)) goes32 (ac ((by first | exact v_raw rfl | exact v_sptr rfl)) ac_nil) rfl ?_
          refine o_yes rfl rfl rfl h4 ?_
          refine o_q (q_sub rfl rfl (wrap64 (by omega) (by omega))) rfl rfl rfl ?_
          refine o_yes rfl rfl rfl h4 ?_
          refine o_q (q_neq rfl rfl) rfl rfl rfl ?_
          refine o_q (q_pick_c (t := false) rfl h4 (v_raw rfl)) rfl rfl rfl ?_
          refine o_q (q_mv (v_raw rfl)) rfl rfl rfl ?_
          refine o_cases (want := false) (j := 18) rfl rfl (fun h5 => ?_) (fun h5 => ?_)
          · have k5 := h5; try simp only [decide_eq_true_eq, decide_eq_false_iff_not, Bool.not_eq_true', Bool.not_eq_false', Bool.not_true, Bool.not_false, List.length_map, Decidable.not_not] at k5
            refine o_yes rfl rfl rfl h5 ?_
            refine o_q (q_mv (v_raw rfl)) rfl rfl rfl ?_
            refine o_yes rfl rfl rfl h5 ?_
            refine o_q (q_neq rfl rfl) rfl rfl rfl ?_
            refine o_yes rfl rfl rfl h5 ?_
            refine o_q (q_mv (v_raw rfl)) rfl rfl rfl ?_
            refine o_cases (want := true) (j := 21) rfl rfl (fun h6 => ?_) (fun h6 => ?_)
            · have k6 := h6; try simp only [decide_eq_true_eq, decide_eq_false_iff_not, Bool.not_eq_true', Bool.not_eq_false', Bool.not_true, Bool.not_false, List.length_map, Decidable.not_not] at k6
              refine o_yes rfl rfl rfl h6 ?_
              refine o_q (q_mv ((by first | exact v_raw rfl | exact v_sptr rfl))) rfl rfl rfl ?_
              refine o_yes rfl rfl rfl h6 ?_
              refine o_call ((used_at hA2)) goes32 (ac ((by first | exact v_raw rfl | exact v_sptr rfl)) ac_nil) rfl ?_
              refine o_yes rfl rfl rfl h6 ?_
              refine o_q (q_mv (v_raw rfl)) rfl rfl rfl ?_
              refine o_yes rfl rfl rfl h6 ?_
              refine o_q (q_neq rfl rfl) rfl rfl rfl ?_
              refine o_yes rfl rfl rfl h5 ?_
              refine o_q (q_pick_c (t := true) rfl h6 (v_raw rfl)) rfl rfl rfl ?_
              refine o_q (q_pick_c (t := false) rfl h5 (v_raw rfl)) rfl rfl rfl ?_
              refine o_nil ?_
              refine s_cond rfl (fun h7 => ?_) (fun h7 => ?_)
              · have k7 := h7; try simp only [decide_eq_true_eq, decide_eq_false_iff_not, Bool.not_eq_true', Bool.not_eq_false', Bool.not_true, Bool.not_false, List.length_map, Decidable.not_not] at k7
                exact absurd (hu3 (by assumption)) (by omega)
              · have k7 := h7; try simp only [decide_eq_true_eq, decide_eq_false_iff_not, Bool.not_eq_true', Bool.not_eq_false', Bool.not_true, Bool.not_false, List.length_map, Decidable.not_not] at k7
                refine s_skip ?_
                refine s_blk_normal ?_
                refine s_region ?_
                refine o_q (q_mv (v_raw rfl)) rfl rfl rfl ?_
                refine o_q (q_add rfl rfl (wrap64 (by omega) (by omega))) rfl rfl rfl ?_
                refine o_q (q_as (v_raw rfl)) rfl rfl rfl ?_
                refine o_nil ?_
                refine s_inv ?_
                exact ⟨60 - (i + 1), by omega, _, M2, z, O2, W2, i + 1, St.mkT (kp (kp (kp (kp (kp rfl rfl) rfl) rfl) rfl) rfl).symm, hA2, hu2.trans hr, by omega, by omega, rfl⟩
            · have k6 := h6; try simp only [decide_eq_true_eq, decide_eq_false_iff_not, Bool.not_eq_true', Bool.not_eq_false', Bool.not_true, Bool.not_false, List.length_map, Decidable.not_not] at k6
              refine o_no rfl rfl rfl rfl h6 ?_
              refine o_no rfl rfl rfl rfl h6 ?_
              refine o_no rfl rfl rfl rfl h6 ?_
              refine o_no rfl rfl rfl rfl h6 ?_
              refine o_yes rfl rfl rfl h5 ?_
              refine o_q (q_pick_c (t := false) rfl h6 (v_raw rfl)) rfl rfl rfl ?_
              refine o_q (q_pick_c (t := false) rfl h5 (v_raw rfl)) rfl rfl rfl ?_
              refine o_nil ?_
              refine s_else rfl rfl ?_
              refine s_skip ?_
              refine s_blk_normal ?_
              refine s_region ?_
              refine o_q (q_mv (v_raw rfl)) rfl rfl rfl ?_
              refine o_q (q_add rfl rfl (wrap64 (by omega) (by omega))) rfl rfl rfl ?_
              refine o_q (q_as (v_raw rfl)) rfl rfl rfl ?_
              refine o_nil ?_
              refine s_inv ?_
              exact ⟨60 - (i + 1), by omega, _, M2, z, O2, W2, i + 1, St.mkT (kp (kp (kp (kp (kp rfl rfl) rfl) rfl) rfl) rfl).symm, hA2, hu2.trans hr, by omega, by omega, rfl⟩
          · have k5 := h5; try simp only [decide_eq_true_eq, decide_eq_false_iff_not, Bool.not_eq_true', Bool.not_eq_false', Bool.not_true, Bool.not_false, List.length_map, Decidable.not_not] at k5
            omega
        · have k4 := h4; try simp only [decide_eq_true_eq, decide_eq_false_iff_not, Bool.not_eq_true', Bool.not_eq_false', Bool.not_true, Bool.not_false, List.length_map, Decidable.not_not] at k4
          omega
      · have k3 := h3; try simp only [decide_eq_true_eq, decide_eq_false_iff_not, Bool.not_eq_true', Bool.not_eq_false', Bool.not_true, Bool.not_false, List.length_map, Decidable.not_not] at k3
        omega
    · have k2 := h2; try simp only [decide_eq_true_eq, decide_eq_false_iff_not, Bool.not_eq_true', Bool.not_eq_false', Bool.not_true, Bool.not_false, List.length_map, Decidable.not_not] at k2
      refine s_exit ?_
      refine s_code_exit ?_
      refine s_inv_exit ?_
      refine s_blk_here ?_
      refine s_seq ?_
      refine s_region ?_
      refine o_q (q_mv (v_raw rfl)) rfl rfl rfl ?_
      refine o_q (q_as (v_raw rfl)) rfl rfl rfl ?_
      refine o_nil ?_
      refine s_ret ?_
      refine s_end ?_
      exact ⟨rfl, le0 _⟩
  · have k1 := h1; try simp only [decide_eq_true_eq, decide_eq_false_iff_not, Bool.not_eq_true', Bool.not_eq_false', Bool.not_true, Bool.not_false, List.length_map, Decidable.not_not] at k1
    refine o_no rfl rfl rfl rfl h1 ?_
    refine o_no rfl rfl rfl rfl h1 ?_
    refine o_q (q_pick_c (t := false) rfl h1 (v_raw rfl)) rfl rfl rfl ?_
    refine o_nil ?_
    refine s_else rfl rfl ?_
    refine s_exit ?_
    refine s_code_exit ?_
    refine s_inv_exit ?_
    refine s_blk_here ?_
    refine s_seq ?_
    refine s_region ?_
    refine o_q (q_mv (v_raw rfl)) rfl rfl rfl ?_
    refine o_q (q_as (v_raw rfl)) rfl rfl rfl ?_
    refine o_nil ?_
    refine s_ret ?_
    refine s_end ?_
    exact ⟨rfl, le0 _⟩
end C04
