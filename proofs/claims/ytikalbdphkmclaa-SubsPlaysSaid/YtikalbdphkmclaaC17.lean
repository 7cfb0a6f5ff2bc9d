import Derived.Test.YtikalbdphkmclaaC16
/-! The laws of chapters 15 and 16, walked. -/
open Go Go.Proofs Go.Am
set_option linter.unusedVariables false
set_option linter.unusedSimpArgs false
set_option autoImplicit false
namespace C15
theorem fo55_0 : fo Try.prog 55 0 = some (0, 1) := by kernel_rfl
theorem fo55_1 : fo Try.prog 55 1 = some (1, 1) := by kernel_rfl
theorem sz55 : sizeT Try.prog 55 = some 2 := by kernel_rfl
theorem und42 : Try.prog.underlying 42 = some (.slice 3) := by kernel_rfl
theorem und53 : Try.prog.underlying 53 = some (.slice 55) := by kernel_rfl

def tk7 : Nat → Nat → Option Nat := fun _ _ => none
def pl7 : Nat → List PStep
  | 17 => [.q 0, .q 1, .q 2, .q 3, .q 4, .q 5, .s 6 [4, 3, 2, 1, 0], .q 7, .s 8 [5, 4, 3, 2], .q 9, .q 10, .q 11, .q 12, .s 13 [12, 11], .q 14]
  | _ => []
theorem cb7 : Try.f7.body.map (codeB Try.prog Try.f7.ntmps tk7 pl7) = some true := by kernel_rfl
theorem goes7 : goesB Try.prog 7 = true := by kernel_rfl
-- carillon/carillonlaw16.SubsCredit params ['int', 'int', '[]int'] results [['t', 6]] own [] names ['0:many', '1:first', '2:polls', '3:many', '4:first', '5:polls', '7:head', '8:t', '9:_', '10:n', '11:i', '12:s', '13:_', '14:told', '15:i', '16:l'] calls [12, 14, 21, 22, 23, 24] paths 5

theorem i64_list {l : List Int} (h : ∀ n ∈ l, (Lit.int .i64 n).wf = true) : ∀ n ∈ l, -2 ^ 63 ≤ n ∧ n < 2 ^ 63 := fun n hn => i64_of (h n hn)
set_option maxHeartbeats 4000000 in
set_option maxRecDepth 20000 in
theorem snd7 (many first : Int) (l : List Int) (o : Bool) (M : Mem) (hmany : -2 ^ 63 ≤ many ∧ many < 2 ^ 63) (hfirst : -2 ^ 63 ≤ first ∧ first < 2 ^ 63) (hl : l.length < 2 ^ 60) (hq : ∀ n ∈ l, -2 ^ 63 ≤ n ∧ n < 2 ^ 63) : SoundCall Try.prog 7 [int many, int first, .sl (l.map encI) o] M fun r M' => r = bool true ∧ M.le M' := by
  obtain ⟨n, hn, hn2⟩ := pickN many 301 (by decide)
  obtain ⟨f, hf, hf2⟩ := pickN first (n + 1) (by omega)
  refine SoundCall.go tk7 pl7 mixed Try.func7 cb7 rfl (Nat.le_of_ble_eq_true rfl) ?_
  refine s_seq ?_
  refine s_region ?_
  refine o_q (q_as (v_raw rfl)) rfl rfl rfl ?_
  refine o_nil ?_
  refine s_seq ?_
  refine s_region ?_
  refine o_callx (snd21 _) goes21 ac_nil rfl ?_
  rintro r M0 ⟨rfl, hle⟩
  refine o_q (q_as (v_raw rfl)) rfl rfl rfl ?_
  refine o_nil ?_
  refine s_seq ?_
  refine s_region ?_
  refine o_callx (newT (bs 116) _ (by kernel_rfl)) goes12 (ac (v_raw rfl) ac_nil) rfl ?_
  rintro r M' ⟨t, w, ht0, hw0, htw, rfl, rfl⟩
  have htw' := htw.symm
  have ht0' := Mem.none_of_le hle ht0
  have hw0' := Mem.none_of_le hle hw0
  refine o_q (q_mv (v_tup rfl)) rfl rfl rfl ?_
  refine o_q (q_ext rfl rfl ((by first | exact v_raw rfl | exact v_sptr rfl))) rfl rfl rfl ?_
  refine o_q (q_ext rfl rfl (v_raw rfl)) rfl rfl rfl ?_
  refine o_q (q_as ((by first | exact v_raw rfl | exact v_sptr rfl))) rfl rfl rfl ?_
  refine o_q (q_as (v_raw rfl)) rfl rfl rfl ?_
  refine o_nil ?_
  refine s_seq ?_
  refine s_seq ?_
  refine s_region ?_
  refine o_q (q_mv ((by first | exact v_raw rfl | exact v_sptr rfl))) rfl rfl rfl ?_
  refine o_q (q_peql und24 rfl rfl) rfl rfl rfl ?_
  refine o_nil ?_
  refine s_else rfl rfl ?_
  refine s_skip ?_
  refine s_seq ?_
  refine s_region ?_
  refine o_q (q_mv (v_raw rfl)) rfl rfl rfl ?_
  refine o_call ((pickE _ hn (by decide) (by decide) hmany)) goes22 (ac (v_raw rfl) (ac (v_raw rfl) ac_nil)) rfl ?_
  refine o_q (q_as (v_raw rfl)) rfl rfl rfl ?_
  refine o_nil ?_
  refine s_seq ?_
  refine s_seq ?_
  refine s_region ?_
  refine o_q (q_as (v_raw rfl)) rfl rfl rfl ?_
  refine o_nil ?_
  refine s_block ?_
  refine s_loop (fun m S => ∃ T, ∃ M' : Mem, ∃ i : Nat, S = ⟨setT (setT (setT (setT (setT (setT T 8 (ptr t)) 11 (int (i : Nat))) 1 (int first)) 2 (.sl (l.map encI) o)) 7 (bool true)) 10 (int (n : Nat)), M'⟩ ∧ M.le M' ∧ M' t = some (.cells (tpC w (topN i))) ∧ M' w = some (tpK (topN i)) ∧ i ≤ n ∧ m = n - i) n ?_ ?_
  · exact ⟨_, _, 0, St.mkT (kp (kp (kp (kp (kp (kp rfl rfl) rfl) rfl) rfl) rfl) rfl).symm, (by repeat first | exact hle | exact Mem.le_refl M | assumption | exact Mem.none_of_le hle (by assumption) | refine Mem.le_upd ?_ ?_), (by repeat first | exact Mem.upd_self _ _ _ | assumption | refine Mem.upd_ne (by assumption) ?_), (by repeat first | exact Mem.upd_self _ _ _ | assumption | refine Mem.upd_ne (by assumption) ?_), by omega, rfl⟩
  rintro m S ⟨T, M', i, rfl, hle, ht, hw, hi, rfl⟩
  refine s_seq ?_
  refine s_seq ?_
  refine s_region ?_
  refine o_q (q_mv (v_raw rfl)) rfl rfl rfl ?_
  refine o_q (q_mv (v_raw rfl)) rfl rfl rfl ?_
  refine o_q (q_lss rfl rfl) rfl rfl rfl ?_
  refine o_nil ?_
  refine s_cond rfl (fun h1 => ?_) (fun h1 => ?_)
  · have k1 := h1; try simp only [decide_eq_true_eq, decide_eq_false_iff_not, Bool.not_eq_true', Bool.not_eq_false', Bool.not_true, Bool.not_false, List.length_map, Decidable.not_not] at k1
    refine s_skip ?_
    refine s_seq ?_
    refine s_block ?_
    refine s_region ?_
    refine o_q (q_mv ((by first | exact v_raw rfl | exact v_sptr rfl))) rfl rfl rfl ?_
    refine o_q (q_mv (v_raw rfl)) rfl rfl rfl ?_
    refine o_callx ((pubT t w i _ (by omega) (by repeat first | exact Mem.upd_self _ _ _ | assumption | refine Mem.upd_ne (by assumption) ?_) (by repeat first | exact Mem.upd_self _ _ _ | assumption | refine Mem.upd_ne (by assumption) ?_) htw)) goes14 (ac ((by first | exact v_raw rfl | exact v_sptr rfl)) (ac (v_raw rfl) (ac (v_raw rfl) (ac (v_raw rfl) (ac (v_raw rfl) ac_nil))))) rfl ?_
    rintro r M' ⟨rfl, rfl⟩
    refine o_nil ?_
    refine s_blk_normal ?_
    refine s_region ?_
    refine o_q (q_mv (v_raw rfl)) rfl rfl rfl ?_
    refine o_q (q_add rfl rfl (wrap64 (by omega) (by omega))) rfl rfl rfl ?_
    refine o_q (q_as (v_raw rfl)) rfl rfl rfl ?_
    refine o_nil ?_
    refine s_inv ?_
    exact ⟨n - (i + 1), by omega, _, _, i + 1, St.mkT (kp (kp (kp (kp (kp (kp rfl rfl) rfl) rfl) rfl) rfl) rfl).symm, (by repeat first | exact hle | exact Mem.le_refl M | assumption | exact Mem.none_of_le hle (by assumption) | refine Mem.le_upd ?_ ?_), (by repeat first | exact Mem.upd_self _ _ _ | assumption | refine Mem.upd_ne (by assumption) ?_), (by repeat first | exact Mem.upd_self _ _ _ | assumption | refine Mem.upd_ne (by assumption) ?_), by omega, rfl⟩
  · have k1 := h1; try simp only [decide_eq_true_eq, decide_eq_false_iff_not, Bool.not_eq_true', Bool.not_eq_false', Bool.not_true, Bool.not_false, List.length_map, Decidable.not_not] at k1
    obtain rfl : n = i := by omega
    refine s_exit ?_
    refine s_code_exit ?_
    refine s_inv_exit ?_
    refine s_blk_here ?_
    refine s_seq ?_
    refine s_region ?_
    refine o_q (q_mv (v_raw rfl)) rfl rfl rfl ?_
    refine o_q (q_mv (v_raw rfl)) rfl rfl rfl ?_
    refine o_q (q_add rfl rfl (wrap64 (by omega) (by omega))) rfl rfl rfl ?_
    refine o_call ((pickE _ hf (by omega) (by omega) hfirst)) goes22 (ac (v_raw rfl) (ac (v_raw rfl) ac_nil)) rfl ?_
    refine o_q (q_as (v_raw rfl)) rfl rfl rfl ?_
    refine o_nil ?_
    refine s_seq ?_
    refine s_region ?_
    refine o_q (q_mv ((by first | exact v_raw rfl | exact v_sptr rfl))) rfl rfl rfl ?_
    refine o_q (q_mv (v_raw rfl)) rfl rfl rfl ?_
    refine o_call ((newE (x := topN n) t w _ (new_top (by omega)) (by repeat first | exact Mem.upd_self _ _ _ | assumption | refine Mem.upd_ne (by assumption) ?_) (by repeat first | exact Mem.upd_self _ _ _ | assumption | refine Mem.upd_ne (by assumption) ?_) htw)) goes23 (ac (v_raw rfl) (ac ((by first | exact v_raw rfl | exact v_sptr rfl)) (ac (v_raw rfl) ac_nil))) rfl ?_
    refine o_q (q_mv (v_tup rfl)) rfl rfl rfl ?_
    refine o_q (q_ext rfl rfl (v_agg rfl)) rfl rfl rfl ?_
    refine o_q (q_ext rfl rfl (v_raw rfl)) rfl rfl rfl ?_
    refine o_alloc zc45 (fun B1 hB1 => ?_)
    have n1 : t ≠ B1 := Mem.fresh_ne hB1 ht
    have n1' := n1.symm
    have n2 : w ≠ B1 := Mem.fresh_ne hB1 hw
    have n2' := n2.symm
    have m1 : M B1 = none := by have h := hB1; repeat (first | exact h | exact Mem.none_of_le hle h | replace h := (Mem.upd_none h).2)
    refine o_storew rfl (by repeat first | exact Mem.upd_self _ _ _ | assumption | refine Mem.upd_ne (by assumption) ?_) (by first | exact e_agg rfl | rfl) rfl sz45 rfl rfl rfl rfl ?_
    refine o_q (q_as (v_raw rfl)) rfl rfl rfl ?_
    refine o_nil ?_
    refine s_seq ?_
    refine s_region ?_
    refine o_q (q_as (v_raw rfl)) rfl rfl rfl ?_
    refine o_nil ?_
    refine s_seq ?_
    refine s_seq ?_
    refine s_region ?_
    refine o_q (q_as (v_raw rfl)) rfl rfl rfl ?_
    refine o_nil ?_
    refine s_block ?_
    refine s_loop (fun m S => ∃ T, ∃ M' : Mem, ∃ a i : Nat, S = ⟨setT (setT (setT (setT (setT (setT (setT (setT T 1 (int (f : Nat))) 2 (.sl (l.map encI) o)) 7 (bool true)) 8 (ptr t)) 10 (int (n : Nat))) 12 (ptr B1)) 14 (int ((a : Int) - f))) 15 (int (i : Nat)), M'⟩ ∧ M.le M' ∧ M' t = some (.cells (tpC w (topN n))) ∧ M' w = some (tpK (topN n)) ∧ M' B1 = some (.cells (sbC (sb f a))) ∧ f ≤ a ∧ a ≤ n ∧ a ≤ f + 100 ∧ i ≤ l.length ∧ m = l.length - i) l.length ?_ ?_
    · exact ⟨_, _, f, 0, St.mkT (kp (kp (kp (kp (kp (kp (kp (kp rfl rfl) rfl) rfl) rfl) rfl) rfl) (show int 0 = int ((f : Int) - f) from congrArg int (by omega))) rfl).symm, (by repeat first | exact hle | exact Mem.le_refl M | assumption | exact Mem.none_of_le hle (by assumption) | refine Mem.le_upd ?_ ?_), (by repeat first | exact Mem.upd_self _ _ _ | assumption | refine Mem.upd_ne (by assumption) ?_), (by repeat first | exact Mem.upd_self _ _ _ | assumption | refine Mem.upd_ne (by assumption) ?_), (by repeat first | exact Mem.upd_self _ _ _ | assumption | refine Mem.upd_ne (by assumption) ?_), by omega, by omega, by omega, by omega, rfl⟩
    rintro m S ⟨T, M', a, i, rfl, hle, ht, hw, hB, hfa, han, haf, hi, rfl⟩
    refine s_seq ?_
    refine s_seq ?_
    refine s_region ?_
    refine o_q (q_mv (v_raw rfl)) rfl rfl rfl ?_
    refine o_q (q_mv (v_sl rfl)) rfl rfl rfl ?_
    refine o_q (q_len rfl und42 rfl) rfl rfl rfl ?_
    refine o_q (q_lss rfl rfl) rfl rfl rfl ?_
    refine o_q (q_mv (v_raw rfl)) rfl rfl rfl ?_
    refine o_cases (want := true) (j := 4) rfl rfl (fun h2 => ?_) (fun h2 => ?_)
    · have k2 := h2; try simp only [decide_eq_true_eq, decide_eq_false_iff_not, Bool.not_eq_true', Bool.not_eq_false', Bool.not_true, Bool.not_false, List.length_map, Decidable.not_not] at k2
      refine o_yes rfl rfl rfl h2 ?_
      refine o_q (q_mv (v_raw rfl)) rfl rfl rfl ?_
      refine o_yes rfl rfl rfl h2 ?_
      refine o_q (q_lss rfl rfl) rfl rfl rfl ?_
      refine o_q (q_pick_c (t := true) rfl h2 (v_raw rfl)) rfl rfl rfl ?_
      refine o_nil ?_
      refine s_cond rfl (fun h3 => ?_) (fun h3 => ?_)
      · have k3 := h3; try simp only [decide_eq_true_eq, decide_eq_false_iff_not, Bool.not_eq_true', Bool.not_eq_false', Bool.not_true, Bool.not_false, List.length_map, Decidable.not_not] at k3
        obtain ⟨e, he, he2⟩ := pickN l[i] 50 (by decide)
        obtain ⟨L, hL, hp⟩ := poll_sb (n := n) (c := f) (a := a) (1 + e) (by omega) (by omega) (by omega) (by omega)
        rw [Int.toNat_natCast] at hp
        have hll : (List.map enc ((List.range' a L).map recP)).length = L := by simp
        have hll2 : (List.range' a L).length = L := by simp
        have hqi := hq l[i] (List.getElem_mem _)
        refine s_skip ?_
        refine s_seq ?_
        refine s_block ?_
        refine s_seq ?_
        refine s_region ?_
        refine o_q (q_as (v_sl rfl)) rfl rfl rfl ?_
        refine o_nil ?_
        refine s_seq ?_
        refine s_draw rfl ?_
        refine d_q rfl (q_ldmw ag45 sz45 rfl (by repeat first | exact Mem.upd_self _ _ _ | assumption | refine Mem.upd_ne (by assumption) ?_) rfl rfl) rfl rfl rfl ?_
        refine d_q rfl (q_mv ((by first | exact v_raw rfl | exact v_sptr rfl))) rfl rfl rfl ?_
        refine d_q rfl (q_mv (v_sl rfl)) rfl rfl rfl ?_
        refine d_q rfl (q_mv (v_raw rfl)) rfl rfl rfl ?_
        refine d_q rfl (q_idx und42 sz3 rfl rfl (by omega) (gm i (by first | omega | simp)) rfl) rfl rfl rfl ?_
        refine d_q rfl (q_ld ag3 sz3 rfl (gm i (by first | omega | simp)) rfl (v_raw rfl)) rfl rfl rfl ?_
        refine d_s rfl ?_
        refine o_call ((pickE _ he (by decide) (by decide) hqi)) goes22 (ac (v_raw rfl) (ac (v_raw rfl) ac_nil)) rfl ?_
        refine o_nil ⟨(by simp [Mem.upd, *]), ?_⟩
        refine d_q rfl (q_add rfl rfl (wrap64 (by omega) (by omega))) rfl rfl rfl ?_
        refine d_s rfl ?_
        refine o_call ((pollT t w _ (by omega) hp (by repeat first | exact Mem.upd_self _ _ _ | assumption | refine Mem.upd_ne (by assumption) ?_) (by repeat first | exact Mem.upd_self _ _ _ | assumption | refine Mem.upd_ne (by assumption) ?_) htw)) goes24 (ac (v_agg rfl) (ac ((by first | exact v_raw rfl | exact v_sptr rfl)) (ac (v_raw rfl) ac_nil))) rfl ?_
        refine o_nil ⟨(by simp [Mem.upd, *]), ?_⟩
        refine d_q rfl (q_mv (v_tup rfl)) rfl rfl rfl ?_
        refine d_q rfl (q_ext rfl rfl (v_agg rfl)) rfl rfl rfl ?_
        refine d_q rfl (q_ext rfl rfl (v_sl rfl)) rfl rfl rfl ?_
        refine d_q rfl (q_ext rfl rfl (v_raw rfl)) rfl rfl rfl ?_
        refine d_s rfl ?_
        refine o_storew rfl (by repeat first | exact Mem.upd_self _ _ _ | assumption | refine Mem.upd_ne (by assumption) ?_) (by first | exact e_agg rfl | rfl) rfl sz45 rfl rfl rfl rfl ?_
        refine o_nil ⟨(by simp [Mem.upd, *]), ?_⟩
        refine d_q rfl (q_as (v_sl rfl)) rfl rfl rfl ?_
        refine d_nil ?_
        refine s_seq ?_
        refine s_region ?_
        refine o_q (q_mv (v_raw rfl)) rfl rfl rfl ?_
        refine o_q (q_mv (v_sl rfl)) rfl rfl rfl ?_
        refine o_q (q_len rfl und28 rfl) rfl rfl rfl ?_
        refine o_q (q_add rfl rfl (wrap64 (by omega) (by omega))) rfl rfl rfl ?_
        refine o_q (q_as (v_raw rfl)) rfl rfl rfl ?_
        refine o_nil ?_
        refine s_seq ?_
        refine s_region ?_
        refine o_q (q_mv (v_raw rfl)) rfl rfl rfl ?_
        refine o_q (q_gtr rfl rfl) rfl rfl rfl ?_
        refine o_q (q_mv (v_raw rfl)) rfl rfl rfl ?_
        refine o_cases (want := false) (j := 2) rfl rfl (fun h4 => ?_) (fun h4 => ?_)
        · have k4 := h4; try simp only [decide_eq_true_eq, decide_eq_false_iff_not, Bool.not_eq_true', Bool.not_eq_false', Bool.not_true, Bool.not_false, List.length_map, Decidable.not_not] at k4
          refine o_yes rfl rfl rfl h4 ?_
          refine o_q (q_fr fo45_2 rfl) rfl rfl rfl ?_
          refine o_yes rfl rfl rfl h4 ?_
          refine o_q (q_ldm ag3 sz3 rfl (by repeat first | exact Mem.upd_self _ _ _ | assumption | refine Mem.upd_ne (by assumption) ?_) rfl (v_raw rfl)) rfl rfl rfl ?_
          refine o_yes rfl rfl rfl h4 ?_
          refine o_q (q_mv (v_raw rfl)) rfl rfl rfl ?_
          refine o_yes rfl rfl rfl h4 ?_
          refine o_q (q_neq rfl rfl) rfl rfl rfl ?_
          refine o_q (q_pick_c (t := false) rfl h4 (v_raw rfl)) rfl rfl rfl ?_
          refine o_q (q_mv (v_raw rfl)) rfl rfl rfl ?_
          refine o_cases (want := false) (j := 8) rfl rfl (fun h5 => ?_) (fun h5 => ?_)
          · have k5 := h5; try simp only [decide_eq_true_eq, decide_eq_false_iff_not, Bool.not_eq_true', Bool.not_eq_false', Bool.not_true, Bool.not_false, List.length_map, Decidable.not_not] at k5
            refine o_yes rfl rfl rfl h5 ?_
            refine o_q (q_mv (v_sl rfl)) rfl rfl rfl ?_
            refine o_yes rfl rfl rfl h5 ?_
            refine o_q (q_len rfl und28 rfl) rfl rfl rfl ?_
            refine o_yes rfl rfl rfl h5 ?_
            refine o_q (q_eql rfl rfl) rfl rfl rfl ?_
            refine o_yes rfl rfl rfl h5 ?_
            refine o_q (q_mv (v_raw rfl)) rfl rfl rfl ?_
            refine o_cases (want := true) (j := 12) rfl rfl (fun h6 => ?_) (fun h6 => ?_)
            · have k6 := h6; try simp only [decide_eq_true_eq, decide_eq_false_iff_not, Bool.not_eq_true', Bool.not_eq_false', Bool.not_true, Bool.not_false, List.length_map, Decidable.not_not] at k6
              refine o_yes rfl rfl rfl h6 ?_
              refine o_q (q_mv (v_raw rfl)) rfl rfl rfl ?_
              refine o_yes rfl rfl rfl h6 ?_
              refine o_q (q_mv (v_raw rfl)) rfl rfl rfl ?_
              refine o_yes rfl rfl rfl h6 ?_
              refine o_q (q_mv (v_raw rfl)) rfl rfl rfl ?_
              refine o_yes rfl rfl rfl h6 ?_
              refine o_q (q_sub rfl rfl (wrap64 (by omega) (by omega))) rfl rfl rfl ?_
              refine o_yes rfl rfl rfl h6 ?_
              refine o_q (q_min rfl rfl) rfl rfl rfl ?_
              refine o_yes rfl rfl rfl h6 ?_
              refine o_q (q_lss rfl rfl) rfl rfl rfl ?_
              refine o_yes rfl rfl rfl h5 ?_
              refine o_q (q_pick_c (t := true) rfl h6 (v_raw rfl)) rfl rfl rfl ?_
              refine o_q (q_pick_c (t := false) rfl h5 (v_raw rfl)) rfl rfl rfl ?_
              refine o_nil ?_
              refine s_cond rfl (fun h7 => ?_) (fun h7 => ?_)
              · have k7 := h7; try simp only [decide_eq_true_eq, decide_eq_false_iff_not, Bool.not_eq_true', Bool.not_eq_false', Bool.not_true, Bool.not_false, List.length_map, Decidable.not_not] at k7
                exfalso; omega
              · have k7 := h7; try simp only [decide_eq_true_eq, decide_eq_false_iff_not, Bool.not_eq_true', Bool.not_eq_false', Bool.not_true, Bool.not_false, List.length_map, Decidable.not_not] at k7
                refine s_skip ?_
                refine s_blk_normal ?_
                refine s_region ?_
                refine o_q (q_mv (v_raw rfl)) rfl rfl rfl ?_
                refine o_q (q_add rfl rfl (wrap64 (by omega) (by omega))) rfl rfl rfl ?_
                refine o_q (q_as (v_raw rfl)) rfl rfl rfl ?_
                refine o_nil ?_
                refine s_inv ?_
                exact ⟨l.length - (i + 1), by omega, _, _, a + L, i + 1, St.mkT (kp (kp (kp (kp (kp (kp (kp (kp rfl rfl) rfl) rfl) rfl) rfl) rfl) (congrArg int (by rw [hll]; omega))) rfl).symm, (by repeat first | exact hle | exact Mem.le_refl M | assumption | exact Mem.none_of_le hle (by assumption) | refine Mem.le_upd ?_ ?_), (by repeat first | exact Mem.upd_self _ _ _ | assumption | refine Mem.upd_ne (by assumption) ?_), (by repeat first | exact Mem.upd_self _ _ _ | assumption | refine Mem.upd_ne (by assumption) ?_), (by repeat first | exact Mem.upd_self _ _ _ | assumption | refine Mem.upd_ne (by assumption) ?_), by omega, by omega, by omega, by omega, rfl⟩
            · have k6 := h6; try simp only [decide_eq_true_eq, decide_eq_false_iff_not, Bool.not_eq_true', Bool.not_eq_false', Bool.not_true, Bool.not_false, List.length_map, Decidable.not_not] at k6
              refine o_no rfl rfl rfl rfl h6 ?_
              refine o_no rfl rfl rfl rfl h6 ?_
              refine o_no rfl rfl rfl rfl h6 ?_
              refine o_no rfl rfl rfl rfl h6 ?_
              refine o_no rfl rfl rfl rfl h6 ?_
              refine o_no rfl rfl rfl rfl h6 ?_
              refine o_yes rfl rfl rfl h5 ?_
              refine o_q (q_pick_c (t := false) rfl h6 (v_raw rfl)) rfl rfl rfl ?_
              refine o_q (q_pick_c (t := false) rfl h5 (v_raw rfl)) rfl rfl rfl ?_
              refine o_nil ?_
              refine s_else rfl rfl ?_
              refine s_skip ?_
              refine s_blk_normal ?_
              refine s_region ?_
              refine o_q (q_mv (v_raw rfl)) rfl rfl rfl ?_
              refine o_q (q_add rfl rfl (wrap64 (by omega) (by omega))) rfl rfl rfl ?_
              refine o_q (q_as (v_raw rfl)) rfl rfl rfl ?_
              refine o_nil ?_
              refine s_inv ?_
              exact ⟨l.length - (i + 1), by omega, _, _, a + L, i + 1, St.mkT (kp (kp (kp (kp (kp (kp (kp (kp rfl rfl) rfl) rfl) rfl) rfl) rfl) (congrArg int (by rw [hll]; omega))) rfl).symm, (by repeat first | exact hle | exact Mem.le_refl M | assumption | exact Mem.none_of_le hle (by assumption) | refine Mem.le_upd ?_ ?_), (by repeat first | exact Mem.upd_self _ _ _ | assumption | refine Mem.upd_ne (by assumption) ?_), (by repeat first | exact Mem.upd_self _ _ _ | assumption | refine Mem.upd_ne (by assumption) ?_), (by repeat first | exact Mem.upd_self _ _ _ | assumption | refine Mem.upd_ne (by assumption) ?_), by omega, by omega, by omega, by omega, rfl⟩
          · have k5 := h5; try simp only [decide_eq_true_eq, decide_eq_false_iff_not, Bool.not_eq_true', Bool.not_eq_false', Bool.not_true, Bool.not_false, List.length_map, Decidable.not_not] at k5
            exact absurd rfl k5
        · have k4 := h4; try simp only [decide_eq_true_eq, decide_eq_false_iff_not, Bool.not_eq_true', Bool.not_eq_false', Bool.not_true, Bool.not_false, List.length_map, Decidable.not_not] at k4
          exfalso; omega
      · have k3 := h3; try simp only [decide_eq_true_eq, decide_eq_false_iff_not, Bool.not_eq_true', Bool.not_eq_false', Bool.not_true, Bool.not_false, List.length_map, Decidable.not_not] at k3
        refine s_exit ?_
        refine s_code_exit ?_
        refine s_inv_exit ?_
        refine s_blk_here ?_
        refine s_seq ?_
        refine s_region ?_
        refine o_q (q_mv (v_raw rfl)) rfl rfl rfl ?_
        refine o_q (q_as (v_raw rfl)) rfl rfl rfl ?_
        refine o_nil ?_
        refine s_ret ?_
        refine s_end ?_
        exact ⟨rfl, (by repeat first | exact hle | exact Mem.le_refl M | assumption | exact Mem.none_of_le hle (by assumption) | refine Mem.le_upd ?_ ?_)⟩
    · have k2 := h2; try simp only [decide_eq_true_eq, decide_eq_false_iff_not, Bool.not_eq_true', Bool.not_eq_false', Bool.not_true, Bool.not_false, List.length_map, Decidable.not_not] at k2
      refine o_no rfl rfl rfl rfl h2 ?_
      refine o_no rfl rfl rfl rfl h2 ?_
      refine o_q (q_pick_c (t := false) rfl h2 (v_raw rfl)) rfl rfl rfl ?_
      refine o_nil ?_
      refine s_else rfl rfl ?_
      refine s_exit ?_
      refine s_code_exit ?_
      refine s_inv_exit ?_
      refine s_blk_here ?_
      refine s_seq ?_
      refine s_region ?_
      refine o_q (q_mv (v_raw rfl)) rfl rfl rfl ?_
      refine o_q (q_as (v_raw rfl)) rfl rfl rfl ?_
      refine o_nil ?_
      refine s_ret ?_
      refine s_end ?_
      exact ⟨rfl, (by repeat first | exact hle | exact Mem.le_refl M | assumption | exact Mem.none_of_le hle (by assumption) | refine Mem.le_upd ?_ ?_)⟩

def tk8 : Nat → Nat → Option Nat := fun _ _ => none
def pl8 : Nat → List PStep
  | 17 => [.q 0, .q 1, .q 2, .q 3, .q 4, .q 5, .q 6, .s 7 [5, 4, 3, 2], .q 8, .q 9, .q 10, .q 11, .s 12 [11, 10]]
  | 19 => [.q 0, .q 1, .q 2, .q 3, .q 4, .q 5, .s 6 [4, 3, 2, 1], .q 7, .q 8, .q 9, .s 10 [9]]
  | _ => []
theorem cb8 : Try.f8.body.map (codeB Try.prog Try.f8.ntmps tk8 pl8) = some true := by kernel_rfl
theorem goes8 : goesB Try.prog 8 = true := by kernel_rfl
-- carillon/carillonlaw16.SubsSeeks params ['int', '[]carillonlaw16.Deed', 'int', 'int'] results [['t', 8]] own [] names ['0:many', '1:deeds', '2:to', '3:each', '4:many', '5:deeds', '6:to', '7:each', '9:head', '10:t', '11:_', '12:n', '13:i', '14:s', '15:_', '16:i', '17:code', '18:l', '19:want', '20:k'] calls [12, 14, 21, 22, 23, 24, 25, 26, 27] paths 8

structure D2 where
  kind : Int
  n : Int
  deriving Inhabited
def encD2 (d : D2) : AVal := .agg [int d.kind, int d.n]
theorem elsD2 {l : List D2} : Els 2 (l.map encD2) := Els.map fun _ => ⟨rfl, rfl⟩
def okD2 (d : D2) : Prop := (-2 ^ 63 ≤ d.kind ∧ d.kind < 2 ^ 63) ∧ (-2 ^ 63 ≤ d.n ∧ d.n < 2 ^ 63)
theorem poll_any {n : Nat} {c a : Int} (k : Int) (h : 0 ≤ c ∧ c ≤ a) (hn : a ≤ n) (hn2 : n < 2 ^ 40) : ∃ (a' : Int) (l : List Rec) (r : Int), pollS (sb c a) (topN n) k = (sb c a', l, r) ∧ a ≤ a' ∧ a' ≤ n := by
  by_cases hk : 1 ≤ k ∧ k ≤ 50
  · obtain ⟨L, hL, hp⟩ := poll_sb (n := n) k h hn hn2 hk
    exact ⟨a + L, _, _, hp, by omega, by omega⟩
  · refine ⟨a, [], 7, ?_, Int.le_refl _, hn⟩
    unfold pollS
    rw [if_neg]
    simp only [Bool.and_eq_true, decide_eq_true_eq]
    intro h'
    exact hk ⟨h'.1.2, h'.2⟩
theorem ack_any {c a : Int} (o : Int) (h : 0 ≤ c ∧ c ≤ a ∧ a ≤ 9007199254740991) : ∃ c' r : Int, ackS (sb c a) o = (sb c' a, r) ∧ c ≤ c' ∧ c' ≤ a := by
  by_cases hk : 0 ≤ o ∧ o < a
  · exact ⟨_, _, ack_sb h hk, by omega, by omega⟩
  · refine ⟨c, 7, ?_, Int.le_refl _, h.2.1⟩
    unfold ackS
    rw [if_neg]
    simp only [Bool.and_eq_true, decide_eq_true_eq]
    intro h'
    exact hk ⟨h'.1.2, h'.2⟩
set_option maxHeartbeats 4000000 in
set_option maxRecDepth 20000 in
theorem snd8 (many : Int) (l : List D2) (o : Bool) (to each : Int) (M : Mem) (hmany : -2 ^ 63 ≤ many ∧ many < 2 ^ 63) (hl : l.length < 2 ^ 60) (hq : ∀ d ∈ l, okD2 d) (hto : -2 ^ 63 ≤ to ∧ to < 2 ^ 63) (heach : -2 ^ 63 ≤ each ∧ each < 2 ^ 63) : SoundCall Try.prog 8 [int many, .sl (l.map encD2) o, int to, int each] M fun r M' => r = bool true ∧ M.le M' := by
  obtain ⟨n, hn, hn2⟩ := pickN many 201 (by decide)
  obtain ⟨g, hg, hg2⟩ := pickN to (n + 1) (by omega)
  obtain ⟨e, he, he2⟩ := pickN each 50 (by decide)
  obtain ⟨L, hL, hp⟩ := poll_sb (n := n) (c := g) (a := g) (1 + e) (by omega) (by omega) (by omega) (by omega)
  rw [Int.toNat_natCast] at hp
  have hll : (List.map enc ((List.range' g L).map recP)).length = L := by simp
  have hll3 : ((List.range' g L).map recP).length = L := by simp
  have hll2 : (List.range' g L).length = L := by simp
  refine SoundCall.go tk8 pl8 mixed Try.func8 cb8 rfl (Nat.le_of_ble_eq_true rfl) ?_
  refine s_seq ?_
  refine s_region ?_
  refine o_q (q_as (v_raw rfl)) rfl rfl rfl ?_
  refine o_nil ?_
  refine s_seq ?_
  refine s_region ?_
  refine o_callx (snd21 _) goes21 ac_nil rfl ?_
  rintro r M0 ⟨rfl, hle⟩
  refine o_q (q_as (v_raw rfl)) rfl rfl rfl ?_
  refine o_nil ?_
  refine s_seq ?_
  refine s_region ?_
  refine o_callx (newT (bs 116) _ (by kernel_rfl)) goes12 (ac (v_raw rfl) ac_nil) rfl ?_
  rintro r M' ⟨t, w, ht0, hw0, htw, rfl, rfl⟩
  have htw' := htw.symm
  have ht0' := Mem.none_of_le hle ht0
  have hw0' := Mem.none_of_le hle hw0
  refine o_q (q_mv (v_tup rfl)) rfl rfl rfl ?_
  refine o_q (q_ext rfl rfl ((by first | exact v_raw rfl | exact v_sptr rfl))) rfl rfl rfl ?_
  refine o_q (q_ext rfl rfl (v_raw rfl)) rfl rfl rfl ?_
  refine o_q (q_as ((by first | exact v_raw rfl | exact v_sptr rfl))) rfl rfl rfl ?_
  refine o_q (q_as (v_raw rfl)) rfl rfl rfl ?_
  refine o_nil ?_
  refine s_seq ?_
  refine s_seq ?_
  refine s_region ?_
  refine o_q (q_mv ((by first | exact v_raw rfl | exact v_sptr rfl))) rfl rfl rfl ?_
  refine o_q (q_peql und24 rfl rfl) rfl rfl rfl ?_
  refine o_nil ?_
  refine s_else rfl rfl ?_
  refine s_skip ?_
  refine s_seq ?_
  refine s_region ?_
  refine o_q (q_mv (v_raw rfl)) rfl rfl rfl ?_
  refine o_call ((pickE _ hn (by decide) (by decide) hmany)) goes22 (ac (v_raw rfl) (ac (v_raw rfl) ac_nil)) rfl ?_
  refine o_q (q_as (v_raw rfl)) rfl rfl rfl ?_
  refine o_nil ?_
  refine s_seq ?_
  refine s_seq ?_
  refine s_region ?_
  refine o_q (q_as (v_raw rfl)) rfl rfl rfl ?_
  refine o_nil ?_
  refine s_block ?_
  refine s_loop (fun m S => ∃ T, ∃ M' : Mem, ∃ i : Nat, S = ⟨setT (setT (setT (setT (setT (setT (setT T 10 (ptr t)) 13 (int (i : Nat))) 1 (.sl (l.map encD2) o)) 2 (int to)) 3 (int each)) 9 (bool true)) 12 (int (n : Nat)), M'⟩ ∧ M.le M' ∧ M' t = some (.cells (tpC w (topN i))) ∧ M' w = some (tpK (topN i)) ∧ i ≤ n ∧ m = n - i) n ?_ ?_
  · exact ⟨_, _, 0, St.mkT (kp (kp (kp (kp (kp (kp (kp rfl rfl) rfl) rfl) rfl) rfl) rfl) rfl).symm, (by repeat first | exact hle | exact Mem.le_refl M | assumption | exact Mem.none_of_le hle (by assumption) | refine Mem.le_upd ?_ ?_), (by repeat first | exact Mem.upd_self _ _ _ | assumption | refine Mem.upd_ne (by assumption) ?_), (by repeat first | exact Mem.upd_self _ _ _ | assumption | refine Mem.upd_ne (by assumption) ?_), by omega, rfl⟩
  rintro m S ⟨T, M', i, rfl, hle, ht, hw, hi, rfl⟩
  refine s_seq ?_
  refine s_seq ?_
  refine s_region ?_
  refine o_q (q_mv (v_raw rfl)) rfl rfl rfl ?_
  refine o_q (q_mv (v_raw rfl)) rfl rfl rfl ?_
  refine o_q (q_lss rfl rfl) rfl rfl rfl ?_
  refine o_nil ?_
  refine s_cond rfl (fun h1 => ?_) (fun h1 => ?_)
  · have k1 := h1; try simp only [decide_eq_true_eq, decide_eq_false_iff_not, Bool.not_eq_true', Bool.not_eq_false', Bool.not_true, Bool.not_false, List.length_map, Decidable.not_not] at k1
    refine s_skip ?_
    refine s_seq ?_
    refine s_block ?_
    refine s_region ?_
    refine o_q (q_mv ((by first | exact v_raw rfl | exact v_sptr rfl))) rfl rfl rfl ?_
    refine o_q (q_mv (v_raw rfl)) rfl rfl rfl ?_
    refine o_callx ((pubT t w i _ (by omega) (by repeat first | exact Mem.upd_self _ _ _ | assumption | refine Mem.upd_ne (by assumption) ?_) (by repeat first | exact Mem.upd_self _ _ _ | assumption | refine Mem.upd_ne (by assumption) ?_) htw)) goes14 (ac ((by first | exact v_raw rfl | exact v_sptr rfl)) (ac (v_raw rfl) (ac (v_raw rfl) (ac (v_raw rfl) (ac (v_raw rfl) ac_nil))))) rfl ?_
    rintro r M' ⟨rfl, rfl⟩
    refine o_nil ?_
    refine s_blk_normal ?_
    refine s_region ?_
    refine o_q (q_mv (v_raw rfl)) rfl rfl rfl ?_
    refine o_q (q_add rfl rfl (wrap64 (by omega) (by omega))) rfl rfl rfl ?_
    refine o_q (q_as (v_raw rfl)) rfl rfl rfl ?_
    refine o_nil ?_
    refine s_inv ?_
    exact ⟨n - (i + 1), by omega, _, _, i + 1, St.mkT (kp (kp (kp (kp (kp (kp (kp rfl rfl) rfl) rfl) rfl) rfl) rfl) rfl).symm, (by repeat first | exact hle | exact Mem.le_refl M | assumption | exact Mem.none_of_le hle (by assumption) | refine Mem.le_upd ?_ ?_), (by repeat first | exact Mem.upd_self _ _ _ | assumption | refine Mem.upd_ne (by assumption) ?_), (by repeat first | exact Mem.upd_self _ _ _ | assumption | refine Mem.upd_ne (by assumption) ?_), by omega, rfl⟩
  · have k1 := h1; try simp only [decide_eq_true_eq, decide_eq_false_iff_not, Bool.not_eq_true', Bool.not_eq_false', Bool.not_true, Bool.not_false, List.length_map, Decidable.not_not] at k1
    obtain rfl : n = i := by omega
    refine s_exit ?_
    refine s_code_exit ?_
    refine s_inv_exit ?_
    refine s_blk_here ?_
    refine s_seq ?_
    refine s_region ?_
    refine o_q (q_mv ((by first | exact v_raw rfl | exact v_sptr rfl))) rfl rfl rfl ?_
    refine o_call ((newE (x := topN n) t w _ (new_top (f := 0) (by omega)) (by repeat first | exact Mem.upd_self _ _ _ | assumption | refine Mem.upd_ne (by assumption) ?_) (by repeat first | exact Mem.upd_self _ _ _ | assumption | refine Mem.upd_ne (by assumption) ?_) htw)) goes23 (ac (v_raw rfl) (ac ((by first | exact v_raw rfl | exact v_sptr rfl)) (ac (v_raw rfl) ac_nil))) rfl ?_
    refine o_q (q_mv (v_tup rfl)) rfl rfl rfl ?_
    refine o_q (q_ext rfl rfl (v_agg rfl)) rfl rfl rfl ?_
    refine o_q (q_ext rfl rfl (v_raw rfl)) rfl rfl rfl ?_
    refine o_alloc zc45 (fun B1 hB1 => ?_)
    have n1 : t ≠ B1 := Mem.fresh_ne hB1 ht
    have n1' := n1.symm
    have n2 : w ≠ B1 := Mem.fresh_ne hB1 hw
    have n2' := n2.symm
    have m1 : M B1 = none := by have h := hB1; repeat (first | exact h | exact Mem.none_of_le hle h | replace h := (Mem.upd_none h).2)
    refine o_storew rfl (by repeat first | exact Mem.upd_self _ _ _ | assumption | refine Mem.upd_ne (by assumption) ?_) (by first | exact e_agg rfl | rfl) rfl sz45 rfl rfl rfl rfl ?_
    refine o_q (q_as (v_raw rfl)) rfl rfl rfl ?_
    refine o_nil ?_
    refine s_seq ?_
    refine s_seq ?_
    refine s_region ?_
    refine o_q (q_as (v_raw rfl)) rfl rfl rfl ?_
    refine o_nil ?_
    refine s_cut (fun S => ∃ T, ∃ M' : Mem, ∃ c a : Int, S = ⟨setT (setT (setT (setT (setT (setT T 2 (int to)) 3 (int each)) 9 (bool true)) 10 (ptr t)) 12 (int (n : Nat))) 14 (ptr B1), M'⟩ ∧ M.le M' ∧ M' t = some (.cells (tpC w (topN n))) ∧ M' w = some (tpK (topN n)) ∧ M' B1 = some (.cells (sbC (sb c a))) ∧ 0 ≤ c ∧ c ≤ a ∧ a ≤ n) ?_ ?_
    · skip
      refine s_block ?_
      refine s_loop (fun m S => ∃ T, ∃ M' : Mem, ∃ c a : Int, ∃ i : Nat, S = ⟨setT (setT (setT (setT (setT (setT (setT (setT T 1 (.sl (l.map encD2) o)) 2 (int to)) 3 (int each)) 9 (bool true)) 10 (ptr t)) 12 (int (n : Nat))) 14 (ptr B1)) 16 (int (i : Nat)), M'⟩ ∧ M.le M' ∧ M' t = some (.cells (tpC w (topN n))) ∧ M' w = some (tpK (topN n)) ∧ M' B1 = some (.cells (sbC (sb c a))) ∧ 0 ≤ c ∧ c ≤ a ∧ a ≤ n ∧ i ≤ l.length ∧ m = l.length - i) l.length ?_ ?_
      · exact ⟨_, _, 0, 0, 0, St.mkT (kp (kp (kp (kp (kp (kp (kp (kp rfl rfl) rfl) rfl) rfl) rfl) rfl) rfl) rfl).symm, (by repeat first | exact hle | exact Mem.le_refl M | assumption | exact Mem.none_of_le hle (by assumption) | refine Mem.le_upd ?_ ?_), (by repeat first | exact Mem.upd_self _ _ _ | assumption | refine Mem.upd_ne (by assumption) ?_), (by repeat first | exact Mem.upd_self _ _ _ | assumption | refine Mem.upd_ne (by assumption) ?_), (by repeat first | exact Mem.upd_self _ _ _ | assumption | refine Mem.upd_ne (by assumption) ?_), by omega, by omega, by omega, by omega, rfl⟩
      rintro m S ⟨T, M', c, a, i, rfl, hle, ht, hw, hB, hc0, hca, han, hi, rfl⟩
      refine s_seq ?_
      refine s_seq ?_
      refine s_region ?_
      refine o_q (q_mv (v_raw rfl)) rfl rfl rfl ?_
      refine o_q (q_mv (v_sl rfl)) rfl rfl rfl ?_
      refine o_q (q_len rfl und53 rfl) rfl rfl rfl ?_
      refine o_q (q_lss rfl rfl) rfl rfl rfl ?_
      refine o_q (q_mv (v_raw rfl)) rfl rfl rfl ?_
      refine o_cases (want := true) (j := 4) rfl rfl (fun h2 => ?_) (fun h2 => ?_)
      · have k2 := h2; try simp only [decide_eq_true_eq, decide_eq_false_iff_not, Bool.not_eq_true', Bool.not_eq_false', Bool.not_true, Bool.not_false, List.length_map, Decidable.not_not] at k2
        refine o_yes rfl rfl rfl h2 ?_
        refine o_q (q_mv (v_raw rfl)) rfl rfl rfl ?_
        refine o_yes rfl rfl rfl h2 ?_
        refine o_q (q_lss rfl rfl) rfl rfl rfl ?_
        refine o_q (q_pick_c (t := true) rfl h2 (v_raw rfl)) rfl rfl rfl ?_
        refine o_nil ?_
        refine s_cond rfl (fun h3 => ?_) (fun h3 => ?_)
        · have k3 := h3; try simp only [decide_eq_true_eq, decide_eq_false_iff_not, Bool.not_eq_true', Bool.not_eq_false', Bool.not_true, Bool.not_false, List.length_map, Decidable.not_not] at k3
          have hqi := hq l[i] (List.getElem_mem _)
          obtain ⟨e3, he3, he32⟩ := pickN l[i].kind 3 (by decide)
          obtain ⟨a2, l2, r2, hp2, ha2, ha2'⟩ := poll_any (n := n) (c := c) (a := a) l[i].n (by omega) (by omega) (by omega)
          obtain ⟨c3, r3, hp3, hc3, hc3'⟩ := ack_any (c := c) (a := a) l[i].n (by omega)
          refine s_skip ?_
          refine s_seq ?_
          refine s_block ?_
          refine s_seq ?_
          refine s_region ?_
          refine o_q (q_mv (v_sl rfl)) rfl rfl rfl ?_
          refine o_q (q_mv (v_raw rfl)) rfl rfl rfl ?_
          refine o_q (q_idx und53 sz55 rfl rfl (by omega) (gm i (by first | omega | simp)) rfl) rfl rfl rfl ?_
          refine o_q (q_f fo55_0 rfl) rfl rfl rfl ?_
          refine o_q (q_ld ag3 sz3 rfl (gm i (by first | omega | simp)) rfl (v_raw rfl)) rfl rfl rfl ?_
          refine o_call ((pickE _ he3 (by decide) (by decide) hqi.1)) goes22 (ac (v_raw rfl) (ac (v_raw rfl) ac_nil)) rfl ?_
          refine o_nil ?_
          refine s_block ?_
          refine s_seq ?_
          refine s_region ?_
          refine o_q (q_eql rfl rfl) rfl rfl rfl ?_
          refine o_q (q_as (v_raw rfl)) rfl rfl rfl ?_
          refine o_nil ?_
          refine s_cond rfl (fun h4 => ?_) (fun h4 => ?_)
          · have k4 := h4; try simp only [decide_eq_true_eq, decide_eq_false_iff_not, Bool.not_eq_true', Bool.not_eq_false', Bool.not_true, Bool.not_false, List.length_map, Decidable.not_not] at k4
            refine s_draw rfl ?_
            refine d_q rfl (q_ldmw ag45 sz45 rfl (by repeat first | exact Mem.upd_self _ _ _ | assumption | refine Mem.upd_ne (by assumption) ?_) rfl rfl) rfl rfl rfl ?_
            refine d_q rfl (q_mv ((by first | exact v_raw rfl | exact v_sptr rfl))) rfl rfl rfl ?_
            refine d_q rfl (q_mv (v_sl rfl)) rfl rfl rfl ?_
            refine d_q rfl (q_mv (v_raw rfl)) rfl rfl rfl ?_
            refine d_q rfl (q_idx und53 sz55 rfl rfl (by omega) (gm i (by first | omega | simp)) rfl) rfl rfl rfl ?_
            refine d_q rfl (q_f fo55_1 rfl) rfl rfl rfl ?_
            refine d_q rfl (q_ld ag3 sz3 rfl (gm i (by first | omega | simp)) rfl (v_raw rfl)) rfl rfl rfl ?_
            refine d_s rfl ?_
            refine o_call ((pollT t w _ (by omega) hp2 (by repeat first | exact Mem.upd_self _ _ _ | assumption | refine Mem.upd_ne (by assumption) ?_) (by repeat first | exact Mem.upd_self _ _ _ | assumption | refine Mem.upd_ne (by assumption) ?_) htw)) goes24 (ac (v_agg rfl) (ac ((by first | exact v_raw rfl | exact v_sptr rfl)) (ac (v_raw rfl) ac_nil))) rfl ?_
            refine o_nil ⟨(by simp [Mem.upd, *]), ?_⟩
            refine d_q rfl (q_mv (v_tup rfl)) rfl rfl rfl ?_
            refine d_q rfl (q_ext rfl rfl (v_agg rfl)) rfl rfl rfl ?_
            refine d_q rfl (q_ext rfl rfl (v_sl rfl)) rfl rfl rfl ?_
            refine d_q rfl (q_ext rfl rfl (v_raw rfl)) rfl rfl rfl ?_
            refine d_s rfl ?_
            refine o_storew rfl (by repeat first | exact Mem.upd_self _ _ _ | assumption | refine Mem.upd_ne (by assumption) ?_) (by first | exact e_agg rfl | rfl) rfl sz45 rfl rfl rfl rfl ?_
            refine o_nil ⟨(by simp [Mem.upd, *]), ?_⟩
            refine d_nil ?_
            refine s_blk_normal ?_
            refine s_blk_normal ?_
            refine s_region ?_
            refine o_q (q_mv (v_raw rfl)) rfl rfl rfl ?_
            refine o_q (q_add rfl rfl (wrap64 (by omega) (by omega))) rfl rfl rfl ?_
            refine o_q (q_as (v_raw rfl)) rfl rfl rfl ?_
            refine o_nil ?_
            refine s_inv ?_
            exact ⟨l.length - (i + 1), by omega, _, _, c, a2, i + 1, St.mkT (kp (kp (kp (kp (kp (kp (kp (kp rfl rfl) rfl) rfl) rfl) rfl) rfl) rfl) rfl).symm, (by repeat first | exact hle | exact Mem.le_refl M | assumption | exact Mem.none_of_le hle (by assumption) | refine Mem.le_upd ?_ ?_), (by repeat first | exact Mem.upd_self _ _ _ | assumption | refine Mem.upd_ne (by assumption) ?_), (by repeat first | exact Mem.upd_self _ _ _ | assumption | refine Mem.upd_ne (by assumption) ?_), (by repeat first | exact Mem.upd_self _ _ _ | assumption | refine Mem.upd_ne (by assumption) ?_), by omega, by omega, by omega, by omega, rfl⟩
          · have k4 := h4; try simp only [decide_eq_true_eq, decide_eq_false_iff_not, Bool.not_eq_true', Bool.not_eq_false', Bool.not_true, Bool.not_false, List.length_map, Decidable.not_not] at k4
            refine s_seq ?_
            refine s_region ?_
            refine o_q (q_eql rfl rfl) rfl rfl rfl ?_
            refine o_q (q_as (v_raw rfl)) rfl rfl rfl ?_
            refine o_nil ?_
            refine s_cond rfl (fun h5 => ?_) (fun h5 => ?_)
            · have k5 := h5; try simp only [decide_eq_true_eq, decide_eq_false_iff_not, Bool.not_eq_true', Bool.not_eq_false', Bool.not_true, Bool.not_false, List.length_map, Decidable.not_not] at k5
              refine s_draw rfl ?_
              refine d_q rfl (q_ldmw ag45 sz45 rfl (by repeat first | exact Mem.upd_self _ _ _ | assumption | refine Mem.upd_ne (by assumption) ?_) rfl rfl) rfl rfl rfl ?_
              refine d_q rfl (q_mv (v_sl rfl)) rfl rfl rfl ?_
              refine d_q rfl (q_mv (v_raw rfl)) rfl rfl rfl ?_
              refine d_q rfl (q_idx und53 sz55 rfl rfl (by omega) (gm i (by first | omega | simp)) rfl) rfl rfl rfl ?_
              refine d_q rfl (q_f fo55_1 rfl) rfl rfl rfl ?_
              refine d_q rfl (q_ld ag3 sz3 rfl (gm i (by first | omega | simp)) rfl (v_raw rfl)) rfl rfl rfl ?_
              refine d_s rfl ?_
              refine o_call ((ackE _ hp3)) goes25 (ac (v_agg rfl) (ac (v_raw rfl) ac_nil)) rfl ?_
              refine o_nil ⟨(by simp [Mem.upd, *]), ?_⟩
              refine d_q rfl (q_mv (v_tup rfl)) rfl rfl rfl ?_
              refine d_q rfl (q_ext rfl rfl (v_agg rfl)) rfl rfl rfl ?_
              refine d_q rfl (q_ext rfl rfl (v_raw rfl)) rfl rfl rfl ?_
              refine d_s rfl ?_
              refine o_storew rfl (by repeat first | exact Mem.upd_self _ _ _ | assumption | refine Mem.upd_ne (by assumption) ?_) (by first | exact e_agg rfl | rfl) rfl sz45 rfl rfl rfl rfl ?_
              refine o_nil ⟨(by simp [Mem.upd, *]), ?_⟩
              refine d_nil ?_
              refine s_blk_normal ?_
              refine s_blk_normal ?_
              refine s_region ?_
              refine o_q (q_mv (v_raw rfl)) rfl rfl rfl ?_
              refine o_q (q_add rfl rfl (wrap64 (by omega) (by omega))) rfl rfl rfl ?_
              refine o_q (q_as (v_raw rfl)) rfl rfl rfl ?_
              refine o_nil ?_
              refine s_inv ?_
              exact ⟨l.length - (i + 1), by omega, _, _, c3, a, i + 1, St.mkT (kp (kp (kp (kp (kp (kp (kp (kp rfl rfl) rfl) rfl) rfl) rfl) rfl) rfl) rfl).symm, (by repeat first | exact hle | exact Mem.le_refl M | assumption | exact Mem.none_of_le hle (by assumption) | refine Mem.le_upd ?_ ?_), (by repeat first | exact Mem.upd_self _ _ _ | assumption | refine Mem.upd_ne (by assumption) ?_), (by repeat first | exact Mem.upd_self _ _ _ | assumption | refine Mem.upd_ne (by assumption) ?_), (by repeat first | exact Mem.upd_self _ _ _ | assumption | refine Mem.upd_ne (by assumption) ?_), by omega, by omega, by omega, by omega, rfl⟩
            · have k5 := h5; try simp only [decide_eq_true_eq, decide_eq_false_iff_not, Bool.not_eq_true', Bool.not_eq_false', Bool.not_true, Bool.not_false, List.length_map, Decidable.not_not] at k5
              refine s_region ?_
              refine o_q (q_ldmw ag45 sz45 rfl (by repeat first | exact Mem.upd_self _ _ _ | assumption | refine Mem.upd_ne (by assumption) ?_) rfl rfl) rfl rfl rfl ?_
              refine o_call (((snd26 (sb c a) _).det)) goes26 (ac (v_agg rfl) ac_nil) rfl ?_
              refine o_storew rfl (by repeat first | exact Mem.upd_self _ _ _ | assumption | refine Mem.upd_ne (by assumption) ?_) (by first | exact e_agg rfl | rfl) rfl sz45 rfl rfl rfl rfl ?_
              refine o_nil ?_
              refine s_blk_normal ?_
              refine s_blk_normal ?_
              refine s_region ?_
              refine o_q (q_mv (v_raw rfl)) rfl rfl rfl ?_
              refine o_q (q_add rfl rfl (wrap64 (by omega) (by omega))) rfl rfl rfl ?_
              refine o_q (q_as (v_raw rfl)) rfl rfl rfl ?_
              refine o_nil ?_
              refine s_inv ?_
              exact ⟨l.length - (i + 1), by omega, _, _, c, c, i + 1, St.mkT (kp (kp (kp (kp (kp (kp (kp (kp rfl rfl) rfl) rfl) rfl) rfl) rfl) rfl) rfl).symm, (by repeat first | exact hle | exact Mem.le_refl M | assumption | exact Mem.none_of_le hle (by assumption) | refine Mem.le_upd ?_ ?_), (by repeat first | exact Mem.upd_self _ _ _ | assumption | refine Mem.upd_ne (by assumption) ?_), (by repeat first | exact Mem.upd_self _ _ _ | assumption | refine Mem.upd_ne (by assumption) ?_), (by repeat first | exact Mem.upd_self _ _ _ | assumption | refine Mem.upd_ne (by assumption) ?_), by omega, by omega, by omega, by omega, rfl⟩
        · have k3 := h3; try simp only [decide_eq_true_eq, decide_eq_false_iff_not, Bool.not_eq_true', Bool.not_eq_false', Bool.not_true, Bool.not_false, List.length_map, Decidable.not_not] at k3
          refine s_exit ?_
          refine s_code_exit ?_
          refine s_inv_exit ?_
          refine s_blk_here ?_
          refine s_inv ?_
          exact ⟨_, _, c, a, St.mkT (kp (kp (kp (kp (kp (kp rfl rfl) rfl) rfl) rfl) rfl) rfl).symm, hle, ht, hw, hB, hc0, hca, han⟩
      · have k2 := h2; try simp only [decide_eq_true_eq, decide_eq_false_iff_not, Bool.not_eq_true', Bool.not_eq_false', Bool.not_true, Bool.not_false, List.length_map, Decidable.not_not] at k2
        refine o_no rfl rfl rfl rfl h2 ?_
        refine o_no rfl rfl rfl rfl h2 ?_
        refine o_q (q_pick_c (t := false) rfl h2 (v_raw rfl)) rfl rfl rfl ?_
        refine o_nil ?_
        refine s_else rfl rfl ?_
        refine s_exit ?_
        refine s_code_exit ?_
        refine s_inv_exit ?_
        refine s_blk_here ?_
        refine s_inv ?_
        exact ⟨_, _, c, a, St.mkT (kp (kp (kp (kp (kp (kp rfl rfl) rfl) rfl) rfl) rfl) rfl).symm, hle, ht, hw, hB, hc0, hca, han⟩
    rintro S ⟨T, M', c, a, rfl, hle, ht, hw, hB, hc0, hca, han⟩
    refine s_seq ?_
    refine s_region ?_
    refine o_q (q_mv (v_raw rfl)) rfl rfl rfl ?_
    refine o_q (q_mv (v_raw rfl)) rfl rfl rfl ?_
    refine o_q (q_add rfl rfl (wrap64 (by omega) (by omega))) rfl rfl rfl ?_
    refine o_call ((pickE _ hg (by omega) (by omega) hto)) goes22 (ac (v_raw rfl) (ac (v_raw rfl) ac_nil)) rfl ?_
    refine o_q (q_as (v_raw rfl)) rfl rfl rfl ?_
    refine o_nil ?_
    refine s_seq ?_
    refine s_region ?_
    refine o_q (q_mv (v_raw rfl)) rfl rfl rfl ?_
    refine o_call ((pickE _ he (by decide) (by decide) heach)) goes22 (ac (v_raw rfl) (ac (v_raw rfl) ac_nil)) rfl ?_
    refine o_q (q_add rfl rfl (wrap64 (by omega) (by omega))) rfl rfl rfl ?_
    refine o_q (q_as (v_raw rfl)) rfl rfl rfl ?_
    refine o_nil ?_
    refine s_seq ?_
    refine s_region ?_
    refine o_q (q_ldmw ag45 sz45 rfl (by repeat first | exact Mem.upd_self _ _ _ | assumption | refine Mem.upd_ne (by assumption) ?_) rfl rfl) rfl rfl rfl ?_
    refine o_q (q_mv ((by first | exact v_raw rfl | exact v_sptr rfl))) rfl rfl rfl ?_
    refine o_q (q_mv (v_raw rfl)) rfl rfl rfl ?_
    refine o_call ((seekE (x := topN n) t w _ (seek_sb (o := g) (right_sb (c := c) (n := a) (by omega)) (by omega)) (by repeat first | exact Mem.upd_self _ _ _ | assumption | refine Mem.upd_ne (by assumption) ?_) (by repeat first | exact Mem.upd_self _ _ _ | assumption | refine Mem.upd_ne (by assumption) ?_) htw)) goes27 (ac (v_agg rfl) (ac ((by first | exact v_raw rfl | exact v_sptr rfl)) (ac (v_raw rfl) ac_nil))) rfl ?_
    refine o_q (q_mv (v_tup rfl)) rfl rfl rfl ?_
    refine o_q (q_ext rfl rfl (v_agg rfl)) rfl rfl rfl ?_
    refine o_q (q_ext rfl rfl (v_raw rfl)) rfl rfl rfl ?_
    refine o_storew rfl (by repeat first | exact Mem.upd_self _ _ _ | assumption | refine Mem.upd_ne (by assumption) ?_) (by first | exact e_agg rfl | rfl) rfl sz45 rfl rfl rfl rfl ?_
    refine o_q (q_as (v_raw rfl)) rfl rfl rfl ?_
    refine o_nil ?_
    refine s_seq ?_
    refine s_seq ?_
    refine s_region ?_
    refine o_q (q_mv (v_raw rfl)) rfl rfl rfl ?_
    refine o_q (q_neq rfl rfl) rfl rfl rfl ?_
    refine o_q (q_mv (v_raw rfl)) rfl rfl rfl ?_
    refine o_cases (want := false) (j := 2) rfl rfl (fun h6 => ?_) (fun h6 => ?_)
    · have k6 := h6; try simp only [decide_eq_true_eq, decide_eq_false_iff_not, Bool.not_eq_true', Bool.not_eq_false', Bool.not_true, Bool.not_false, List.length_map, Decidable.not_not] at k6
      refine o_yes rfl rfl rfl h6 ?_
      refine o_q (q_fr fo45_2 rfl) rfl rfl rfl ?_
      refine o_yes rfl rfl rfl h6 ?_
      refine o_q (q_ldm ag3 sz3 rfl (by repeat first | exact Mem.upd_self _ _ _ | assumption | refine Mem.upd_ne (by assumption) ?_) rfl (v_raw rfl)) rfl rfl rfl ?_
      refine o_yes rfl rfl rfl h6 ?_
      refine o_q (q_mv (v_raw rfl)) rfl rfl rfl ?_
      refine o_yes rfl rfl rfl h6 ?_
      refine o_q (q_neq rfl rfl) rfl rfl rfl ?_
      refine o_q (q_pick_c (t := false) rfl h6 (v_raw rfl)) rfl rfl rfl ?_
      refine o_q (q_mv (v_raw rfl)) rfl rfl rfl ?_
      refine o_cases (want := false) (j := 8) rfl rfl (fun h7 => ?_) (fun h7 => ?_)
      · have k7 := h7; try simp only [decide_eq_true_eq, decide_eq_false_iff_not, Bool.not_eq_true', Bool.not_eq_false', Bool.not_true, Bool.not_false, List.length_map, Decidable.not_not] at k7
        refine o_yes rfl rfl rfl h7 ?_
        refine o_q (q_fr fo45_3 rfl) rfl rfl rfl ?_
        refine o_yes rfl rfl rfl h7 ?_
        refine o_q (q_ldm ag3 sz3 rfl (by repeat first | exact Mem.upd_self _ _ _ | assumption | refine Mem.upd_ne (by assumption) ?_) rfl (v_raw rfl)) rfl rfl rfl ?_
        refine o_yes rfl rfl rfl h7 ?_
        refine o_q (q_mv (v_raw rfl)) rfl rfl rfl ?_
        refine o_yes rfl rfl rfl h7 ?_
        refine o_q (q_neq rfl rfl) rfl rfl rfl ?_
        refine o_q (q_pick_c (t := false) rfl h7 (v_raw rfl)) rfl rfl rfl ?_
        refine o_nil ?_
        refine s_cond rfl (fun h8 => ?_) (fun h8 => ?_)
        · have k8 := h8; try simp only [decide_eq_true_eq, decide_eq_false_iff_not, Bool.not_eq_true', Bool.not_eq_false', Bool.not_true, Bool.not_false, List.length_map, Decidable.not_not] at k8
          exact absurd rfl k8
        · have k8 := h8; try simp only [decide_eq_true_eq, decide_eq_false_iff_not, Bool.not_eq_true', Bool.not_eq_false', Bool.not_true, Bool.not_false, List.length_map, Decidable.not_not] at k8
          refine s_skip ?_
          refine s_seq ?_
          refine s_region ?_
          refine o_q (q_ldmw ag45 sz45 rfl (by repeat first | exact Mem.upd_self _ _ _ | assumption | refine Mem.upd_ne (by assumption) ?_) rfl rfl) rfl rfl rfl ?_
          refine o_q (q_mv ((by first | exact v_raw rfl | exact v_sptr rfl))) rfl rfl rfl ?_
          refine o_q (q_mv (v_raw rfl)) rfl rfl rfl ?_
          refine o_call ((pollT t w _ (by omega) hp (by repeat first | exact Mem.upd_self _ _ _ | assumption | refine Mem.upd_ne (by assumption) ?_) (by repeat first | exact Mem.upd_self _ _ _ | assumption | refine Mem.upd_ne (by assumption) ?_) htw)) goes24 (ac (v_agg rfl) (ac ((by first | exact v_raw rfl | exact v_sptr rfl)) (ac (v_raw rfl) ac_nil))) rfl ?_
          refine o_q (q_mv (v_tup rfl)) rfl rfl rfl ?_
          refine o_q (q_ext rfl rfl (v_agg rfl)) rfl rfl rfl ?_
          refine o_q (q_ext rfl rfl (v_sl rfl)) rfl rfl rfl ?_
          refine o_q (q_ext rfl rfl (v_raw rfl)) rfl rfl rfl ?_
          refine o_storew rfl (by repeat first | exact Mem.upd_self _ _ _ | assumption | refine Mem.upd_ne (by assumption) ?_) (by first | exact e_agg rfl | rfl) rfl sz45 rfl rfl rfl rfl ?_
          refine o_q (q_as (v_sl rfl)) rfl rfl rfl ?_
          refine o_q (q_as (v_raw rfl)) rfl rfl rfl ?_
          refine o_nil ?_
          refine s_seq ?_
          refine s_region ?_
          refine o_q (q_mv (v_raw rfl)) rfl rfl rfl ?_
          refine o_q (q_mv (v_raw rfl)) rfl rfl rfl ?_
          refine o_q (q_mv (v_raw rfl)) rfl rfl rfl ?_
          refine o_q (q_sub rfl rfl (wrap64 (by omega) (by omega))) rfl rfl rfl ?_
          refine o_q (q_min rfl rfl) rfl rfl rfl ?_
          refine o_q (q_as (v_raw rfl)) rfl rfl rfl ?_
          refine o_nil ?_
          refine s_seq ?_
          refine s_seq ?_
          refine s_region ?_
          refine o_q (q_mv (v_raw rfl)) rfl rfl rfl ?_
          refine o_q (q_neq rfl rfl) rfl rfl rfl ?_
          refine o_q (q_mv (v_raw rfl)) rfl rfl rfl ?_
          refine o_cases (want := false) (j := 2) rfl rfl (fun h9 => ?_) (fun h9 => ?_)
          · have k9 := h9; try simp only [decide_eq_true_eq, decide_eq_false_iff_not, Bool.not_eq_true', Bool.not_eq_false', Bool.not_true, Bool.not_false, List.length_map, Decidable.not_not] at k9
            refine o_yes rfl rfl rfl h9 ?_
            refine o_q (q_mv (v_sl rfl)) rfl rfl rfl ?_
            refine o_yes rfl rfl rfl h9 ?_
            refine o_q (q_len rfl und28 rfl) rfl rfl rfl ?_
            refine o_yes rfl rfl rfl h9 ?_
            refine o_q (q_mv (v_raw rfl)) rfl rfl rfl ?_
            refine o_yes rfl rfl rfl h9 ?_
            refine o_q (q_neq rfl rfl) rfl rfl rfl ?_
            refine o_q (q_pick_c (t := false) rfl h9 (v_raw rfl)) rfl rfl rfl ?_
            refine o_q (q_mv (v_raw rfl)) rfl rfl rfl ?_
            refine o_cases (want := false) (j := 8) rfl rfl (fun h10 => ?_) (fun h10 => ?_)
            · have k10 := h10; try simp only [decide_eq_true_eq, decide_eq_false_iff_not, Bool.not_eq_true', Bool.not_eq_false', Bool.not_true, Bool.not_false, List.length_map, Decidable.not_not] at k10
              refine o_yes rfl rfl rfl h10 ?_
              refine o_q (q_fr fo45_3 rfl) rfl rfl rfl ?_
              refine o_yes rfl rfl rfl h10 ?_
              refine o_q (q_ldm ag3 sz3 rfl (by repeat first | exact Mem.upd_self _ _ _ | assumption | refine Mem.upd_ne (by assumption) ?_) rfl (v_raw rfl)) rfl rfl rfl ?_
              refine o_yes rfl rfl rfl h10 ?_
              refine o_q (q_mv (v_raw rfl)) rfl rfl rfl ?_
              refine o_yes rfl rfl rfl h10 ?_
              refine o_q (q_mv (v_raw rfl)) rfl rfl rfl ?_
              refine o_yes rfl rfl rfl h10 ?_
              refine o_q (q_add rfl rfl (wrap64 (by omega) (by omega))) rfl rfl rfl ?_
              refine o_yes rfl rfl rfl h10 ?_
              refine o_q (q_neq rfl rfl) rfl rfl rfl ?_
              refine o_q (q_pick_c (t := false) rfl h10 (v_raw rfl)) rfl rfl rfl ?_
              refine o_nil ?_
              refine s_cond rfl (fun h11 => ?_) (fun h11 => ?_)
              · have k11 := h11; try simp only [decide_eq_true_eq, decide_eq_false_iff_not, Bool.not_eq_true', Bool.not_eq_false', Bool.not_true, Bool.not_false, List.length_map, Decidable.not_not] at k11
                exact absurd (show (g : Int) + L = _ by omega) k11
              · have k11 := h11; try simp only [decide_eq_true_eq, decide_eq_false_iff_not, Bool.not_eq_true', Bool.not_eq_false', Bool.not_true, Bool.not_false, List.length_map, Decidable.not_not] at k11
                refine s_skip ?_
                refine s_seq ?_
                refine s_seq ?_
                refine s_region ?_
                refine o_q (q_as (v_raw rfl)) rfl rfl rfl ?_
                refine o_nil ?_
                refine s_block ?_
                refine s_loop (fun m S => ∃ T, ∃ M' : Mem, ∃ k : Nat, S = ⟨setT (setT (setT (setT (setT T 2 (int (g : Nat))) 9 (bool true)) 14 (ptr B1)) 18 (.sl (((List.range' g L).map recP).map enc) false)) 20 (int (k : Nat)), M'⟩ ∧ M.le M' ∧ k ≤ L ∧ m = L - k) L ?_ ?_
                · exact ⟨_, _, 0, St.mkT (kp (kp (kp (kp (kp rfl rfl) rfl) rfl) rfl) rfl).symm, (by repeat first | exact hle | exact Mem.le_refl M | assumption | exact Mem.none_of_le hle (by assumption) | refine Mem.le_upd ?_ ?_), by omega, rfl⟩
                rintro m S ⟨T, M', k, rfl, hle, hk, rfl⟩
                refine s_seq ?_
                refine s_seq ?_
                refine s_region ?_
                refine o_q (q_mv (v_raw rfl)) rfl rfl rfl ?_
                refine o_q (q_mv (v_sl rfl)) rfl rfl rfl ?_
                refine o_q (q_len rfl und28 rfl) rfl rfl rfl ?_
                refine o_q (q_lss rfl rfl) rfl rfl rfl ?_
                refine o_nil ?_
                refine s_cond rfl (fun h12 => ?_) (fun h12 => ?_)
                · have k12 := h12; try simp only [decide_eq_true_eq, decide_eq_false_iff_not, Bool.not_eq_true', Bool.not_eq_false', Bool.not_true, Bool.not_false, List.length_map, Decidable.not_not] at k12
                  refine s_skip ?_
                  refine s_seq ?_
                  refine s_block ?_
                  refine s_seq ?_
                  refine s_region ?_
                  refine o_q (q_mv (v_sl rfl)) rfl rfl rfl ?_
                  refine o_q (q_mv (v_raw rfl)) rfl rfl rfl ?_
                  refine o_q (q_idx und28 sz35 rfl rfl (by omega) (gm (l := (List.range' g L).map recP) k (by first | omega | simp)) rfl) rfl rfl rfl ?_
                  refine o_q (q_f fo35_0 rfl) rfl rfl rfl ?_
                  refine o_q (q_ld ag3 sz3 rfl (gm (l := (List.range' g L).map recP) k (by first | omega | simp)) rfl (v_raw rfl)) rfl rfl rfl ?_
                  refine o_q (q_mv (v_raw rfl)) rfl rfl rfl ?_
                  refine o_q (q_mv (v_raw rfl)) rfl rfl rfl ?_
                  refine o_q (q_add rfl rfl (wrap64 (by omega) (by omega))) rfl rfl rfl ?_
                  refine o_q (q_neq rfl rfl) rfl rfl rfl ?_
                  refine o_nil ?_
                  refine s_cond rfl (fun h13 => ?_) (fun h13 => ?_)
                  · have k13 := h13; try simp only [decide_eq_true_eq, decide_eq_false_iff_not, Bool.not_eq_true', Bool.not_eq_false', Bool.not_true, Bool.not_false, List.length_map, Decidable.not_not] at k13
                    exact absurd ((rng_off _).trans (by omega)) k13
                  · have k13 := h13; try simp only [decide_eq_true_eq, decide_eq_false_iff_not, Bool.not_eq_true', Bool.not_eq_false', Bool.not_true, Bool.not_false, List.length_map, Decidable.not_not] at k13
                    refine s_skip ?_
                    refine s_blk_normal ?_
                    refine s_region ?_
                    refine o_q (q_mv (v_raw rfl)) rfl rfl rfl ?_
                    refine o_q (q_add rfl rfl (wrap64 (by omega) (by omega))) rfl rfl rfl ?_
                    refine o_q (q_as (v_raw rfl)) rfl rfl rfl ?_
                    refine o_nil ?_
                    refine s_inv ?_
                    exact ⟨L - (k + 1), by omega, _, _, k + 1, St.mkT (kp (kp (kp (kp (kp rfl rfl) rfl) rfl) rfl) rfl).symm, hle, by omega, rfl⟩
                · have k12 := h12; try simp only [decide_eq_true_eq, decide_eq_false_iff_not, Bool.not_eq_true', Bool.not_eq_false', Bool.not_true, Bool.not_false, List.length_map, Decidable.not_not] at k12
                  refine s_exit ?_
                  refine s_code_exit ?_
                  refine s_inv_exit ?_
                  refine s_blk_here ?_
                  refine s_seq ?_
                  refine s_region ?_
                  refine o_q (q_mv (v_raw rfl)) rfl rfl rfl ?_
                  refine o_q (q_as (v_raw rfl)) rfl rfl rfl ?_
                  refine o_nil ?_
                  refine s_ret ?_
                  refine s_end ?_
                  exact ⟨rfl, (by repeat first | exact hle | exact Mem.le_refl M | assumption | exact Mem.none_of_le hle (by assumption) | refine Mem.le_upd ?_ ?_)⟩
            · have k10 := h10; try simp only [decide_eq_true_eq, decide_eq_false_iff_not, Bool.not_eq_true', Bool.not_eq_false', Bool.not_true, Bool.not_false, List.length_map, Decidable.not_not] at k10
              exfalso; omega
          · have k9 := h9; try simp only [decide_eq_true_eq, decide_eq_false_iff_not, Bool.not_eq_true', Bool.not_eq_false', Bool.not_true, Bool.not_false, List.length_map, Decidable.not_not] at k9
            first | exact absurd h9 (by decide) | (simp at h9; done) | (simp at h9; omega)
      · have k7 := h7; try simp only [decide_eq_true_eq, decide_eq_false_iff_not, Bool.not_eq_true', Bool.not_eq_false', Bool.not_true, Bool.not_false, List.length_map, Decidable.not_not] at k7
        exact absurd rfl k7
    · have k6 := h6; try simp only [decide_eq_true_eq, decide_eq_false_iff_not, Bool.not_eq_true', Bool.not_eq_false', Bool.not_true, Bool.not_false, List.length_map, Decidable.not_not] at k6
      first | exact absurd h6 (by decide) | (simp at h6; done) | (simp at h6; omega)

def tk5 : Nat → Nat → Option Nat
  | 10, 0 => some 0
  | 18, 0 => some 0
  | 18, 3 => some 0
  | _, _ => none
def pl5 : Nat → List PStep
  | 8 => [.q 0, .q 1, .q 2, .q 3, .q 4, .q 5, .q 6, .q 7, .q 8, .q 9, .q 10, .q 11, .q 12, .q 13, .q 14, .q 15, .q 16, .q 17, .q 18, .q 19, .q 20, .s 21 [19, 18, 17, 16, 14, 13, 12, 11, 9, 8, 7, 6, 4, 3, 2, 1]]
  | _ => []
theorem cb5 : Try.f5.body.map (codeB Try.prog Try.f5.ntmps tk5 pl5) = some true := by kernel_rfl
theorem goes5 : goesB Try.prog 5 = true := by kernel_rfl
-- carillon/carillonlaw15.TopicReads params ['[]carillonlaw15.Deed', 'int', '[]int'] results [['t', 6]] own [92, 12, 94] names ['0:deeds', '1:from', '2:each', '3:deeds', '4:from', '5:each', '7:head', '8:t', '9:_', '10:i', '11:all', '12:own', '13:i', '14:n', '15:l', '16:same'] calls [11, 12, 14, 15, 16, 17] paths 8

theorem atN_once {x : Tp} (h : Once x) (o : Int) : atN x.recs o = min x.recs.length (max o 0).toNat := by
  have hs := once_sorted h
  have h1 := atN_le x.recs o
  rcases Nat.lt_trichotomy (atN x.recs o) (min x.recs.length (max o 0).toNat) with h' | h' | h'
  · exfalso
    have h2 := atN_ge (off := o) hs (i := atN x.recs o) (Nat.le_refl _) (by omega)
    rw [h.off] at h2
    omega
  · exact h'
  · exfalso
    obtain ⟨hi, h2⟩ := atN_lt (l := x.recs) (off := o) (i := min x.recs.length (max o 0).toNat) h'
    rw [h.off] at h2
    omega
theorem take_take_len {α : Type} (l : List α) (k : Nat) : l.take (l.take k).length = l.take k := by
  rw [List.length_take]
  rcases Nat.le_total k l.length with h | h
  · rw [Nat.min_eq_left h]
  · rw [Nat.min_eq_right h, List.take_of_length_le h, List.take_length]
theorem pickE17 {c n : Int} {r : Nat} (M : Mem) (h : pick c n = r) (hn : 0 < n) (hn2 : n < 2 ^ 62) (hc : -2 ^ 63 ≤ c ∧ c < 2 ^ 63) : SoundCall Try.prog 17 [int c, int n] M fun q M' => q = int r ∧ M' = M := by
  have := snd17 c n M hn hn2 hc
  rw [h] at this
  exact this
/-- What stands from the place p on. -/
theorem readL_once {x : Tp} (h : Once x) (o : Int) (k : Int) : readL x.recs o k = (x.recs.drop (min x.recs.length (max o 0).toNat)).take (max k 0).toNat := by
  unfold readL; rw [atN_once h]
/-- All that stands from an offset on. -/
def restF (x : Tp) (fr : Int) : List Rec := x.recs.drop (min x.recs.length (max fr 0).toNat)
theorem restF_read {x : Tp} (h : Once x) (fr : Int) (hl : x.recs.length ≤ 1000) : readL x.recs fr 1000 = restF x fr := by
  rw [readL_once h]
  exact List.take_of_length_le (by rw [List.length_drop]; show _ ≤ 1000; omega)
theorem piece {x : Tp} (h : Once x) {fr o : Int} {j : Nat} (e : Nat) (hj : min x.recs.length (max o 0).toNat = min x.recs.length (max fr 0).toNat + j) : readL x.recs o e = ((restF x fr).drop j).take e := by
  rw [readL_once h, hj, restF, List.drop_drop]
  congr 1
  omega
theorem piece_app {x : Tp} {fr : Int} {j e : Nat} : (restF x fr).take j ++ ((restF x fr).drop j).take e = (restF x fr).take (j + (((restF x fr).drop j).take e).length) := by
  rw [List.take_add, take_take_len]
theorem piece_last {x : Tp} (h : Once x) {fr : Int} {j e i : Nat} (hi : i < (((restF x fr).drop j).take e).length) : (((restF x fr).drop j).take e)[i].off = ((min x.recs.length (max fr 0).toNat + j + i : Nat) : Int) := by
  have hi' := hi
  rw [List.length_take, List.length_drop, restF, List.length_drop] at hi'
  rw [List.getElem_take, List.getElem_drop]
  show ((x.recs.drop (min x.recs.length (max fr 0).toNat))[j + i]'(by rw [List.length_drop]; omega)).off = _
  rw [List.getElem_drop, h.off]
  omega
set_option maxHeartbeats 4000000 in
set_option maxRecDepth 20000 in
theorem snd5 (l : List De) (o : Bool) (fr : Int) (q : List Int) (o2 : Bool) (M : Mem) (hl : l.length < 2 ^ 60) (hfr : -2 ^ 63 ≤ fr ∧ fr < 2 ^ 63) (hql : q.length < 2 ^ 60) (hq : ∀ n ∈ q, -2 ^ 63 ≤ n ∧ n < 2 ^ 63) : SoundCall Try.prog 5 [.sl (l.map encDe) o, int fr, .sl (q.map encI) o2] M fun r M' => r = bool true ∧ M.le M' := by
  have hnew : Once ⟨bs 116, 0, 0, [], []⟩ := once_new _
  refine SoundCall.go tk5 pl5 mixed Try.func5 cb5 rfl (Nat.le_of_ble_eq_true rfl) ?_
  refine s_seq ?_
  refine s_region ?_
  refine o_q (q_as (v_raw rfl)) rfl rfl rfl ?_
  refine o_nil ?_
  refine s_seq ?_
  refine s_region ?_
  refine o_callx (snd11 _) goes11 ac_nil rfl ?_
  rintro r M0 ⟨rfl, hle⟩
  refine o_q (q_as (v_raw rfl)) rfl rfl rfl ?_
  refine o_nil ?_
  refine s_seq ?_
  refine s_region ?_
  refine o_callx (newT (bs 116) _ (by kernel_rfl)) goes12 (ac (v_raw rfl) ac_nil) rfl ?_
  rintro r M' ⟨t, w, ht0, hw0, htw, rfl, rfl⟩
  have htw' := htw.symm
  have ht0' := Mem.none_of_le hle ht0
  have hw0' := Mem.none_of_le hle hw0
  refine o_q (q_mv (v_tup rfl)) rfl rfl rfl ?_
  refine o_q (q_ext rfl rfl ((by first | exact v_raw rfl | exact v_sptr rfl))) rfl rfl rfl ?_
  refine o_q (q_ext rfl rfl (v_raw rfl)) rfl rfl rfl ?_
  refine o_q (q_as ((by first | exact v_raw rfl | exact v_sptr rfl))) rfl rfl rfl ?_
  refine o_q (q_as (v_raw rfl)) rfl rfl rfl ?_
  refine o_nil ?_
  refine s_seq ?_
  refine s_seq ?_
  refine s_region ?_
  refine o_q (q_mv ((by first | exact v_raw rfl | exact v_sptr rfl))) rfl rfl rfl ?_
  refine o_q (q_peql und24 rfl rfl) rfl rfl rfl ?_
  refine o_nil ?_
  refine s_else rfl rfl ?_
  refine s_skip ?_
  refine s_seq ?_
  refine s_seq ?_
  refine s_region ?_
  refine o_q (q_as (v_raw rfl)) rfl rfl rfl ?_
  refine o_nil ?_
  refine s_cut (fun S => ∃ T, ∃ M' : Mem, ∃ x : Tp, S = ⟨setT (setT (setT (setT T 1 (int fr)) 2 (.sl (q.map encI) o2)) 7 (bool true)) 8 (ptr t), M'⟩ ∧ M.le M' ∧ M' t = some (.cells (tpC w x)) ∧ M' w = some (tpK x) ∧ Once x ∧ x.recs.length ≤ 60) ?_ ?_
  · skip
    refine s_block ?_
    refine s_loop (fun m S => ∃ T, ∃ M' : Mem, ∃ x : Tp, ∃ i : Nat, S = ⟨setT (setT (setT (setT (setT (setT T 0 (.sl (l.map encDe) o)) 1 (int fr)) 2 (.sl (q.map encI) o2)) 7 (bool true)) 8 (ptr t)) 10 (int (i : Nat)), M'⟩ ∧ M.le M' ∧ M' t = some (.cells (tpC w x)) ∧ M' w = some (tpK x) ∧ Once x ∧ x.recs.length ≤ i ∧ i ≤ 60 ∧ i ≤ l.length ∧ m = l.length - i) l.length ?_ ?_
    · exact ⟨_, _, ⟨bs 116, 0, 0, [], []⟩, 0, St.mkT (kp (kp (kp (kp (kp (kp rfl rfl) rfl) rfl) rfl) rfl) rfl).symm, (by repeat first | exact hle | exact Mem.le_refl M | assumption | exact Mem.none_of_le hle (by assumption) | refine Mem.le_upd ?_ ?_), (by repeat first | exact Mem.upd_self _ _ _ | assumption | refine Mem.upd_ne (by assumption) ?_), (by repeat first | exact Mem.upd_self _ _ _ | assumption | refine Mem.upd_ne (by assumption) ?_), hnew, by simp, by omega, by omega, rfl⟩
    rintro m S ⟨T, M', x, i, rfl, hle, ht, hw, hO, hri, hi60, hil, rfl⟩
    refine s_seq ?_
    refine s_seq ?_
    refine s_region ?_
    refine o_q (q_mv (v_raw rfl)) rfl rfl rfl ?_
    refine o_q (q_mv (v_sl rfl)) rfl rfl rfl ?_
    refine o_q (q_len rfl und22 rfl) rfl rfl rfl ?_
    refine o_q (q_lss rfl rfl) rfl rfl rfl ?_
    refine o_q (q_mv (v_raw rfl)) rfl rfl rfl ?_
    refine o_cases (want := true) (j := 4) rfl rfl (fun h1 => ?_) (fun h1 => ?_)
    · have k1 := h1; try simp only [decide_eq_true_eq, decide_eq_false_iff_not, Bool.not_eq_true', Bool.not_eq_false', Bool.not_true, Bool.not_false, List.length_map, Decidable.not_not] at k1
      refine o_yes rfl rfl rfl h1 ?_
      refine o_q (q_mv (v_raw rfl)) rfl rfl rfl ?_
      refine o_yes rfl rfl rfl h1 ?_
      refine o_q (q_lss rfl rfl) rfl rfl rfl ?_
      refine o_q (q_pick_c (t := true) rfl h1 (v_raw rfl)) rfl rfl rfl ?_
      refine o_nil ?_
      refine s_cond rfl (fun h2 => ?_) (fun h2 => ?_)
      · have k2 := h2; try simp only [decide_eq_true_eq, decide_eq_false_iff_not, Bool.not_eq_true', Bool.not_eq_false', Bool.not_true, Bool.not_false, List.length_map, Decidable.not_not] at k2
        obtain ⟨y, n, c, hy⟩ : ∃ y n c, pub x l[i].prod l[i].seq l[i].key l[i].val = (y, n, c) := ⟨_, _, _, rfl⟩
        have hP := once_pub hO hy
        have hxe := hO.en
        have hyl : y.recs.length ≤ x.recs.length + 1 := by
          rcases hP.2 with ⟨-, a, -⟩ | ⟨-, a, -⟩ | ⟨-, a, -⟩ <;> rw [a] <;> simp
        refine s_skip ?_
        refine s_seq ?_
        refine s_block ?_
        refine s_draw rfl ?_
        refine d_q rfl (q_mv ((by first | exact v_raw rfl | exact v_sptr rfl))) rfl rfl rfl ?_
        refine d_q rfl (q_mv (v_sl rfl)) rfl rfl rfl ?_
        refine d_q rfl (q_mv (v_raw rfl)) rfl rfl rfl ?_
        refine d_q rfl (q_idx und22 sz30 rfl rfl (by omega) (gm i (by first | omega | simp)) rfl) rfl rfl rfl ?_
        refine d_q rfl (q_f fo30_1 rfl) rfl rfl rfl ?_
        refine d_q rfl (q_ld ag9 sz9 rfl (gm i (by first | omega | simp)) rfl (v_raw rfl)) rfl rfl rfl ?_
        refine d_q rfl (q_mv (v_sl rfl)) rfl rfl rfl ?_
        refine d_q rfl (q_mv (v_raw rfl)) rfl rfl rfl ?_
        refine d_q rfl (q_idx und22 sz30 rfl rfl (by omega) (gm i (by first | omega | simp)) rfl) rfl rfl rfl ?_
        refine d_q rfl (q_f fo30_2 rfl) rfl rfl rfl ?_
        refine d_q rfl (q_ld ag3 sz3 rfl (gm i (by first | omega | simp)) rfl (v_raw rfl)) rfl rfl rfl ?_
        refine d_q rfl (q_mv (v_sl rfl)) rfl rfl rfl ?_
        refine d_q rfl (q_mv (v_raw rfl)) rfl rfl rfl ?_
        refine d_q rfl (q_idx und22 sz30 rfl rfl (by omega) (gm i (by first | omega | simp)) rfl) rfl rfl rfl ?_
        refine d_q rfl (q_f fo30_3 rfl) rfl rfl rfl ?_
        refine d_q rfl (q_ld ag9 sz9 rfl (gm i (by first | omega | simp)) rfl (v_raw rfl)) rfl rfl rfl ?_
        refine d_q rfl (q_mv (v_sl rfl)) rfl rfl rfl ?_
        refine d_q rfl (q_mv (v_raw rfl)) rfl rfl rfl ?_
        refine d_q rfl (q_idx und22 sz30 rfl rfl (by omega) (gm i (by first | omega | simp)) rfl) rfl rfl rfl ?_
        refine d_q rfl (q_f fo30_4 rfl) rfl rfl rfl ?_
        refine d_q rfl (q_ld ag9 sz9 rfl (gm i (by first | omega | simp)) rfl (v_raw rfl)) rfl rfl rfl ?_
        refine d_s rfl ?_
        refine o_callx ((pubE t w _ hy (by repeat first | exact Mem.upd_self _ _ _ | assumption | refine Mem.upd_ne (by assumption) ?_) (by repeat first | exact Mem.upd_self _ _ _ | assumption | refine Mem.upd_ne (by assumption) ?_) htw (by omega) (by omega))) goes14 (ac ((by first | exact v_raw rfl | exact v_sptr rfl)) (ac (v_raw rfl) (ac (v_raw rfl) (ac (v_raw rfl) (ac (v_raw rfl) ac_nil))))) rfl ?_
        rintro r M' ⟨rfl, rfl⟩
        refine o_nil ⟨(by simp [Mem.upd, *]), ?_⟩
        refine d_nil ?_
        refine s_blk_normal ?_
        refine s_region ?_
        refine o_q (q_mv (v_raw rfl)) rfl rfl rfl ?_
        refine o_q (q_add rfl rfl (wrap64 (by omega) (by omega))) rfl rfl rfl ?_
        refine o_q (q_as (v_raw rfl)) rfl rfl rfl ?_
        refine o_nil ?_
        refine s_inv ?_
        exact ⟨l.length - (i + 1), by omega, _, _, y, i + 1, St.mkT (kp (kp (kp (kp (kp (kp rfl rfl) rfl) rfl) rfl) rfl) rfl).symm, (by repeat first | exact hle | exact Mem.le_refl M | assumption | exact Mem.none_of_le hle (by assumption) | refine Mem.le_upd ?_ ?_), (by repeat first | exact Mem.upd_self _ _ _ | assumption | refine Mem.upd_ne (by assumption) ?_), (by repeat first | exact Mem.upd_self _ _ _ | assumption | refine Mem.upd_ne (by assumption) ?_), hP.1, by omega, by omega, by omega, rfl⟩
      · have k2 := h2; try simp only [decide_eq_true_eq, decide_eq_false_iff_not, Bool.not_eq_true', Bool.not_eq_false', Bool.not_true, Bool.not_false, List.length_map, Decidable.not_not] at k2
        refine s_exit ?_
        refine s_code_exit ?_
        refine s_inv_exit ?_
        refine s_blk_here ?_
        refine s_inv ?_
        exact ⟨_, _, x, St.mkT (kp (kp (kp (kp rfl rfl) rfl) rfl) rfl).symm, hle, ht, hw, hO, by omega⟩
    · have k1 := h1; try simp only [decide_eq_true_eq, decide_eq_false_iff_not, Bool.not_eq_true', Bool.not_eq_false', Bool.not_true, Bool.not_false, List.length_map, Decidable.not_not] at k1
      refine o_no rfl rfl rfl rfl h1 ?_
      refine o_no rfl rfl rfl rfl h1 ?_
      refine o_q (q_pick_c (t := false) rfl h1 (v_raw rfl)) rfl rfl rfl ?_
      refine o_nil ?_
      refine s_else rfl rfl ?_
      refine s_exit ?_
      refine s_code_exit ?_
      refine s_inv_exit ?_
      refine s_blk_here ?_
      refine s_inv ?_
      exact ⟨_, _, x, St.mkT (kp (kp (kp (kp rfl rfl) rfl) rfl) rfl).symm, hle, ht, hw, hO, by omega⟩
  rintro S ⟨T, M', x, rfl, hle, ht, hw, hO, hr60⟩
  have hxe := hO.en
  have hall := restF_read hO fr (by omega)
  refine s_seq ?_
  refine s_region ?_
  refine o_q (q_mv ((by first | exact v_raw rfl | exact v_sptr rfl))) rfl rfl rfl ?_
  refine o_q (q_mv (v_raw rfl)) rfl rfl rfl ?_
  refine o_call ((readE t w _ hall (by repeat first | exact Mem.upd_self _ _ _ | assumption | refine Mem.upd_ne (by assumption) ?_) (once_sorted hO) (by omega))) goes15 (ac ((by first | exact v_raw rfl | exact v_sptr rfl)) (ac (v_raw rfl) (ac (v_raw rfl) ac_nil))) rfl ?_
  refine o_q (q_as (v_sl rfl)) rfl rfl rfl ?_
  refine o_nil ?_
  refine s_seq ?_
  refine s_region ?_
  refine o_q (q_as_const rfl) rfl rfl rfl ?_
  refine o_nil ?_
  refine s_seq ?_
  refine s_seq ?_
  refine s_region ?_
  refine o_q (q_as (v_raw rfl)) rfl rfl rfl ?_
  refine o_nil ?_
  refine s_cut (fun S => ∃ T, ∃ M' : Mem, ∃ j : Nat, S = ⟨setT (setT (setT T 7 (bool true)) 11 (.sl ((restF x fr).map enc) false)) 12 (.sl (((restF x fr).take j).map enc) true), M'⟩ ∧ M.le M' ∧ j ≤ (restF x fr).length) ?_ ?_
  · skip
    refine s_block ?_
    refine s_loop (fun m S => ∃ T, ∃ M' : Mem, ∃ c : Int, ∃ j i : Nat, S = ⟨setT (setT (setT (setT (setT (setT (setT T 1 (int c)) 2 (.sl (q.map encI) o2)) 7 (bool true)) 8 (ptr t)) 11 (.sl ((restF x fr).map enc) false)) 12 (.sl (((restF x fr).take j).map enc) true)) 13 (int (i : Nat)), M'⟩ ∧ M.le M' ∧ M' t = some (.cells (tpC w x)) ∧ M' w = some (tpK x) ∧ min x.recs.length (max c 0).toNat = min x.recs.length (max fr 0).toNat + j ∧ i ≤ q.length ∧ m = q.length - i) q.length ?_ ?_
    · exact ⟨_, _, fr, 0, 0, St.mkT (kp (kp (kp (kp (kp (kp (kp rfl rfl) rfl) rfl) rfl) rfl) rfl) rfl).symm, hle, ht, hw, by omega, by omega, rfl⟩
    rintro m S ⟨T, M', c, j, i, rfl, hle, ht, hw, hj, hi, rfl⟩
    refine s_seq ?_
    refine s_seq ?_
    refine s_region ?_
    refine o_q (q_mv (v_raw rfl)) rfl rfl rfl ?_
    refine o_q (q_mv (v_sl rfl)) rfl rfl rfl ?_
    refine o_q (q_len rfl und42 rfl) rfl rfl rfl ?_
    refine o_q (q_lss rfl rfl) rfl rfl rfl ?_
    refine o_q (q_mv (v_raw rfl)) rfl rfl rfl ?_
    refine o_cases (want := true) (j := 4) rfl rfl (fun h3 => ?_) (fun h3 => ?_)
    · have k3 := h3; try simp only [decide_eq_true_eq, decide_eq_false_iff_not, Bool.not_eq_true', Bool.not_eq_false', Bool.not_true, Bool.not_false, List.length_map, Decidable.not_not] at k3
      refine o_yes rfl rfl rfl h3 ?_
      refine o_q (q_mv (v_raw rfl)) rfl rfl rfl ?_
      refine o_yes rfl rfl rfl h3 ?_
      refine o_q (q_lss rfl rfl) rfl rfl rfl ?_
      refine o_q (q_pick_c (t := true) rfl h3 (v_raw rfl)) rfl rfl rfl ?_
      refine o_nil ?_
      refine s_cond rfl (fun h4 => ?_) (fun h4 => ?_)
      · have k4 := h4; try simp only [decide_eq_true_eq, decide_eq_false_iff_not, Bool.not_eq_true', Bool.not_eq_false', Bool.not_true, Bool.not_false, List.length_map, Decidable.not_not] at k4
        have hqi := hq q[i] (List.getElem_mem _)
        obtain ⟨e, he, he2⟩ := pickN q[i] 8 (by decide)
        have hpc := piece hO e hj
        have hlA : (List.map enc (restF x fr)).length = (restF x fr).length := List.length_map _
        have hlD : (restF x fr).length = x.recs.length - min x.recs.length (max fr 0).toNat := by rw [restF, List.length_drop]
        have hlT : (List.map enc ((restF x fr).take j)).length = j := by rw [List.length_map, List.length_take]; omega
        have hlT2 : ((restF x fr).take j).length = j := by rw [List.length_take]; omega
        have hlL : (List.map enc (((restF x fr).drop j).take e)).length = (((restF x fr).drop j).take e).length := List.length_map _
        have hlM : (((restF x fr).drop j).take e).length = min e ((restF x fr).length - j) := by rw [List.length_take, List.length_drop]
        refine s_skip ?_
        refine s_seq ?_
        refine s_block ?_
        refine s_seq ?_
        refine s_region ?_
        refine o_q (q_mv (v_sl rfl)) rfl rfl rfl ?_
        refine o_q (q_mv (v_raw rfl)) rfl rfl rfl ?_
        refine o_q (q_idx und42 sz3 rfl rfl (by omega) (gm i (by first | omega | simp)) rfl) rfl rfl rfl ?_
        refine o_q (q_ld ag3 sz3 rfl (gm i (by first | omega | simp)) rfl (v_raw rfl)) rfl rfl rfl ?_
        refine o_call ((pickE17 _ he (by decide) (by decide) hqi)) goes17 (ac (v_raw rfl) (ac (v_raw rfl) ac_nil)) rfl ?_
        refine o_q (q_as (v_raw rfl)) rfl rfl rfl ?_
        refine o_nil ?_
        refine s_seq ?_
        refine s_region ?_
        refine o_q (q_mv ((by first | exact v_raw rfl | exact v_sptr rfl))) rfl rfl rfl ?_
        refine o_q (q_mv (v_raw rfl)) rfl rfl rfl ?_
        refine o_q (q_mv (v_raw rfl)) rfl rfl rfl ?_
        refine o_call ((readE t w _ hpc (by repeat first | exact Mem.upd_self _ _ _ | assumption | refine Mem.upd_ne (by assumption) ?_) (once_sorted hO) (by omega))) goes15 (ac ((by first | exact v_raw rfl | exact v_sptr rfl)) (ac (v_raw rfl) (ac (v_raw rfl) ac_nil))) rfl ?_
        refine o_q (q_as (v_sl rfl)) rfl rfl rfl ?_
        refine o_nil ?_
        refine s_seq ?_
        refine s_seq ?_
        refine s_region ?_
        refine o_q (q_mv (v_sl rfl)) rfl rfl rfl ?_
        refine o_q (q_len rfl und28 rfl) rfl rfl rfl ?_
        refine o_q (q_mv (v_raw rfl)) rfl rfl rfl ?_
        refine o_q (q_gtr rfl rfl) rfl rfl rfl ?_
        refine o_q (q_mv (v_raw rfl)) rfl rfl rfl ?_
        refine o_cases (want := false) (j := 4) rfl rfl (fun h5 => ?_) (fun h5 => ?_)
        · have k5 := h5; try simp only [decide_eq_true_eq, decide_eq_false_iff_not, Bool.not_eq_true', Bool.not_eq_false', Bool.not_true, Bool.not_false, List.length_map, Decidable.not_not] at k5
          refine o_yes rfl rfl rfl h5 ?_
          refine o_q (q_mv (v_sl rfl)) rfl rfl rfl ?_
          refine o_yes rfl rfl rfl h5 ?_
          refine o_q (q_len rfl und28 rfl) rfl rfl rfl ?_
          refine o_yes rfl rfl rfl h5 ?_
          refine o_q (q_mv (v_sl rfl)) rfl rfl rfl ?_
          refine o_yes rfl rfl rfl h5 ?_
          refine o_q (q_len rfl und28 rfl) rfl rfl rfl ?_
          refine o_yes rfl rfl rfl h5 ?_
          refine o_q (q_add rfl rfl (wrap64 (by omega) (by omega))) rfl rfl rfl ?_
          refine o_yes rfl rfl rfl h5 ?_
          refine o_q (q_mv (v_sl rfl)) rfl rfl rfl ?_
          refine o_yes rfl rfl rfl h5 ?_
          refine o_q (q_len rfl und28 rfl) rfl rfl rfl ?_
          refine o_yes rfl rfl rfl h5 ?_
          refine o_q (q_gtr rfl rfl) rfl rfl rfl ?_
          refine o_q (q_pick_c (t := false) rfl h5 (v_raw rfl)) rfl rfl rfl ?_
          refine o_nil ?_
          refine s_cond rfl (fun h6 => ?_) (fun h6 => ?_)
          · have k6 := h6; try simp only [decide_eq_true_eq, decide_eq_false_iff_not, Bool.not_eq_true', Bool.not_eq_false', Bool.not_true, Bool.not_false, List.length_map, Decidable.not_not] at k6
            exfalso; omega
          · have k6 := h6; try simp only [decide_eq_true_eq, decide_eq_false_iff_not, Bool.not_eq_true', Bool.not_eq_false', Bool.not_true, Bool.not_false, List.length_map, Decidable.not_not] at k6
            refine s_skip ?_
            refine s_seq ?_
            refine s_region ?_
            refine o_qs (q_mv_own rfl) rfl rfl rfl rfl ?_
            refine o_q (q_mv (v_sl rfl)) rfl rfl rfl ?_
            refine o_qs (q_app slt28 rfl rfl rfl rfl elsR (by first | exact elsR | exact Els.cons rfl rfl Els.nil) (by first | omega | (rw [hlT, hlL]; omega) | (simp; omega))) rfl rfl rfl rfl ?_
            refine o_qs (q_as_own rfl) rfl rfl rfl rfl ?_
            refine o_nil ?_
            refine s_seq ?_
            refine s_region ?_
            refine o_q (q_mv (v_sl rfl)) rfl rfl rfl ?_
            refine o_q (q_len rfl und28 rfl) rfl rfl rfl ?_
            refine o_q (q_gtr rfl rfl) rfl rfl rfl ?_
            refine o_nil ?_
            refine s_cond rfl (fun h7 => ?_) (fun h7 => ?_)
            · have k7 := h7; try simp only [decide_eq_true_eq, decide_eq_false_iff_not, Bool.not_eq_true', Bool.not_eq_false', Bool.not_true, Bool.not_false, List.length_map, Decidable.not_not] at k7
              have hix : (((List.map enc (((restF x fr).drop j).take e)).length : Int) - 1).toNat < (((restF x fr).drop j).take e).length := by omega
              have hlo := piece_last hO hix
              refine s_region ?_
              refine o_q (q_mv (v_sl rfl)) rfl rfl rfl ?_
              refine o_q (q_mv (v_sl rfl)) rfl rfl rfl ?_
              refine o_q (q_len rfl und28 rfl) rfl rfl rfl ?_
              refine o_q (q_sub rfl rfl (wrap64 (by omega) (by omega))) rfl rfl rfl ?_
              refine o_q (q_idx und28 sz35 rfl rfl (by omega) (gm _ (by first | omega | simp)) rfl) rfl rfl rfl ?_
              refine o_q (q_f fo35_0 rfl) rfl rfl rfl ?_
              refine o_q (q_ld ag3 sz3 rfl (gm _ (by first | omega | simp)) rfl (v_raw rfl)) rfl rfl rfl ?_
              refine o_q (q_add rfl rfl (wrap64 (by omega) (by omega))) rfl rfl rfl ?_
              refine o_q (q_as (v_raw rfl)) rfl rfl rfl ?_
              refine o_nil ?_
              refine s_blk_normal ?_
              refine s_region ?_
              refine o_q (q_mv (v_raw rfl)) rfl rfl rfl ?_
              refine o_q (q_add rfl rfl (wrap64 (by omega) (by omega))) rfl rfl rfl ?_
              refine o_q (q_as (v_raw rfl)) rfl rfl rfl ?_
              refine o_nil ?_
              refine s_inv ?_
              exact ⟨q.length - (i + 1), by omega, _, _, (((restF x fr).drop j).take e)[(((List.map enc (((restF x fr).drop j).take e)).length : Int) - 1).toNat].off + 1, j + (((restF x fr).drop j).take e).length, i + 1, St.mkT (kp (kp (kp (kp (kp (kp (kp rfl rfl) rfl) rfl) rfl) rfl) (show AVal.sl (((restF x fr).take j).map enc ++ (((restF x fr).drop j).take e).map enc) true = .sl (((restF x fr).take (j + (((restF x fr).drop j).take e).length)).map enc) true from by rw [← List.map_append, piece_app])) rfl).symm, hle, ht, hw, by omega, by omega, rfl⟩
            · have k7 := h7; try simp only [decide_eq_true_eq, decide_eq_false_iff_not, Bool.not_eq_true', Bool.not_eq_false', Bool.not_true, Bool.not_false, List.length_map, Decidable.not_not] at k7
              refine s_skip ?_
              refine s_blk_normal ?_
              refine s_region ?_
              refine o_q (q_mv (v_raw rfl)) rfl rfl rfl ?_
              refine o_q (q_add rfl rfl (wrap64 (by omega) (by omega))) rfl rfl rfl ?_
              refine o_q (q_as (v_raw rfl)) rfl rfl rfl ?_
              refine o_nil ?_
              refine s_inv ?_
              exact ⟨q.length - (i + 1), by omega, _, _, c, j + (((restF x fr).drop j).take e).length, i + 1, St.mkT (kp (kp (kp (kp (kp (kp (kp rfl rfl) rfl) rfl) rfl) rfl) (show AVal.sl (((restF x fr).take j).map enc ++ (((restF x fr).drop j).take e).map enc) true = .sl (((restF x fr).take (j + (((restF x fr).drop j).take e).length)).map enc) true from by rw [← List.map_append, piece_app])) rfl).symm, hle, ht, hw, by omega, by omega, rfl⟩
        · have k5 := h5; try simp only [decide_eq_true_eq, decide_eq_false_iff_not, Bool.not_eq_true', Bool.not_eq_false', Bool.not_true, Bool.not_false, List.length_map, Decidable.not_not] at k5
          exfalso; omega
      · have k4 := h4; try simp only [decide_eq_true_eq, decide_eq_false_iff_not, Bool.not_eq_true', Bool.not_eq_false', Bool.not_true, Bool.not_false, List.length_map, Decidable.not_not] at k4
        refine s_exit ?_
        refine s_code_exit ?_
        refine s_inv_exit ?_
        refine s_blk_here ?_
        refine s_inv ?_
        exact ⟨_, _, j, St.mkT (kp (kp (kp rfl rfl) rfl) rfl).symm, hle, by rw [restF, List.length_drop]; omega⟩
    · have k3 := h3; try simp only [decide_eq_true_eq, decide_eq_false_iff_not, Bool.not_eq_true', Bool.not_eq_false', Bool.not_true, Bool.not_false, List.length_map, Decidable.not_not] at k3
      refine o_no rfl rfl rfl rfl h3 ?_
      refine o_no rfl rfl rfl rfl h3 ?_
      refine o_q (q_pick_c (t := false) rfl h3 (v_raw rfl)) rfl rfl rfl ?_
      refine o_nil ?_
      refine s_else rfl rfl ?_
      refine s_exit ?_
      refine s_code_exit ?_
      refine s_inv_exit ?_
      refine s_blk_here ?_
      refine s_inv ?_
      exact ⟨_, _, j, St.mkT (kp (kp (kp rfl rfl) rfl) rfl).symm, hle, by rw [restF, List.length_drop]; omega⟩
  rintro S ⟨T, M', j, rfl, hle, hj⟩
  have hlT : (List.map enc ((restF x fr).take j)).length = j := by rw [List.length_map, List.length_take]; omega
  have hlD : (restF x fr).length = x.recs.length - min x.recs.length (max fr 0).toNat := by rw [restF, List.length_drop]
  refine s_seq ?_
  refine s_region ?_
  refine o_q (q_mv (v_sl rfl)) rfl rfl rfl ?_
  refine o_q (q_mv (v_sl rfl)) rfl rfl rfl ?_
  refine o_q (q_mv (v_sl rfl)) rfl rfl rfl ?_
  refine o_q (q_len rfl und28 rfl) rfl rfl rfl ?_
  refine o_q (q_sl_hi (n := j) und28 sz35 rfl elsR (ab rfl (by omega)) (by first | omega | (rw [hlT, hlL]; omega) | (simp; omega))) rfl rfl rfl ?_
  refine o_call ((snd16 ((restF x fr).take j) ((restF x fr).take j) _ _ _ (by rw [List.length_take]; omega))) goes16 (ac (v_sl rfl) (ac (v_sl rfl) ac_nil)) rfl ?_
  refine o_q (q_as (v_raw rfl)) rfl rfl rfl ?_
  refine o_nil ?_
  refine s_seq ?_
  refine s_region ?_
  refine o_q (q_mv (v_raw rfl)) rfl rfl rfl ?_
  refine o_q (q_mv (v_raw rfl)) rfl rfl rfl ?_
  refine o_yes rfl rfl rfl rfl ?_
  refine o_q (q_mv (v_raw rfl)) rfl rfl rfl ?_
  refine o_q (q_pick_c (t := true) rfl rfl (v_raw rfl)) rfl rfl rfl ?_
  refine o_q (q_as (v_raw rfl)) rfl rfl rfl ?_
  refine o_nil ?_
  refine s_ret ?_
  refine s_end ?_
  refine ⟨congrArg (fun b => AVal.raw (.bool b)) ?_, (by repeat first | exact hle | exact Mem.le_refl M | assumption | exact Mem.none_of_le hle (by assumption) | refine Mem.le_upd ?_ ?_)⟩
  exact decide_eq_true rfl
end C15
