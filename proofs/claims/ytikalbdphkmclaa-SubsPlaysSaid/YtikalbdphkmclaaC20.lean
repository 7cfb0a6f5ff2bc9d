import Derived.Test.YtikalbdphkmclaaC19
/-! The document's answers of chapters 15 and 16, walked. -/
open Go Go.Proofs Go.Am
set_option linter.unusedVariables false
set_option linter.unusedSimpArgs false
set_option autoImplicit false
namespace C15
theorem ag61 : aggT Try.prog 61 = some true := by kernel_rfl
theorem ag96 : aggT Try.prog 96 = some false := by kernel_rfl
theorem ag102 : aggT Try.prog 102 = some true := by kernel_rfl
theorem bz61 : (zeroT Try.prog 61).map (fun z => z.cells.toList.map AVal.raw) = some [.raw (.string { data := #[] }), .raw (.string { data := #[] }), .raw (.int .i64 0), .raw (.int .i64 0)] := by kernel_rfl
theorem bp61 : (aPlaces Try.prog 61).isSome = true := by kernel_rfl
theorem bz98 : (zeroT Try.prog 98).map (fun z => z.cells.toList.map AVal.raw) = some [.raw (.string { data := #[] }), .raw (.int .i64 0), .raw (.int .i64 0), .raw (.slice none 0 0), .raw (.slice none 0 0)] := by kernel_rfl
theorem bp98 : (aPlaces Try.prog 98).isSome = true := by kernel_rfl
theorem bz102 : (zeroT Try.prog 102).map (fun z => z.cells.toList.map AVal.raw) = some [.raw (.string { data := #[] }), .raw (.int .i64 0), .raw (.int .i64 0)] := by kernel_rfl
theorem bp102 : (aPlaces Try.prog 102).isSome = true := by kernel_rfl
theorem fo61_0 : fo Try.prog 61 0 = some (0, 1) := by kernel_rfl
theorem fo61_1 : fo Try.prog 61 1 = some (1, 1) := by kernel_rfl
theorem fo61_2 : fo Try.prog 61 2 = some (2, 1) := by kernel_rfl
theorem fo61_3 : fo Try.prog 61 3 = some (3, 1) := by kernel_rfl
theorem fo98_0 : fo Try.prog 98 0 = some (0, 1) := by kernel_rfl
theorem fo98_1 : fo Try.prog 98 1 = some (1, 1) := by kernel_rfl
theorem fo98_2 : fo Try.prog 98 2 = some (2, 1) := by kernel_rfl
theorem fo98_3 : fo Try.prog 98 3 = some (3, 1) := by kernel_rfl
theorem fo98_4 : fo Try.prog 98 4 = some (4, 1) := by kernel_rfl
theorem fo102_0 : fo Try.prog 102 0 = some (0, 1) := by kernel_rfl
theorem fo102_1 : fo Try.prog 102 1 = some (1, 1) := by kernel_rfl
theorem fo102_2 : fo Try.prog 102 2 = some (2, 1) := by kernel_rfl
theorem slt96 : SlT Try.prog 96 102 3 32 := ⟨by kernel_rfl, by kernel_rfl, by kernel_rfl, by kernel_rfl, by decide⟩
theorem sz61 : sizeT Try.prog 61 = some 4 := by kernel_rfl
theorem sz96 : sizeT Try.prog 96 = some 1 := by kernel_rfl
theorem sz102 : sizeT Try.prog 102 = some 3 := by kernel_rfl
theorem und96 : Try.prog.underlying 96 = some (.slice 102) := by kernel_rfl
theorem zc61 : zeroCellsT Try.prog 61 = some [.raw (.string { data := #[] }), .raw (.string { data := #[] }), .raw (.int .i64 0), .raw (.int .i64 0)] := by kernel_rfl
theorem zc102 : zeroCellsT Try.prog 102 = some [.raw (.string { data := #[] }), .raw (.int .i64 0), .raw (.int .i64 0)] := by kernel_rfl

def tk52 : Nat → Nat → Option Nat := fun _ _ => none
def pl52 : Nat → List PStep := fun _ => []
theorem cb52 : Try.f52.body.map (codeB Try.prog Try.f52.ntmps tk52 pl52) = some true := by kernel_rfl
theorem goes52 : goesB Try.prog 52 = true := by kernel_rfl
-- carillon/carillonref14.Word params ['string'] results [['t', 2]] own [] names ['0:s', '1:s', '3:i'] calls [] paths 10

theorem word_F {s : ByteArray} {i : Nat} (hi : i < s.size) (h : wordC ((s.data[i]'hi).toNat : Int) = false) : word s = false := by
  unfold word
  rw [allF hi h, Bool.and_false]
theorem word_T {s : ByteArray} (h : ∀ j, ∀ hj : j < s.size, j < s.size → wordC (s.data[j]'hj).toNat = true) : word s = (decide (1 ≤ s.size) && decide (s.size ≤ 20)) := by
  unfold word
  rw [allT h (Nat.le_refl _), Bool.and_true]
  congr 1
  by_cases e : s.size = 0
  · have : s = emp := by
      have h1 : s.data = #[] := Array.eq_empty_of_size_eq_zero e
      cases s; simp only at h1; subst h1; rfl
    subst this; rfl
  · have : s ≠ emp := fun h' => e (by subst h'; rfl)
    rw [decide_eq_true this, decide_eq_true (by omega)]
/-- The document's topic: the same, with its producers in a list. -/
def prs (v : Nat) : List Int := match v with | 0 => [] | k + 1 => [(k : Int)]
def encPr (k : Int) : AVal := .agg [str (bs 112), int k, int k]
theorem elsPr {l : List Int} : Els 3 (l.map encPr) := Els.map fun _ => ⟨rfl, rfl⟩
def ryC (v : Nat) (x : Tp) : List AVal := [str x.name, int x.low, int x.en, .sl ((prs v).map encPr) true, .sl (x.recs.map enc) true]
set_option maxHeartbeats 4000000 in
set_option maxRecDepth 20000 in
theorem snd52 (s : ByteArray) (M : Mem) (hs : s.size < 2 ^ 63) : SoundCall Try.prog 52 [str s] M fun r M' => r = bool (word s) ∧ M' = M := by
  refine SoundCall.go tk52 pl52 mixed Try.func52 cb52 rfl (Nat.le_of_ble_eq_true rfl) ?_
  refine s_seq ?_
  refine s_region ?_
  refine o_q (q_as (v_raw rfl)) rfl rfl rfl ?_
  refine o_nil ?_
  refine s_seq ?_
  refine s_seq ?_
  refine s_region ?_
  refine o_q (q_as (v_raw rfl)) rfl rfl rfl ?_
  refine o_nil ?_
  refine s_cut (fun S => ∃ T, S = ⟨setT T 0 (str s), M⟩ ∧ word s = (decide (1 ≤ s.size) && decide (s.size ≤ 20))) ?_ ?_
  · skip
    refine s_block ?_
    refine s_loop (fun m S => ∃ T, ∃ i : Nat, S = ⟨setT (setT T 0 (str s)) 3 (int (i : Nat)), M⟩ ∧ (∀ j, ∀ hj : j < s.size, j < i → wordC (s.data[j]'hj).toNat = true) ∧ i ≤ s.size ∧ m = s.size - i) s.size ?_ ?_
    · exact ⟨_, 0, St.mkT (kp (kp rfl rfl) rfl).symm, fun j _ h => by omega, by omega, rfl⟩
    rintro m S ⟨T, i, rfl, hok, hi, rfl⟩
    refine s_seq ?_
    refine s_seq ?_
    refine s_region ?_
    refine o_q (q_mv (v_raw rfl)) rfl rfl rfl ?_
    refine o_q (q_mv (v_raw rfl)) rfl rfl rfl ?_
    refine o_q (q_lens rfl und9 rfl) rfl rfl rfl ?_
    refine o_q (q_lss rfl rfl) rfl rfl rfl ?_
    refine o_nil ?_
    refine s_cond rfl (fun h1 => ?_) (fun h1 => ?_)
    · have k1 := h1; try simp only [decide_eq_true_eq, decide_eq_false_iff_not, Bool.not_eq_true', Bool.not_eq_false', Bool.not_true, Bool.not_false, List.length_map, Decidable.not_not] at k1
      refine s_skip ?_
      refine s_seq ?_
      refine s_block ?_
      refine s_seq ?_
      refine s_region ?_
      refine o_q (q_mv (v_raw rfl)) rfl rfl rfl ?_
      refine o_q (q_mv (v_raw rfl)) rfl rfl rfl ?_
      refine o_q (q_stri und9 rfl rfl rfl (by omega)) rfl rfl rfl ?_
      refine o_q (q_geq rfl rfl) rfl rfl rfl ?_
      refine o_q (q_mv (v_raw rfl)) rfl rfl rfl ?_
      refine o_cases (want := true) (j := 4) rfl rfl (fun h2 => ?_) (fun h2 => ?_)
      · have k2 := h2; try simp only [decide_eq_true_eq, decide_eq_false_iff_not, Bool.not_eq_true', Bool.not_eq_false', Bool.not_true, Bool.not_false, List.length_map, Decidable.not_not] at k2
        refine o_yes rfl rfl rfl h2 ?_
        refine o_q (q_mv (v_raw rfl)) rfl rfl rfl ?_
        refine o_yes rfl rfl rfl h2 ?_
        refine o_q (q_mv (v_raw rfl)) rfl rfl rfl ?_
        refine o_yes rfl rfl rfl h2 ?_
        refine o_q (q_stri und9 rfl rfl rfl (by omega)) rfl rfl rfl ?_
        refine o_yes rfl rfl rfl h2 ?_
        refine o_q (q_leq rfl rfl) rfl rfl rfl ?_
        refine o_q (q_pick_c (t := true) rfl h2 (v_raw rfl)) rfl rfl rfl ?_
        refine o_q (q_mv (v_raw rfl)) rfl rfl rfl ?_
        refine o_cases (want := false) (j := 10) rfl rfl (fun h3 => ?_) (fun h3 => ?_)
        · have k3 := h3; try simp only [decide_eq_true_eq, decide_eq_false_iff_not, Bool.not_eq_true', Bool.not_eq_false', Bool.not_true, Bool.not_false, List.length_map, Decidable.not_not] at k3
          refine o_yes rfl rfl rfl h3 ?_
          refine o_q (q_mv (v_raw rfl)) rfl rfl rfl ?_
          refine o_yes rfl rfl rfl h3 ?_
          refine o_q (q_mv (v_raw rfl)) rfl rfl rfl ?_
          refine o_yes rfl rfl rfl h3 ?_
          refine o_q (q_stri und9 rfl rfl rfl (by omega)) rfl rfl rfl ?_
          refine o_yes rfl rfl rfl h3 ?_
          refine o_q (q_geq rfl rfl) rfl rfl rfl ?_
          refine o_yes rfl rfl rfl h3 ?_
          refine o_q (q_mv (v_raw rfl)) rfl rfl rfl ?_
          refine o_cases (want := true) (j := 15) rfl rfl (fun h4 => ?_) (fun h4 => ?_)
          · have k4 := h4; try simp only [decide_eq_true_eq, decide_eq_false_iff_not, Bool.not_eq_true', Bool.not_eq_false', Bool.not_true, Bool.not_false, List.length_map, Decidable.not_not] at k4
            refine o_yes rfl rfl rfl h4 ?_
            refine o_q (q_mv (v_raw rfl)) rfl rfl rfl ?_
            refine o_yes rfl rfl rfl h4 ?_
            refine o_q (q_mv (v_raw rfl)) rfl rfl rfl ?_
            refine o_yes rfl rfl rfl h4 ?_
            refine o_q (q_stri und9 rfl rfl rfl (by omega)) rfl rfl rfl ?_
            refine o_yes rfl rfl rfl h4 ?_
            refine o_q (q_leq rfl rfl) rfl rfl rfl ?_
            refine o_yes rfl rfl rfl h3 ?_
            refine o_q (q_pick_c (t := true) rfl h4 (v_raw rfl)) rfl rfl rfl ?_
            refine o_q (q_pick_c (t := false) rfl h3 (v_raw rfl)) rfl rfl rfl ?_
            refine o_q (q_not rfl) rfl rfl rfl ?_
            refine o_nil ?_
            refine s_cond rfl (fun h5 => ?_) (fun h5 => ?_)
            · have k5 := h5; try simp only [decide_eq_true_eq, decide_eq_false_iff_not, Bool.not_eq_true', Bool.not_eq_false', Bool.not_true, Bool.not_false, List.length_map, Decidable.not_not] at k5
              refine s_seq ?_
              refine s_region ?_
              refine o_q (q_as (v_raw rfl)) rfl rfl rfl ?_
              refine o_nil ?_
              refine s_ret ?_
              refine s_blk_ret ?_
              refine s_code_ret ?_
              refine s_inv_ret ?_
              refine s_blk_ret ?_
              refine s_inv_ret ?_
              refine s_code_ret ?_
              refine s_end ?_
              have hwc : wordC ((s.data[i]'(show i < s.size by omega)).toNat : Int) = false := by
                unfold wordC; rw [Bool.or_eq_false_iff]
                simp only [Bool.and_eq_false_iff, decide_eq_false_iff_not]
                omega
              exact ⟨congrArg bool (word_F (by omega) hwc).symm, rfl⟩
            · have k5 := h5; try simp only [decide_eq_true_eq, decide_eq_false_iff_not, Bool.not_eq_true', Bool.not_eq_false', Bool.not_true, Bool.not_false, List.length_map, Decidable.not_not] at k5
              refine s_skip ?_
              refine s_blk_normal ?_
              refine s_region ?_
              refine o_q (q_mv (v_raw rfl)) rfl rfl rfl ?_
              refine o_q (q_add rfl rfl (wrap64 (by omega) (by omega))) rfl rfl rfl ?_
              refine o_q (q_as (v_raw rfl)) rfl rfl rfl ?_
              refine o_nil ?_
              refine s_inv ?_
              exact ⟨s.size - (i + 1), by omega, _, i + 1, St.mkT (kp (kp rfl rfl) rfl).symm, ok_succ hok (by omega) (by simp_all [wordC]), by omega, rfl⟩
          · have k4 := h4; try simp only [decide_eq_true_eq, decide_eq_false_iff_not, Bool.not_eq_true', Bool.not_eq_false', Bool.not_true, Bool.not_false, List.length_map, Decidable.not_not] at k4
            refine o_no rfl rfl rfl rfl h4 ?_
            refine o_no rfl rfl rfl rfl h4 ?_
            refine o_no rfl rfl rfl rfl h4 ?_
            refine o_no rfl rfl rfl rfl h4 ?_
            refine o_yes rfl rfl rfl h3 ?_
            refine o_q (q_pick_c (t := false) rfl h4 (v_raw rfl)) rfl rfl rfl ?_
            refine o_q (q_pick_c (t := false) rfl h3 (v_raw rfl)) rfl rfl rfl ?_
            refine o_q (q_not rfl) rfl rfl rfl ?_
            refine o_nil ?_
            refine s_then rfl rfl ?_
            refine s_seq ?_
            refine s_region ?_
            refine o_q (q_as (v_raw rfl)) rfl rfl rfl ?_
            refine o_nil ?_
            refine s_ret ?_
            refine s_blk_ret ?_
            refine s_code_ret ?_
            refine s_inv_ret ?_
            refine s_blk_ret ?_
            refine s_inv_ret ?_
            refine s_code_ret ?_
            refine s_end ?_
            have hwc : wordC ((s.data[i]'(show i < s.size by omega)).toNat : Int) = false := by
              unfold wordC; rw [Bool.or_eq_false_iff]
              simp only [Bool.and_eq_false_iff, decide_eq_false_iff_not]
              omega
            exact ⟨congrArg bool (word_F (by omega) hwc).symm, rfl⟩
        · have k3 := h3; try simp only [decide_eq_true_eq, decide_eq_false_iff_not, Bool.not_eq_true', Bool.not_eq_false', Bool.not_true, Bool.not_false, List.length_map, Decidable.not_not] at k3
          refine o_no rfl rfl rfl rfl h3 ?_
          refine o_no rfl rfl rfl rfl h3 ?_
          refine o_no rfl rfl rfl rfl h3 ?_
          refine o_no rfl rfl rfl rfl h3 ?_
          refine o_no rfl rfl rfl rfl h3 ?_
          refine o_skip rfl rfl rfl rfl ?_
          refine o_skip rfl rfl rfl rfl ?_
          refine o_skip rfl rfl rfl rfl ?_
          refine o_skip rfl rfl rfl rfl ?_
          refine o_no rfl rfl rfl rfl h3 ?_
          refine o_q (q_pick_c (t := true) rfl h3 (v_raw rfl)) rfl rfl rfl ?_
          refine o_q (q_not rfl) rfl rfl rfl ?_
          refine o_nil ?_
          refine s_else rfl rfl ?_
          refine s_skip ?_
          refine s_blk_normal ?_
          refine s_region ?_
          refine o_q (q_mv (v_raw rfl)) rfl rfl rfl ?_
          refine o_q (q_add rfl rfl (wrap64 (by omega) (by omega))) rfl rfl rfl ?_
          refine o_q (q_as (v_raw rfl)) rfl rfl rfl ?_
          refine o_nil ?_
          refine s_inv ?_
          exact ⟨s.size - (i + 1), by omega, _, i + 1, St.mkT (kp (kp rfl rfl) rfl).symm, ok_succ hok (by omega) (by simp_all [wordC]), by omega, rfl⟩
      · have k2 := h2; try simp only [decide_eq_true_eq, decide_eq_false_iff_not, Bool.not_eq_true', Bool.not_eq_false', Bool.not_true, Bool.not_false, List.length_map, Decidable.not_not] at k2
        refine o_no rfl rfl rfl rfl h2 ?_
        refine o_no rfl rfl rfl rfl h2 ?_
        refine o_no rfl rfl rfl rfl h2 ?_
        refine o_no rfl rfl rfl rfl h2 ?_
        refine o_q (q_pick_c (t := false) rfl h2 (v_raw rfl)) rfl rfl rfl ?_
        refine o_q (q_mv (v_raw rfl)) rfl rfl rfl ?_
        refine o_yes rfl rfl rfl rfl ?_
        refine o_q (q_mv (v_raw rfl)) rfl rfl rfl ?_
        refine o_yes rfl rfl rfl rfl ?_
        refine o_q (q_mv (v_raw rfl)) rfl rfl rfl ?_
        refine o_yes rfl rfl rfl rfl ?_
        refine o_q (q_stri und9 rfl rfl rfl (by omega)) rfl rfl rfl ?_
        refine o_yes rfl rfl rfl rfl ?_
        refine o_q (q_geq rfl rfl) rfl rfl rfl ?_
        refine o_yes rfl rfl rfl rfl ?_
        refine o_q (q_mv (v_raw rfl)) rfl rfl rfl ?_
        refine o_cases (want := true) (j := 15) rfl rfl (fun h6 => ?_) (fun h6 => ?_)
        · have k6 := h6; try simp only [decide_eq_true_eq, decide_eq_false_iff_not, Bool.not_eq_true', Bool.not_eq_false', Bool.not_true, Bool.not_false, List.length_map, Decidable.not_not] at k6
          refine o_yes rfl rfl rfl h6 ?_
          refine o_q (q_mv (v_raw rfl)) rfl rfl rfl ?_
          refine o_yes rfl rfl rfl h6 ?_
          refine o_q (q_mv (v_raw rfl)) rfl rfl rfl ?_
          refine o_yes rfl rfl rfl h6 ?_
          refine o_q (q_stri und9 rfl rfl rfl (by omega)) rfl rfl rfl ?_
          refine o_yes rfl rfl rfl h6 ?_
          refine o_q (q_leq rfl rfl) rfl rfl rfl ?_
          refine o_yes rfl rfl rfl rfl ?_
          refine o_q (q_pick_c (t := true) rfl h6 (v_raw rfl)) rfl rfl rfl ?_
          refine o_q (q_pick_c (t := false) rfl rfl (v_raw rfl)) rfl rfl rfl ?_
          refine o_q (q_not rfl) rfl rfl rfl ?_
          refine o_nil ?_
          refine s_cond rfl (fun h7 => ?_) (fun h7 => ?_)
          · have k7 := h7; try simp only [decide_eq_true_eq, decide_eq_false_iff_not, Bool.not_eq_true', Bool.not_eq_false', Bool.not_true, Bool.not_false, List.length_map, Decidable.not_not] at k7
            refine s_seq ?_
            refine s_region ?_
            refine o_q (q_as (v_raw rfl)) rfl rfl rfl ?_
            refine o_nil ?_
            refine s_ret ?_
            refine s_blk_ret ?_
            refine s_code_ret ?_
            refine s_inv_ret ?_
            refine s_blk_ret ?_
            refine s_inv_ret ?_
            refine s_code_ret ?_
            refine s_end ?_
            have hwc : wordC ((s.data[i]'(show i < s.size by omega)).toNat : Int) = false := by
              unfold wordC; rw [Bool.or_eq_false_iff]
              simp only [Bool.and_eq_false_iff, decide_eq_false_iff_not]
              omega
            exact ⟨congrArg bool (word_F (by omega) hwc).symm, rfl⟩
          · have k7 := h7; try simp only [decide_eq_true_eq, decide_eq_false_iff_not, Bool.not_eq_true', Bool.not_eq_false', Bool.not_true, Bool.not_false, List.length_map, Decidable.not_not] at k7
            refine s_skip ?_
            refine s_blk_normal ?_
            refine s_region ?_
            refine o_q (q_mv (v_raw rfl)) rfl rfl rfl ?_
            refine o_q (q_add rfl rfl (wrap64 (by omega) (by omega))) rfl rfl rfl ?_
            refine o_q (q_as (v_raw rfl)) rfl rfl rfl ?_
            refine o_nil ?_
            refine s_inv ?_
            exact ⟨s.size - (i + 1), by omega, _, i + 1, St.mkT (kp (kp rfl rfl) rfl).symm, ok_succ hok (by omega) (by simp_all [wordC]), by omega, rfl⟩
        · have k6 := h6; try simp only [decide_eq_true_eq, decide_eq_false_iff_not, Bool.not_eq_true', Bool.not_eq_false', Bool.not_true, Bool.not_false, List.length_map, Decidable.not_not] at k6
          refine o_no rfl rfl rfl rfl h6 ?_
          refine o_no rfl rfl rfl rfl h6 ?_
          refine o_no rfl rfl rfl rfl h6 ?_
          refine o_no rfl rfl rfl rfl h6 ?_
          refine o_yes rfl rfl rfl rfl ?_
          refine o_q (q_pick_c (t := false) rfl h6 (v_raw rfl)) rfl rfl rfl ?_
          refine o_q (q_pick_c (t := false) rfl rfl (v_raw rfl)) rfl rfl rfl ?_
          refine o_q (q_not rfl) rfl rfl rfl ?_
          refine o_nil ?_
          refine s_then rfl rfl ?_
          refine s_seq ?_
          refine s_region ?_
          refine o_q (q_as (v_raw rfl)) rfl rfl rfl ?_
          refine o_nil ?_
          refine s_ret ?_
          refine s_blk_ret ?_
          refine s_code_ret ?_
          refine s_inv_ret ?_
          refine s_blk_ret ?_
          refine s_inv_ret ?_
          refine s_code_ret ?_
          refine s_end ?_
          have hwc : wordC ((s.data[i]'(show i < s.size by omega)).toNat : Int) = false := by
            unfold wordC; rw [Bool.or_eq_false_iff]
            simp only [Bool.and_eq_false_iff, decide_eq_false_iff_not]
            omega
          exact ⟨congrArg bool (word_F (by omega) hwc).symm, rfl⟩
    · have k1 := h1; try simp only [decide_eq_true_eq, decide_eq_false_iff_not, Bool.not_eq_true', Bool.not_eq_false', Bool.not_true, Bool.not_false, List.length_map, Decidable.not_not] at k1
      refine s_exit ?_
      refine s_code_exit ?_
      refine s_inv_exit ?_
      refine s_blk_here ?_
      refine s_inv ?_
      obtain rfl : i = s.size := by omega
      exact ⟨_, St.mkT (kp rfl rfl).symm, word_T hok⟩
  rintro S ⟨T, rfl, hword⟩
  refine s_seq ?_
  refine s_region ?_
  refine o_q (q_mv (v_raw rfl)) rfl rfl rfl ?_
  refine o_q (q_lens rfl und9 rfl) rfl rfl rfl ?_
  refine o_q (q_geq rfl rfl) rfl rfl rfl ?_
  refine o_q (q_mv (v_raw rfl)) rfl rfl rfl ?_
  refine o_cases (want := true) (j := 3) rfl rfl (fun h8 => ?_) (fun h8 => ?_)
  · have k8 := h8; try simp only [decide_eq_true_eq, decide_eq_false_iff_not, Bool.not_eq_true', Bool.not_eq_false', Bool.not_true, Bool.not_false, List.length_map, Decidable.not_not] at k8
    refine o_yes rfl rfl rfl h8 ?_
    refine o_q (q_mv (v_raw rfl)) rfl rfl rfl ?_
    refine o_yes rfl rfl rfl h8 ?_
    refine o_q (q_lens rfl und9 rfl) rfl rfl rfl ?_
    refine o_yes rfl rfl rfl h8 ?_
    refine o_q (q_leq rfl rfl) rfl rfl rfl ?_
    refine o_q (q_pick_c (t := true) rfl h8 (v_raw rfl)) rfl rfl rfl ?_
    refine o_q (q_as (v_raw rfl)) rfl rfl rfl ?_
    refine o_nil ?_
    refine s_ret ?_
    refine s_end ?_
    refine ⟨congrArg bool ?_, rfl⟩
    rw [hword, decide_eq_true (show 1 ≤ s.size by omega), Bool.true_and, decide_eq_decide]
    omega
  · have k8 := h8; try simp only [decide_eq_true_eq, decide_eq_false_iff_not, Bool.not_eq_true', Bool.not_eq_false', Bool.not_true, Bool.not_false, List.length_map, Decidable.not_not] at k8
    refine o_no rfl rfl rfl rfl h8 ?_
    refine o_no rfl rfl rfl rfl h8 ?_
    refine o_no rfl rfl rfl rfl h8 ?_
    refine o_q (q_pick_c (t := false) rfl h8 (v_raw rfl)) rfl rfl rfl ?_
    refine o_q (q_as (v_raw rfl)) rfl rfl rfl ?_
    refine o_nil ?_
    refine s_ret ?_
    refine s_end ?_
    refine ⟨congrArg bool ?_, rfl⟩
    rw [hword, decide_eq_false (show ¬ 1 ≤ s.size by omega)]
    rfl

def tk39 : Nat → Nat → Option Nat := fun _ _ => none
def pl39 : Nat → List PStep := fun _ => []
theorem cb39 : Try.f39.body.map (codeB Try.prog Try.f39.ntmps tk39 pl39) = some true := by kernel_rfl
theorem goes39 : goesB Try.prog 39 = true := by kernel_rfl
-- carillon/carillonref16.Right params ['carillonref16.Sub'] results [['t', 2]] own [] names ['0:s', '1:s', '3:one', '4:two'] calls [52] paths 5
set_option maxHeartbeats 4000000 in
set_option maxRecDepth 20000 in
theorem snd39 (s : Sb) (M : Mem) (hs1 : s.name.size < 2 ^ 63) (hs2 : s.topic.size < 2 ^ 63) : SoundCall Try.prog 39 [encSb s] M fun r M' => r = bool (rightS s) ∧ M.le M' := by
  refine SoundCall.go tk39 pl39 mixed Try.func39 cb39 rfl (Nat.le_of_ble_eq_true rfl) ?_
  refine s_seq ?_
  refine s_region ?_
  refine o_box (by first | exact e_raw rfl | exact e_agg rfl | exact e_sl rfl) rfl rfl (fun B1 hB1 => ?_)
  have m1 : M B1 = none := by have h := hB1; repeat (first | exact h | exact Mem.none_of_le hle h | replace h := (Mem.upd_none h).2)
  refine o_q (q_as (v_raw rfl)) rfl rfl rfl ?_
  refine o_nil ?_
  refine s_seq ?_
  refine s_region ?_
  refine o_q (q_fr fo61_0 rfl) rfl rfl rfl ?_
  refine o_q (q_ldm ag9 sz9 rfl (by repeat first | exact Mem.upd_self _ _ _ | assumption | refine Mem.upd_ne (by assumption) ?_) rfl (v_raw rfl)) rfl rfl rfl ?_
  refine o_call ((snd52 s.name _ hs1)) goes52 (ac (v_raw rfl) ac_nil) rfl ?_
  refine o_q (q_as (v_raw rfl)) rfl rfl rfl ?_
  refine o_nil ?_
  refine s_seq ?_
  refine s_region ?_
  refine o_q (q_fr fo61_1 rfl) rfl rfl rfl ?_
  refine o_q (q_ldm ag9 sz9 rfl (by repeat first | exact Mem.upd_self _ _ _ | assumption | refine Mem.upd_ne (by assumption) ?_) rfl (v_raw rfl)) rfl rfl rfl ?_
  refine o_call ((snd52 s.topic _ hs2)) goes52 (ac (v_raw rfl) ac_nil) rfl ?_
  refine o_q (q_as (v_raw rfl)) rfl rfl rfl ?_
  refine o_nil ?_
  refine s_seq ?_
  refine s_region ?_
  refine o_q (q_mv (v_raw rfl)) rfl rfl rfl ?_
  refine o_q (q_mv (v_raw rfl)) rfl rfl rfl ?_
  refine o_cases (want := true) (j := 1) rfl rfl (fun h1 => ?_) (fun h1 => ?_)
  · have k1 := h1; try simp only [decide_eq_true_eq, decide_eq_false_iff_not, Bool.not_eq_true', Bool.not_eq_false', Bool.not_true, Bool.not_false, List.length_map, Decidable.not_not] at k1
    refine o_yes rfl rfl rfl h1 ?_
    refine o_q (q_mv (v_raw rfl)) rfl rfl rfl ?_
    refine o_q (q_pick_c (t := true) rfl h1 (v_raw rfl)) rfl rfl rfl ?_
    refine o_q (q_mv (v_raw rfl)) rfl rfl rfl ?_
    refine o_cases (want := true) (j := 4) rfl rfl (fun h2 => ?_) (fun h2 => ?_)
    · have k2 := h2; try simp only [decide_eq_true_eq, decide_eq_false_iff_not, Bool.not_eq_true', Bool.not_eq_false', Bool.not_true, Bool.not_false, List.length_map, Decidable.not_not] at k2
      refine o_yes rfl rfl rfl h2 ?_
      refine o_q (q_fr fo61_2 rfl) rfl rfl rfl ?_
      refine o_yes rfl rfl rfl h2 ?_
      refine o_q (q_ldm ag3 sz3 rfl (by repeat first | exact Mem.upd_self _ _ _ | assumption | refine Mem.upd_ne (by assumption) ?_) rfl (v_raw rfl)) rfl rfl rfl ?_
      refine o_yes rfl rfl rfl h2 ?_
      refine o_q (q_geq rfl rfl) rfl rfl rfl ?_
      refine o_q (q_pick_c (t := true) rfl h2 (v_raw rfl)) rfl rfl rfl ?_
      refine o_q (q_mv (v_raw rfl)) rfl rfl rfl ?_
      refine o_cases (want := true) (j := 9) rfl rfl (fun h3 => ?_) (fun h3 => ?_)
      · have k3 := h3; try simp only [decide_eq_true_eq, decide_eq_false_iff_not, Bool.not_eq_true', Bool.not_eq_false', Bool.not_true, Bool.not_false, List.length_map, Decidable.not_not] at k3
        refine o_yes rfl rfl rfl h3 ?_
        refine o_q (q_fr fo61_2 rfl) rfl rfl rfl ?_
        refine o_yes rfl rfl rfl h3 ?_
        refine o_q (q_ldm ag3 sz3 rfl (by repeat first | exact Mem.upd_self _ _ _ | assumption | refine Mem.upd_ne (by assumption) ?_) rfl (v_raw rfl)) rfl rfl rfl ?_
        refine o_yes rfl rfl rfl h3 ?_
        refine o_q (q_fr fo61_3 rfl) rfl rfl rfl ?_
        refine o_yes rfl rfl rfl h3 ?_
        refine o_q (q_ldm ag3 sz3 rfl (by repeat first | exact Mem.upd_self _ _ _ | assumption | refine Mem.upd_ne (by assumption) ?_) rfl (v_raw rfl)) rfl rfl rfl ?_
        refine o_yes rfl rfl rfl h3 ?_
        refine o_q (q_leq rfl rfl) rfl rfl rfl ?_
        refine o_q (q_pick_c (t := true) rfl h3 (v_raw rfl)) rfl rfl rfl ?_
        refine o_q (q_mv (v_raw rfl)) rfl rfl rfl ?_
        refine o_cases (want := true) (j := 16) rfl rfl (fun h4 => ?_) (fun h4 => ?_)
        · have k4 := h4; try simp only [decide_eq_true_eq, decide_eq_false_iff_not, Bool.not_eq_true', Bool.not_eq_false', Bool.not_true, Bool.not_false, List.length_map, Decidable.not_not] at k4
          refine o_yes rfl rfl rfl h4 ?_
          refine o_q (q_fr fo61_3 rfl) rfl rfl rfl ?_
          refine o_yes rfl rfl rfl h4 ?_
          refine o_q (q_ldm ag3 sz3 rfl (by repeat first | exact Mem.upd_self _ _ _ | assumption | refine Mem.upd_ne (by assumption) ?_) rfl (v_raw rfl)) rfl rfl rfl ?_
          refine o_yes rfl rfl rfl h4 ?_
          refine o_q (q_leq rfl rfl) rfl rfl rfl ?_
          refine o_q (q_pick_c (t := true) rfl h4 (v_raw rfl)) rfl rfl rfl ?_
          refine o_q (q_as (v_raw rfl)) rfl rfl rfl ?_
          refine o_nil ?_
          refine s_ret ?_
          refine s_end ?_
          refine ⟨congrArg (fun b => AVal.raw (.bool b)) ?_, (by repeat first | exact hle | exact Mem.le_refl M | assumption | exact Mem.none_of_le hle (by assumption) | refine Mem.le_upd ?_ ?_)⟩
          simp_all [rightS] <;> (intros; omega)
        · have k4 := h4; try simp only [decide_eq_true_eq, decide_eq_false_iff_not, Bool.not_eq_true', Bool.not_eq_false', Bool.not_true, Bool.not_false, List.length_map, Decidable.not_not] at k4
          refine o_no rfl rfl rfl rfl h4 ?_
          refine o_no rfl rfl rfl rfl h4 ?_
          refine o_no rfl rfl rfl rfl h4 ?_
          refine o_q (q_pick_c (t := false) rfl h4 (v_raw rfl)) rfl rfl rfl ?_
          refine o_q (q_as (v_raw rfl)) rfl rfl rfl ?_
          refine o_nil ?_
          refine s_ret ?_
          refine s_end ?_
          refine ⟨congrArg (fun b => AVal.raw (.bool b)) ?_, (by repeat first | exact hle | exact Mem.le_refl M | assumption | exact Mem.none_of_le hle (by assumption) | refine Mem.le_upd ?_ ?_)⟩
          simp_all [rightS] <;> (intros; omega)
      · have k3 := h3; try simp only [decide_eq_true_eq, decide_eq_false_iff_not, Bool.not_eq_true', Bool.not_eq_false', Bool.not_true, Bool.not_false, List.length_map, Decidable.not_not] at k3
        refine o_no rfl rfl rfl rfl h3 ?_
        refine o_no rfl rfl rfl rfl h3 ?_
        refine o_no rfl rfl rfl rfl h3 ?_
        refine o_no rfl rfl rfl rfl h3 ?_
        refine o_no rfl rfl rfl rfl h3 ?_
        refine o_q (q_pick_c (t := false) rfl h3 (v_raw rfl)) rfl rfl rfl ?_
        refine o_q (q_mv (v_raw rfl)) rfl rfl rfl ?_
        refine o_no rfl rfl rfl rfl rfl ?_
        refine o_no rfl rfl rfl rfl rfl ?_
        refine o_no rfl rfl rfl rfl rfl ?_
        refine o_q (q_pick_c (t := false) rfl rfl (v_raw rfl)) rfl rfl rfl ?_
        refine o_q (q_as (v_raw rfl)) rfl rfl rfl ?_
        refine o_nil ?_
        refine s_ret ?_
        refine s_end ?_
        refine ⟨congrArg (fun b => AVal.raw (.bool b)) ?_, (by repeat first | exact hle | exact Mem.le_refl M | assumption | exact Mem.none_of_le hle (by assumption) | refine Mem.le_upd ?_ ?_)⟩
        simp_all [rightS] <;> (intros; omega)
    · have k2 := h2; try simp only [decide_eq_true_eq, decide_eq_false_iff_not, Bool.not_eq_true', Bool.not_eq_false', Bool.not_true, Bool.not_false, List.length_map, Decidable.not_not] at k2
      refine o_no rfl rfl rfl rfl h2 ?_
      refine o_no rfl rfl rfl rfl h2 ?_
      refine o_no rfl rfl rfl rfl h2 ?_
      refine o_q (q_pick_c (t := false) rfl h2 (v_raw rfl)) rfl rfl rfl ?_
      refine o_q (q_mv (v_raw rfl)) rfl rfl rfl ?_
      refine o_no rfl rfl rfl rfl rfl ?_
      refine o_no rfl rfl rfl rfl rfl ?_
      refine o_no rfl rfl rfl rfl rfl ?_
      refine o_no rfl rfl rfl rfl rfl ?_
      refine o_no rfl rfl rfl rfl rfl ?_
      refine o_q (q_pick_c (t := false) rfl rfl (v_raw rfl)) rfl rfl rfl ?_
      refine o_q (q_mv (v_raw rfl)) rfl rfl rfl ?_
      refine o_no rfl rfl rfl rfl rfl ?_
      refine o_no rfl rfl rfl rfl rfl ?_
      refine o_no rfl rfl rfl rfl rfl ?_
      refine o_q (q_pick_c (t := false) rfl rfl (v_raw rfl)) rfl rfl rfl ?_
      refine o_q (q_as (v_raw rfl)) rfl rfl rfl ?_
      refine o_nil ?_
      refine s_ret ?_
      refine s_end ?_
      refine ⟨congrArg (fun b => AVal.raw (.bool b)) ?_, (by repeat first | exact hle | exact Mem.le_refl M | assumption | exact Mem.none_of_le hle (by assumption) | refine Mem.le_upd ?_ ?_)⟩
      simp_all [rightS] <;> (intros; omega)
  · have k1 := h1; try simp only [decide_eq_true_eq, decide_eq_false_iff_not, Bool.not_eq_true', Bool.not_eq_false', Bool.not_true, Bool.not_false, List.length_map, Decidable.not_not] at k1
    refine o_no rfl rfl rfl rfl h1 ?_
    refine o_q (q_pick_c (t := false) rfl h1 (v_raw rfl)) rfl rfl rfl ?_
    refine o_q (q_mv (v_raw rfl)) rfl rfl rfl ?_
    refine o_no rfl rfl rfl rfl rfl ?_
    refine o_no rfl rfl rfl rfl rfl ?_
    refine o_no rfl rfl rfl rfl rfl ?_
    refine o_q (q_pick_c (t := false) rfl rfl (v_raw rfl)) rfl rfl rfl ?_
    refine o_q (q_mv (v_raw rfl)) rfl rfl rfl ?_
    refine o_no rfl rfl rfl rfl rfl ?_
    refine o_no rfl rfl rfl rfl rfl ?_
    refine o_no rfl rfl rfl rfl rfl ?_
    refine o_no rfl rfl rfl rfl rfl ?_
    refine o_no rfl rfl rfl rfl rfl ?_
    refine o_q (q_pick_c (t := false) rfl rfl (v_raw rfl)) rfl rfl rfl ?_
    refine o_q (q_mv (v_raw rfl)) rfl rfl rfl ?_
    refine o_no rfl rfl rfl rfl rfl ?_
    refine o_no rfl rfl rfl rfl rfl ?_
    refine o_no rfl rfl rfl rfl rfl ?_
    refine o_q (q_pick_c (t := false) rfl rfl (v_raw rfl)) rfl rfl rfl ?_
    refine o_q (q_as (v_raw rfl)) rfl rfl rfl ?_
    refine o_nil ?_
    refine s_ret ?_
    refine s_end ?_
    refine ⟨congrArg (fun b => AVal.raw (.bool b)) ?_, (by repeat first | exact hle | exact Mem.le_refl M | assumption | exact Mem.none_of_le hle (by assumption) | refine Mem.le_upd ?_ ?_)⟩
    simp_all [rightS] <;> (intros; omega)

def tk31 : Nat → Nat → Option Nat := fun _ _ => none
def pl31 : Nat → List PStep := fun _ => []
theorem cb31 : Try.f31.body.map (codeB Try.prog Try.f31.ntmps tk31 pl31) = some true := by kernel_rfl
theorem goes31 : goesB Try.prog 31 = true := by kernel_rfl
-- carillon/carillonlaw16.same params ['subs.Sub', 'carillonref16.Sub'] results [['t', 4]] own [] names ['0:s', '1:x', '2:s', '3:x'] calls [] paths 1
set_option maxHeartbeats 4000000 in
set_option maxRecDepth 20000 in
theorem snd31 (s : Sb) (M : Mem) : SoundCall Try.prog 31 [encSb s, encSb s] M fun r M' => r = bool true ∧ M.le M' := by
  refine SoundCall.go tk31 pl31 mixed Try.func31 cb31 rfl (Nat.le_of_ble_eq_true rfl) ?_
  refine s_seq ?_
  refine s_region ?_
  refine o_box (by first | exact e_raw rfl | exact e_agg rfl | exact e_sl rfl) rfl rfl (fun B1 hB1 => ?_)
  have m1 : M B1 = none := by have h := hB1; repeat (first | exact h | exact Mem.none_of_le hle h | replace h := (Mem.upd_none h).2)
  refine o_box (by first | exact e_raw rfl | exact e_agg rfl | exact e_sl rfl) rfl rfl (fun B2 hB2 => ?_)
  have f1_2 : B1 ≠ B2 := Mem.fresh_ne hB2 (by repeat first | exact Mem.upd_self _ _ _ | assumption | refine Mem.upd_ne (by assumption) ?_)
  have g2_1 : B2 ≠ B1 := f1_2.symm
  have m2 : M B2 = none := by have h := hB2; repeat (first | exact h | exact Mem.none_of_le hle h | replace h := (Mem.upd_none h).2)
  refine o_q (q_as (v_raw rfl)) rfl rfl rfl ?_
  refine o_nil ?_
  refine s_seq ?_
  refine s_region ?_
  refine o_q (q_fr fo45_0 rfl) rfl rfl rfl ?_
  refine o_q (q_ldm ag9 sz9 rfl (by repeat first | exact Mem.upd_self _ _ _ | assumption | refine Mem.upd_ne (by assumption) ?_) rfl (v_raw rfl)) rfl rfl rfl ?_
  refine o_q (q_fr fo61_0 rfl) rfl rfl rfl ?_
  refine o_q (q_ldm ag9 sz9 rfl (by repeat first | exact Mem.upd_self _ _ _ | assumption | refine Mem.upd_ne (by assumption) ?_) rfl (v_raw rfl)) rfl rfl rfl ?_
  refine o_q (q_seql rfl rfl) rfl rfl rfl ?_
  refine o_q (q_mv (v_raw rfl)) rfl rfl rfl ?_
  refine o_cases (want := true) (j := 5) rfl rfl (fun h1 => ?_) (fun h1 => ?_)
  · have k1 := h1; try simp only [decide_eq_true_eq, decide_eq_false_iff_not, Bool.not_eq_true', Bool.not_eq_false', Bool.not_true, Bool.not_false, List.length_map, Decidable.not_not] at k1
    refine o_yes rfl rfl rfl h1 ?_
    refine o_q (q_fr fo45_1 rfl) rfl rfl rfl ?_
    refine o_yes rfl rfl rfl h1 ?_
    refine o_q (q_ldm ag9 sz9 rfl (by repeat first | exact Mem.upd_self _ _ _ | assumption | refine Mem.upd_ne (by assumption) ?_) rfl (v_raw rfl)) rfl rfl rfl ?_
    refine o_yes rfl rfl rfl h1 ?_
    refine o_q (q_fr fo61_1 rfl) rfl rfl rfl ?_
    refine o_yes rfl rfl rfl h1 ?_
    refine o_q (q_ldm ag9 sz9 rfl (by repeat first | exact Mem.upd_self _ _ _ | assumption | refine Mem.upd_ne (by assumption) ?_) rfl (v_raw rfl)) rfl rfl rfl ?_
    refine o_yes rfl rfl rfl h1 ?_
    refine o_q (q_seql rfl rfl) rfl rfl rfl ?_
    refine o_q (q_pick_c (t := true) rfl h1 (v_raw rfl)) rfl rfl rfl ?_
    refine o_q (q_mv (v_raw rfl)) rfl rfl rfl ?_
    refine o_cases (want := true) (j := 12) rfl rfl (fun h2 => ?_) (fun h2 => ?_)
    · have k2 := h2; try simp only [decide_eq_true_eq, decide_eq_false_iff_not, Bool.not_eq_true', Bool.not_eq_false', Bool.not_true, Bool.not_false, List.length_map, Decidable.not_not] at k2
      refine o_yes rfl rfl rfl h2 ?_
      refine o_q (q_fr fo45_2 rfl) rfl rfl rfl ?_
      refine o_yes rfl rfl rfl h2 ?_
      refine o_q (q_ldm ag3 sz3 rfl (by repeat first | exact Mem.upd_self _ _ _ | assumption | refine Mem.upd_ne (by assumption) ?_) rfl (v_raw rfl)) rfl rfl rfl ?_
      refine o_yes rfl rfl rfl h2 ?_
      refine o_q (q_fr fo61_2 rfl) rfl rfl rfl ?_
      refine o_yes rfl rfl rfl h2 ?_
      refine o_q (q_ldm ag3 sz3 rfl (by repeat first | exact Mem.upd_self _ _ _ | assumption | refine Mem.upd_ne (by assumption) ?_) rfl (v_raw rfl)) rfl rfl rfl ?_
      refine o_yes rfl rfl rfl h2 ?_
      refine o_q (q_eql rfl rfl) rfl rfl rfl ?_
      refine o_q (q_pick_c (t := true) rfl h2 (v_raw rfl)) rfl rfl rfl ?_
      refine o_q (q_mv (v_raw rfl)) rfl rfl rfl ?_
      refine o_cases (want := true) (j := 19) rfl rfl (fun h3 => ?_) (fun h3 => ?_)
      · have k3 := h3; try simp only [decide_eq_true_eq, decide_eq_false_iff_not, Bool.not_eq_true', Bool.not_eq_false', Bool.not_true, Bool.not_false, List.length_map, Decidable.not_not] at k3
        refine o_yes rfl rfl rfl h3 ?_
        refine o_q (q_fr fo45_3 rfl) rfl rfl rfl ?_
        refine o_yes rfl rfl rfl h3 ?_
        refine o_q (q_ldm ag3 sz3 rfl (by repeat first | exact Mem.upd_self _ _ _ | assumption | refine Mem.upd_ne (by assumption) ?_) rfl (v_raw rfl)) rfl rfl rfl ?_
        refine o_yes rfl rfl rfl h3 ?_
        refine o_q (q_fr fo61_3 rfl) rfl rfl rfl ?_
        refine o_yes rfl rfl rfl h3 ?_
        refine o_q (q_ldm ag3 sz3 rfl (by repeat first | exact Mem.upd_self _ _ _ | assumption | refine Mem.upd_ne (by assumption) ?_) rfl (v_raw rfl)) rfl rfl rfl ?_
        refine o_yes rfl rfl rfl h3 ?_
        refine o_q (q_eql rfl rfl) rfl rfl rfl ?_
        refine o_q (q_pick_c (t := true) rfl h3 (v_raw rfl)) rfl rfl rfl ?_
        refine o_q (q_as (v_raw rfl)) rfl rfl rfl ?_
        refine o_nil ?_
        refine s_ret ?_
        refine s_end ?_
        refine ⟨congrArg (fun b => AVal.raw (.bool b)) ?_, (by repeat first | exact hle | exact Mem.le_refl M | assumption | exact Mem.none_of_le hle (by assumption) | refine Mem.le_upd ?_ ?_)⟩
        simp
      · have k3 := h3; try simp only [decide_eq_true_eq, decide_eq_false_iff_not, Bool.not_eq_true', Bool.not_eq_false', Bool.not_true, Bool.not_false, List.length_map, Decidable.not_not] at k3
        first | exact absurd h3 (by decide) | (simp at h3; done) | (simp at h3; omega)
    · have k2 := h2; try simp only [decide_eq_true_eq, decide_eq_false_iff_not, Bool.not_eq_true', Bool.not_eq_false', Bool.not_true, Bool.not_false, List.length_map, Decidable.not_not] at k2
      first | exact absurd h2 (by decide) | (simp at h2; done) | (simp at h2; omega)
  · have k1 := h1; try simp only [decide_eq_true_eq, decide_eq_false_iff_not, Bool.not_eq_true', Bool.not_eq_false', Bool.not_true, Bool.not_false, List.length_map, Decidable.not_not] at k1
    first | exact absurd h1 (by decide) | (simp at h1; done) | (simp at h1; omega)

def tk32 : Nat → Nat → Option Nat := fun _ _ => none
def pl32 : Nat → List PStep := fun _ => []
theorem cb32 : Try.f32.body.map (codeB Try.prog Try.f32.ntmps tk32 pl32) = some true := by kernel_rfl
theorem goes32 : goesB Try.prog 32 = true := by kernel_rfl
-- carillon/carillonref16.Attach params ['carillonref16.Sub'] results [['cell', 2, 61]] own [] names ['0:s', '1:s'] calls [] paths 1
set_option maxHeartbeats 4000000 in
set_option maxRecDepth 20000 in
theorem snd32 (s : Sb) (M : Mem) : SoundCall Try.prog 32 [encSb s] M fun r M' => r = encSb (attS s) ∧ M.le M' := by
  refine SoundCall.go tk32 pl32 mixed Try.func32 cb32 rfl (Nat.le_of_ble_eq_true rfl) ?_
  refine s_seq ?_
  refine s_region ?_
  refine o_box (by first | exact e_raw rfl | exact e_agg rfl | exact e_sl rfl) rfl rfl (fun B1 hB1 => ?_)
  have m1 : M B1 = none := by have h := hB1; repeat (first | exact h | exact Mem.none_of_le hle h | replace h := (Mem.upd_none h).2)
  refine o_alloc zc61 (fun B2 hB2 => ?_)
  have f1_2 : B1 ≠ B2 := Mem.fresh_ne hB2 (by repeat first | exact Mem.upd_self _ _ _ | assumption | refine Mem.upd_ne (by assumption) ?_)
  have g2_1 : B2 ≠ B1 := f1_2.symm
  have m2 : M B2 = none := by have h := hB2; repeat (first | exact h | exact Mem.none_of_le hle h | replace h := (Mem.upd_none h).2)
  refine o_nil ?_
  refine s_seq ?_
  refine s_region ?_
  refine o_q (q_fr fo61_2 rfl) rfl rfl rfl ?_
  refine o_q (q_ldm ag3 sz3 rfl (by repeat first | exact Mem.upd_self _ _ _ | assumption | refine Mem.upd_ne (by assumption) ?_) rfl (v_raw rfl)) rfl rfl rfl ?_
  refine o_q (q_fr fo61_3 rfl) rfl rfl rfl ?_
  refine o_store rfl (by repeat first | exact Mem.upd_self _ _ _ | assumption | refine Mem.upd_ne (by assumption) ?_) (by first | exact e_raw rfl | exact e_agg rfl | exact e_sl rfl | rfl) rfl sz3 rfl (Nat.le_of_ble_eq_true rfl) rfl rfl ?_
  refine o_nil ?_
  refine s_seq ?_
  refine s_region ?_
  refine o_q (q_ldmw ag61 sz61 rfl (by repeat first | exact Mem.upd_self _ _ _ | assumption | refine Mem.upd_ne (by assumption) ?_) rfl rfl) rfl rfl rfl ?_
  refine o_storew rfl (by repeat first | exact Mem.upd_self _ _ _ | assumption | refine Mem.upd_ne (by assumption) ?_) (by first | exact e_agg rfl | rfl) rfl sz61 rfl rfl rfl rfl ?_
  refine o_nil ?_
  refine s_ret ?_
  refine s_end ?_
  exact ret_cell (.inl rfl) rfl rfl (by repeat first | exact Mem.upd_self _ _ _ | assumption | refine Mem.upd_ne (by assumption) ?_) (loadP_w ag61 sz61 rfl rfl) ⟨rfl, (by repeat first | exact hle | exact Mem.le_refl M | assumption | exact Mem.none_of_le hle (by assumption) | refine Mem.le_upd ?_ ?_)⟩

def tk34 : Nat → Nat → Option Nat := fun _ _ => none
def pl34 : Nat → List PStep := fun _ => []
theorem cb34 : Try.f34.body.map (codeB Try.prog Try.f34.ntmps tk34 pl34) = some true := by kernel_rfl
theorem goes34 : goesB Try.prog 34 = true := by kernel_rfl
-- carillon/carillonref16.Ack params ['carillonref16.Sub', 'int'] results [['cell', 4, 61], ['t', 5]] own [] names ['0:s', '1:offset', '2:s', '3:offset', '6:ok'] calls [39] paths 4
set_option maxHeartbeats 4000000 in
set_option maxRecDepth 20000 in
theorem snd34 (s : Sb) (o : Int) (M : Mem) (hs1 : s.name.size < 2 ^ 63) (hs2 : s.topic.size < 2 ^ 63) : SoundCall Try.prog 34 [encSb s, int o] M fun r M' => r = .tup [encSb (ackS s o).1, int (ackS s o).2] ∧ M.le M' := by
  refine SoundCall.go tk34 pl34 mixed Try.func34 cb34 rfl (Nat.le_of_ble_eq_true rfl) ?_
  refine s_seq ?_
  refine s_region ?_
  refine o_box (by first | exact e_raw rfl | exact e_agg rfl | exact e_sl rfl) rfl rfl (fun B1 hB1 => ?_)
  have m1 : M B1 = none := by have h := hB1; repeat (first | exact h | exact Mem.none_of_le hle h | replace h := (Mem.upd_none h).2)
  refine o_alloc zc61 (fun B2 hB2 => ?_)
  have f1_2 : B1 ≠ B2 := Mem.fresh_ne hB2 (by repeat first | exact Mem.upd_self _ _ _ | assumption | refine Mem.upd_ne (by assumption) ?_)
  have g2_1 : B2 ≠ B1 := f1_2.symm
  have m2 : M B2 = none := by have h := hB2; repeat (first | exact h | exact Mem.none_of_le hle h | replace h := (Mem.upd_none h).2)
  refine o_q (q_as (v_raw rfl)) rfl rfl rfl ?_
  refine o_nil ?_
  refine s_seq ?_
  refine s_region ?_
  refine o_q (q_ldmw ag61 sz61 rfl (by repeat first | exact Mem.upd_self _ _ _ | assumption | refine Mem.upd_ne (by assumption) ?_) rfl rfl) rfl rfl rfl ?_
  refine o_call (((snd39 s _ hs1 hs2).det)) goes39 (ac (v_agg rfl) ac_nil) rfl ?_
  refine o_q (q_as (v_raw rfl)) rfl rfl rfl ?_
  refine o_nil ?_
  refine s_seq ?_
  refine s_seq ?_
  refine s_region ?_
  refine o_q (q_mv (v_raw rfl)) rfl rfl rfl ?_
  refine o_q (q_not rfl) rfl rfl rfl ?_
  refine o_q (q_mv (v_raw rfl)) rfl rfl rfl ?_
  refine o_cases (want := false) (j := 2) rfl rfl (fun h1 => ?_) (fun h1 => ?_)
  · have k1 := h1; try simp only [decide_eq_true_eq, decide_eq_false_iff_not, Bool.not_eq_true', Bool.not_eq_false', Bool.not_true, Bool.not_false, List.length_map, Decidable.not_not] at k1
    refine o_yes rfl rfl rfl h1 ?_
    refine o_q (q_mv (v_raw rfl)) rfl rfl rfl ?_
    refine o_yes rfl rfl rfl h1 ?_
    refine o_q (q_lss rfl rfl) rfl rfl rfl ?_
    refine o_q (q_pick_c (t := false) rfl h1 (v_raw rfl)) rfl rfl rfl ?_
    refine o_q (q_mv (v_raw rfl)) rfl rfl rfl ?_
    refine o_cases (want := false) (j := 6) rfl rfl (fun h2 => ?_) (fun h2 => ?_)
    · have k2 := h2; try simp only [decide_eq_true_eq, decide_eq_false_iff_not, Bool.not_eq_true', Bool.not_eq_false', Bool.not_true, Bool.not_false, List.length_map, Decidable.not_not] at k2
      refine o_yes rfl rfl rfl h2 ?_
      refine o_q (q_mv (v_raw rfl)) rfl rfl rfl ?_
      refine o_yes rfl rfl rfl h2 ?_
      refine o_q (q_fr fo61_3 rfl) rfl rfl rfl ?_
      refine o_yes rfl rfl rfl h2 ?_
      refine o_q (q_ldm ag3 sz3 rfl (by repeat first | exact Mem.upd_self _ _ _ | assumption | refine Mem.upd_ne (by assumption) ?_) rfl (v_raw rfl)) rfl rfl rfl ?_
      refine o_yes rfl rfl rfl h2 ?_
      refine o_q (q_geq rfl rfl) rfl rfl rfl ?_
      refine o_q (q_pick_c (t := false) rfl h2 (v_raw rfl)) rfl rfl rfl ?_
      refine o_nil ?_
      refine s_cond rfl (fun h3 => ?_) (fun h3 => ?_)
      · have k3 := h3; try simp only [decide_eq_true_eq, decide_eq_false_iff_not, Bool.not_eq_true', Bool.not_eq_false', Bool.not_true, Bool.not_false, List.length_map, Decidable.not_not] at k3
        refine s_seq ?_
        refine s_region ?_
        refine o_q (q_ldmw ag61 sz61 rfl (by repeat first | exact Mem.upd_self _ _ _ | assumption | refine Mem.upd_ne (by assumption) ?_) rfl rfl) rfl rfl rfl ?_
        refine o_storew rfl (by repeat first | exact Mem.upd_self _ _ _ | assumption | refine Mem.upd_ne (by assumption) ?_) (by first | exact e_agg rfl | rfl) rfl sz61 rfl rfl rfl rfl ?_
        refine o_q (q_as (v_raw rfl)) rfl rfl rfl ?_
        refine o_nil ?_
        refine s_ret ?_
        refine s_code_ret ?_
        refine s_end ?_
        exact ret_many (.inl rfl) rfl (rl_c rfl (by repeat first | exact Mem.upd_self _ _ _ | assumption | refine Mem.upd_ne (by assumption) ?_) (loadP_w ag61 sz61 rfl rfl) rfl (rl_t rfl rl_nil)) rfl ⟨by unfold ackS; split <;> first | rfl | (exfalso; simp_all; done) | (exfalso; simp_all; omega), (by repeat first | exact hle | exact Mem.le_refl M | assumption | exact Mem.none_of_le hle (by assumption) | refine Mem.le_upd ?_ ?_)⟩
      · have k3 := h3; try simp only [decide_eq_true_eq, decide_eq_false_iff_not, Bool.not_eq_true', Bool.not_eq_false', Bool.not_true, Bool.not_false, List.length_map, Decidable.not_not] at k3
        have hri := (rightS_le (by simp_all : rightS s = true))
        refine s_skip ?_
        refine s_seq ?_
        refine s_region ?_
        refine o_q (q_fr fo61_2 rfl) rfl rfl rfl ?_
        refine o_q (q_ldm ag3 sz3 rfl (by repeat first | exact Mem.upd_self _ _ _ | assumption | refine Mem.upd_ne (by assumption) ?_) rfl (v_raw rfl)) rfl rfl rfl ?_
        refine o_q (q_mv (v_raw rfl)) rfl rfl rfl ?_
        refine o_q (q_add rfl rfl (wrap64 (by omega) (by omega))) rfl rfl rfl ?_
        refine o_q (q_max rfl rfl) rfl rfl rfl ?_
        refine o_q (q_fr fo61_2 rfl) rfl rfl rfl ?_
        refine o_store rfl (by repeat first | exact Mem.upd_self _ _ _ | assumption | refine Mem.upd_ne (by assumption) ?_) (by first | exact e_raw rfl | exact e_agg rfl | exact e_sl rfl | rfl) rfl sz3 rfl (Nat.le_of_ble_eq_true rfl) rfl rfl ?_
        refine o_nil ?_
        refine s_seq ?_
        refine s_region ?_
        refine o_q (q_ldmw ag61 sz61 rfl (by repeat first | exact Mem.upd_self _ _ _ | assumption | refine Mem.upd_ne (by assumption) ?_) rfl rfl) rfl rfl rfl ?_
        refine o_storew rfl (by repeat first | exact Mem.upd_self _ _ _ | assumption | refine Mem.upd_ne (by assumption) ?_) (by first | exact e_agg rfl | rfl) rfl sz61 rfl rfl rfl rfl ?_
        refine o_q (q_as (v_raw rfl)) rfl rfl rfl ?_
        refine o_nil ?_
        refine s_ret ?_
        refine s_end ?_
        exact ret_many (.inl rfl) rfl (rl_c rfl (by repeat first | exact Mem.upd_self _ _ _ | assumption | refine Mem.upd_ne (by assumption) ?_) (loadP_w ag61 sz61 rfl rfl) rfl (rl_t rfl rl_nil)) rfl ⟨by unfold ackS; split <;> first | rfl | (exfalso; simp_all; done) | (exfalso; simp_all; omega), (by repeat first | exact hle | exact Mem.le_refl M | assumption | exact Mem.none_of_le hle (by assumption) | refine Mem.le_upd ?_ ?_)⟩
    · have k2 := h2; try simp only [decide_eq_true_eq, decide_eq_false_iff_not, Bool.not_eq_true', Bool.not_eq_false', Bool.not_true, Bool.not_false, List.length_map, Decidable.not_not] at k2
      refine o_no rfl rfl rfl rfl h2 ?_
      refine o_no rfl rfl rfl rfl h2 ?_
      refine o_no rfl rfl rfl rfl h2 ?_
      refine o_no rfl rfl rfl rfl h2 ?_
      refine o_q (q_pick_c (t := true) rfl h2 (v_raw rfl)) rfl rfl rfl ?_
      refine o_nil ?_
      refine s_then rfl rfl ?_
      refine s_seq ?_
      refine s_region ?_
      refine o_q (q_ldmw ag61 sz61 rfl (by repeat first | exact Mem.upd_self _ _ _ | assumption | refine Mem.upd_ne (by assumption) ?_) rfl rfl) rfl rfl rfl ?_
      refine o_storew rfl (by repeat first | exact Mem.upd_self _ _ _ | assumption | refine Mem.upd_ne (by assumption) ?_) (by first | exact e_agg rfl | rfl) rfl sz61 rfl rfl rfl rfl ?_
      refine o_q (q_as (v_raw rfl)) rfl rfl rfl ?_
      refine o_nil ?_
      refine s_ret ?_
      refine s_code_ret ?_
      refine s_end ?_
      exact ret_many (.inl rfl) rfl (rl_c rfl (by repeat first | exact Mem.upd_self _ _ _ | assumption | refine Mem.upd_ne (by assumption) ?_) (loadP_w ag61 sz61 rfl rfl) rfl (rl_t rfl rl_nil)) rfl ⟨by unfold ackS; split <;> first | rfl | (exfalso; simp_all; done) | (exfalso; simp_all; omega), (by repeat first | exact hle | exact Mem.le_refl M | assumption | exact Mem.none_of_le hle (by assumption) | refine Mem.le_upd ?_ ?_)⟩
  · have k1 := h1; try simp only [decide_eq_true_eq, decide_eq_false_iff_not, Bool.not_eq_true', Bool.not_eq_false', Bool.not_true, Bool.not_false, List.length_map, Decidable.not_not] at k1
    refine o_no rfl rfl rfl rfl h1 ?_
    refine o_no rfl rfl rfl rfl h1 ?_
    refine o_q (q_pick_c (t := true) rfl h1 (v_raw rfl)) rfl rfl rfl ?_
    refine o_q (q_mv (v_raw rfl)) rfl rfl rfl ?_
    refine o_no rfl rfl rfl rfl rfl ?_
    refine o_no rfl rfl rfl rfl rfl ?_
    refine o_no rfl rfl rfl rfl rfl ?_
    refine o_no rfl rfl rfl rfl rfl ?_
    refine o_q (q_pick_c (t := true) rfl rfl (v_raw rfl)) rfl rfl rfl ?_
    refine o_nil ?_
    refine s_then rfl rfl ?_
    refine s_seq ?_
    refine s_region ?_
    refine o_q (q_ldmw ag61 sz61 rfl (by repeat first | exact Mem.upd_self _ _ _ | assumption | refine Mem.upd_ne (by assumption) ?_) rfl rfl) rfl rfl rfl ?_
    refine o_storew rfl (by repeat first | exact Mem.upd_self _ _ _ | assumption | refine Mem.upd_ne (by assumption) ?_) (by first | exact e_agg rfl | rfl) rfl sz61 rfl rfl rfl rfl ?_
    refine o_q (q_as (v_raw rfl)) rfl rfl rfl ?_
    refine o_nil ?_
    refine s_ret ?_
    refine s_code_ret ?_
    refine s_end ?_
    exact ret_many (.inl rfl) rfl (rl_c rfl (by repeat first | exact Mem.upd_self _ _ _ | assumption | refine Mem.upd_ne (by assumption) ?_) (loadP_w ag61 sz61 rfl rfl) rfl (rl_t rfl rl_nil)) rfl ⟨by unfold ackS; split <;> first | rfl | (exfalso; simp_all; done) | (exfalso; simp_all; omega), (by repeat first | exact hle | exact Mem.le_refl M | assumption | exact Mem.none_of_le hle (by assumption) | refine Mem.le_upd ?_ ?_)⟩

def tk35 : Nat → Nat → Option Nat := fun _ _ => none
def pl35 : Nat → List PStep
  | 2 => [.q 0, .q 1, .q 2, .q 3, .q 4, .q 5, .q 6, .q 7, .q 8, .q 9, .q 10, .q 11, .q 12, .q 13, .q 14, .q 15, .q 16, .q 17, .q 18, .q 19, .q 20, .q 21, .q 22]
  | _ => []
theorem cb35 : Try.f35.body.map (codeB Try.prog Try.f35.ntmps tk35 pl35) = some true := by kernel_rfl
theorem goes35 : goesB Try.prog 35 = true := by kernel_rfl
-- carillon/carillonref16.Seek params ['carillonref16.Sub', '*carillonref15.Topic', 'int'] results [['cell', 6, 61], ['t', 7]] own [] names ['0:s', '1:t', '2:offset', '3:s', '4:t', '5:offset', '8:ok'] calls [39] paths 5
set_option maxHeartbeats 4000000 in
set_option maxRecDepth 20000 in
theorem snd35 (s : Sb) (y v : Nat) (x : Tp) (o : Int) (M : Mem) (hy : M y = some (.cells (ryC v x)))(hs1 : s.name.size < 2 ^ 63) (hs2 : s.topic.size < 2 ^ 63) : SoundCall Try.prog 35 [encSb s, ptr y, int o] M fun r M' => r = .tup [encSb (seekS s x o).1, int (seekS s x o).2] ∧ M.le M' := by
  refine SoundCall.go tk35 pl35 mixed Try.func35 cb35 rfl (Nat.le_of_ble_eq_true rfl) ?_
  refine s_seq ?_
  refine s_region ?_
  refine o_box (by first | exact e_raw rfl | exact e_agg rfl | exact e_sl rfl) rfl rfl (fun B1 hB1 => ?_)
  have ny1 : y ≠ B1 := Mem.fresh_ne hB1 (by repeat first | exact Mem.upd_self _ _ _ | assumption | refine Mem.upd_ne (by assumption) ?_)
  have ny1' := ny1.symm
  have m1 : M B1 = none := by have h := hB1; repeat (first | exact h | exact Mem.none_of_le hle h | replace h := (Mem.upd_none h).2)
  refine o_alloc zc61 (fun B2 hB2 => ?_)
  have ny2 : y ≠ B2 := Mem.fresh_ne hB2 (by repeat first | exact Mem.upd_self _ _ _ | assumption | refine Mem.upd_ne (by assumption) ?_)
  have ny2' := ny2.symm
  have f1_2 : B1 ≠ B2 := Mem.fresh_ne hB2 (by repeat first | exact Mem.upd_self _ _ _ | assumption | refine Mem.upd_ne (by assumption) ?_)
  have g2_1 : B2 ≠ B1 := f1_2.symm
  have m2 : M B2 = none := by have h := hB2; repeat (first | exact h | exact Mem.none_of_le hle h | replace h := (Mem.upd_none h).2)
  refine o_q (q_as (v_raw rfl)) rfl rfl rfl ?_
  refine o_nil ?_
  refine s_seq ?_
  refine s_region ?_
  refine o_q (q_ldmw ag61 sz61 rfl (by repeat first | exact Mem.upd_self _ _ _ | assumption | refine Mem.upd_ne (by assumption) ?_) rfl rfl) rfl rfl rfl ?_
  refine o_call (((snd39 s _ hs1 hs2).det)) goes39 (ac (v_agg rfl) ac_nil) rfl ?_
  refine o_q (q_as (v_raw rfl)) rfl rfl rfl ?_
  refine o_nil ?_
  refine s_seq ?_
  refine s_seq ?_
  refine s_draw rfl ?_
  refine d_q rfl (q_mv (v_raw rfl)) rfl rfl rfl ?_
  refine d_q rfl (q_not rfl) rfl rfl rfl ?_
  refine d_q rfl (q_mv (v_raw rfl)) rfl rfl rfl ?_
  refine d_cases (want := false) (j := 2) rfl rfl (fun h1 => ?_) (fun h1 => ?_)
  · have k1 := h1; try simp only [decide_eq_true_eq, decide_eq_false_iff_not, Bool.not_eq_true', Bool.not_eq_false', Bool.not_true, Bool.not_false, List.length_map, Decidable.not_not] at k1
    refine d_yes rfl (q_fr fo61_1 rfl) rfl rfl rfl h1 rfl rfl ?_
    refine d_yes rfl (q_ldm ag9 sz9 rfl (by repeat first | exact Mem.upd_self _ _ _ | assumption | refine Mem.upd_ne (by assumption) ?_) rfl (v_raw rfl)) rfl rfl rfl h1 rfl rfl ?_
    refine d_yes rfl (q_mv ((by first | exact v_raw rfl | exact v_sptr rfl))) rfl rfl rfl h1 rfl rfl ?_
    refine d_yes rfl (q_nil rfl) rfl rfl rfl h1 rfl rfl ?_
    refine d_yes rfl (q_fr fo98_0 rfl) rfl rfl rfl h1 rfl rfl ?_
    refine d_yes rfl (q_ldm ag9 sz9 rfl (by repeat first | exact Mem.upd_self _ _ _ | assumption | refine Mem.upd_ne (by assumption) ?_) rfl (v_raw rfl)) rfl rfl rfl h1 rfl rfl ?_
    refine d_yes rfl (q_sneq rfl rfl) rfl rfl rfl h1 rfl rfl ?_
    refine d_q rfl (q_pick_c (t := false) rfl h1 (v_raw rfl)) rfl rfl rfl ?_
    refine d_q rfl (q_mv (v_raw rfl)) rfl rfl rfl ?_
    refine d_cases (want := false) (j := 11) rfl rfl (fun h2 => ?_) (fun h2 => ?_)
    · have k2 := h2; try simp only [decide_eq_true_eq, decide_eq_false_iff_not, Bool.not_eq_true', Bool.not_eq_false', Bool.not_true, Bool.not_false, List.length_map, Decidable.not_not] at k2
      refine d_yes rfl (q_mv (v_raw rfl)) rfl rfl rfl h2 rfl rfl ?_
      refine d_yes rfl (q_lss rfl rfl) rfl rfl rfl h2 rfl rfl ?_
      refine d_q rfl (q_pick_c (t := false) rfl h2 (v_raw rfl)) rfl rfl rfl ?_
      refine d_q rfl (q_mv (v_raw rfl)) rfl rfl rfl ?_
      refine d_cases (want := false) (j := 15) rfl rfl (fun h3 => ?_) (fun h3 => ?_)
      · have k3 := h3; try simp only [decide_eq_true_eq, decide_eq_false_iff_not, Bool.not_eq_true', Bool.not_eq_false', Bool.not_true, Bool.not_false, List.length_map, Decidable.not_not] at k3
        refine d_yes rfl (q_mv (v_raw rfl)) rfl rfl rfl h3 rfl rfl ?_
        refine d_yes rfl (q_mv ((by first | exact v_raw rfl | exact v_sptr rfl))) rfl rfl rfl h3 rfl rfl ?_
        refine d_yes rfl (q_nil rfl) rfl rfl rfl h3 rfl rfl ?_
        refine d_yes rfl (q_fr fo98_2 rfl) rfl rfl rfl h3 rfl rfl ?_
        refine d_yes rfl (q_ldm ag3 sz3 rfl (by repeat first | exact Mem.upd_self _ _ _ | assumption | refine Mem.upd_ne (by assumption) ?_) rfl (v_raw rfl)) rfl rfl rfl h3 rfl rfl ?_
        refine d_yes rfl (q_gtr rfl rfl) rfl rfl rfl h3 rfl rfl ?_
        refine d_q rfl (q_pick_c (t := false) rfl h3 (v_raw rfl)) rfl rfl rfl ?_
        refine d_nil ?_
        refine s_cond rfl (fun h4 => ?_) (fun h4 => ?_)
        · have k4 := h4; try simp only [decide_eq_true_eq, decide_eq_false_iff_not, Bool.not_eq_true', Bool.not_eq_false', Bool.not_true, Bool.not_false, List.length_map, Decidable.not_not] at k4
          refine s_seq ?_
          refine s_region ?_
          refine o_q (q_ldmw ag61 sz61 rfl (by repeat first | exact Mem.upd_self _ _ _ | assumption | refine Mem.upd_ne (by assumption) ?_) rfl rfl) rfl rfl rfl ?_
          refine o_storew rfl (by repeat first | exact Mem.upd_self _ _ _ | assumption | refine Mem.upd_ne (by assumption) ?_) (by first | exact e_agg rfl | rfl) rfl sz61 rfl rfl rfl rfl ?_
          refine o_q (q_as (v_raw rfl)) rfl rfl rfl ?_
          refine o_nil ?_
          refine s_ret ?_
          refine s_code_ret ?_
          refine s_end ?_
          exact ret_many (.inl rfl) rfl (rl_c rfl (by repeat first | exact Mem.upd_self _ _ _ | assumption | refine Mem.upd_ne (by assumption) ?_) (loadP_w ag61 sz61 rfl rfl) rfl (rl_t rfl rl_nil)) rfl ⟨by unfold seekS; unfold ofS; split <;> first | rfl | (exfalso; simp_all; done) | (exfalso; simp_all; omega), (by repeat first | exact hle | exact Mem.le_refl M | assumption | exact Mem.none_of_le hle (by assumption) | refine Mem.le_upd ?_ ?_)⟩
        · have k4 := h4; try simp only [decide_eq_true_eq, decide_eq_false_iff_not, Bool.not_eq_true', Bool.not_eq_false', Bool.not_true, Bool.not_false, List.length_map, Decidable.not_not] at k4
          refine s_skip ?_
          refine s_seq ?_
          refine s_region ?_
          refine o_q (q_mv (v_raw rfl)) rfl rfl rfl ?_
          refine o_q (q_fr fo61_2 rfl) rfl rfl rfl ?_
          refine o_store rfl (by repeat first | exact Mem.upd_self _ _ _ | assumption | refine Mem.upd_ne (by assumption) ?_) (by first | exact e_raw rfl | exact e_agg rfl | exact e_sl rfl | rfl) rfl sz3 rfl (Nat.le_of_ble_eq_true rfl) rfl rfl ?_
          refine o_nil ?_
          refine s_seq ?_
          refine s_region ?_
          refine o_q (q_mv (v_raw rfl)) rfl rfl rfl ?_
          refine o_q (q_fr fo61_3 rfl) rfl rfl rfl ?_
          refine o_store rfl (by repeat first | exact Mem.upd_self _ _ _ | assumption | refine Mem.upd_ne (by assumption) ?_) (by first | exact e_raw rfl | exact e_agg rfl | exact e_sl rfl | rfl) rfl sz3 rfl (Nat.le_of_ble_eq_true rfl) rfl rfl ?_
          refine o_nil ?_
          refine s_seq ?_
          refine s_region ?_
          refine o_q (q_ldmw ag61 sz61 rfl (by repeat first | exact Mem.upd_self _ _ _ | assumption | refine Mem.upd_ne (by assumption) ?_) rfl rfl) rfl rfl rfl ?_
          refine o_storew rfl (by repeat first | exact Mem.upd_self _ _ _ | assumption | refine Mem.upd_ne (by assumption) ?_) (by first | exact e_agg rfl | rfl) rfl sz61 rfl rfl rfl rfl ?_
          refine o_q (q_as (v_raw rfl)) rfl rfl rfl ?_
          refine o_nil ?_
          refine s_ret ?_
          refine s_end ?_
          exact ret_many (.inl rfl) rfl (rl_c rfl (by repeat first | exact Mem.upd_self _ _ _ | assumption | refine Mem.upd_ne (by assumption) ?_) (loadP_w ag61 sz61 rfl rfl) rfl (rl_t rfl rl_nil)) rfl ⟨by unfold seekS; unfold ofS; split <;> first | rfl | (exfalso; simp_all; done) | (exfalso; simp_all; omega), (by repeat first | exact hle | exact Mem.le_refl M | assumption | exact Mem.none_of_le hle (by assumption) | refine Mem.le_upd ?_ ?_)⟩
      · have k3 := h3; try simp only [decide_eq_true_eq, decide_eq_false_iff_not, Bool.not_eq_true', Bool.not_eq_false', Bool.not_true, Bool.not_false, List.length_map, Decidable.not_not] at k3
        refine d_no rfl rfl rfl rfl h3 rfl ?_
        refine d_no rfl rfl rfl rfl h3 rfl ?_
        refine d_no rfl rfl rfl rfl h3 rfl ?_
        refine d_no rfl rfl rfl rfl h3 rfl ?_
        refine d_no rfl rfl rfl rfl h3 rfl ?_
        refine d_no rfl rfl rfl rfl h3 rfl ?_
        refine d_q rfl (q_pick_c (t := true) rfl h3 (v_raw rfl)) rfl rfl rfl ?_
        refine d_nil ?_
        refine s_then rfl rfl ?_
        refine s_seq ?_
        refine s_region ?_
        refine o_q (q_ldmw ag61 sz61 rfl (by repeat first | exact Mem.upd_self _ _ _ | assumption | refine Mem.upd_ne (by assumption) ?_) rfl rfl) rfl rfl rfl ?_
        refine o_storew rfl (by repeat first | exact Mem.upd_self _ _ _ | assumption | refine Mem.upd_ne (by assumption) ?_) (by first | exact e_agg rfl | rfl) rfl sz61 rfl rfl rfl rfl ?_
        refine o_q (q_as (v_raw rfl)) rfl rfl rfl ?_
        refine o_nil ?_
        refine s_ret ?_
        refine s_code_ret ?_
        refine s_end ?_
        exact ret_many (.inl rfl) rfl (rl_c rfl (by repeat first | exact Mem.upd_self _ _ _ | assumption | refine Mem.upd_ne (by assumption) ?_) (loadP_w ag61 sz61 rfl rfl) rfl (rl_t rfl rl_nil)) rfl ⟨by unfold seekS; unfold ofS; split <;> first | rfl | (exfalso; simp_all; done) | (exfalso; simp_all; omega), (by repeat first | exact hle | exact Mem.le_refl M | assumption | exact Mem.none_of_le hle (by assumption) | refine Mem.le_upd ?_ ?_)⟩
    · have k2 := h2; try simp only [decide_eq_true_eq, decide_eq_false_iff_not, Bool.not_eq_true', Bool.not_eq_false', Bool.not_true, Bool.not_false, List.length_map, Decidable.not_not] at k2
      refine d_no rfl rfl rfl rfl h2 rfl ?_
      refine d_no rfl rfl rfl rfl h2 rfl ?_
      refine d_q rfl (q_pick_c (t := true) rfl h2 (v_raw rfl)) rfl rfl rfl ?_
      refine d_q rfl (q_mv (v_raw rfl)) rfl rfl rfl ?_
      refine d_no rfl rfl rfl rfl rfl rfl ?_
      refine d_no rfl rfl rfl rfl rfl rfl ?_
      refine d_no rfl rfl rfl rfl rfl rfl ?_
      refine d_no rfl rfl rfl rfl rfl rfl ?_
      refine d_no rfl rfl rfl rfl rfl rfl ?_
      refine d_no rfl rfl rfl rfl rfl rfl ?_
      refine d_q rfl (q_pick_c (t := true) rfl rfl (v_raw rfl)) rfl rfl rfl ?_
      refine d_nil ?_
      refine s_then rfl rfl ?_
      refine s_seq ?_
      refine s_region ?_
      refine o_q (q_ldmw ag61 sz61 rfl (by repeat first | exact Mem.upd_self _ _ _ | assumption | refine Mem.upd_ne (by assumption) ?_) rfl rfl) rfl rfl rfl ?_
      refine o_storew rfl (by repeat first | exact Mem.upd_self _ _ _ | assumption | refine Mem.upd_ne (by assumption) ?_) (by first | exact e_agg rfl | rfl) rfl sz61 rfl rfl rfl rfl ?_
      refine o_q (q_as (v_raw rfl)) rfl rfl rfl ?_
      refine o_nil ?_
      refine s_ret ?_
      refine s_code_ret ?_
      refine s_end ?_
      exact ret_many (.inl rfl) rfl (rl_c rfl (by repeat first | exact Mem.upd_self _ _ _ | assumption | refine Mem.upd_ne (by assumption) ?_) (loadP_w ag61 sz61 rfl rfl) rfl (rl_t rfl rl_nil)) rfl ⟨by unfold seekS; unfold ofS; split <;> first | rfl | (exfalso; simp_all; done) | (exfalso; simp_all; omega), (by repeat first | exact hle | exact Mem.le_refl M | assumption | exact Mem.none_of_le hle (by assumption) | refine Mem.le_upd ?_ ?_)⟩
  · have k1 := h1; try simp only [decide_eq_true_eq, decide_eq_false_iff_not, Bool.not_eq_true', Bool.not_eq_false', Bool.not_true, Bool.not_false, List.length_map, Decidable.not_not] at k1
    refine d_no rfl rfl rfl rfl h1 rfl ?_
    refine d_no rfl rfl rfl rfl h1 rfl ?_
    refine d_no rfl rfl rfl rfl h1 rfl ?_
    refine d_no rfl rfl rfl rfl h1 rfl ?_
    refine d_no rfl rfl rfl rfl h1 rfl ?_
    refine d_no rfl rfl rfl rfl h1 rfl ?_
    refine d_no rfl rfl rfl rfl h1 rfl ?_
    refine d_q rfl (q_pick_c (t := true) rfl h1 (v_raw rfl)) rfl rfl rfl ?_
    refine d_q rfl (q_mv (v_raw rfl)) rfl rfl rfl ?_
    refine d_no rfl rfl rfl rfl rfl rfl ?_
    refine d_no rfl rfl rfl rfl rfl rfl ?_
    refine d_q rfl (q_pick_c (t := true) rfl rfl (v_raw rfl)) rfl rfl rfl ?_
    refine d_q rfl (q_mv (v_raw rfl)) rfl rfl rfl ?_
    refine d_no rfl rfl rfl rfl rfl rfl ?_
    refine d_no rfl rfl rfl rfl rfl rfl ?_
    refine d_no rfl rfl rfl rfl rfl rfl ?_
    refine d_no rfl rfl rfl rfl rfl rfl ?_
    refine d_no rfl rfl rfl rfl rfl rfl ?_
    refine d_no rfl rfl rfl rfl rfl rfl ?_
    refine d_q rfl (q_pick_c (t := true) rfl rfl (v_raw rfl)) rfl rfl rfl ?_
    refine d_nil ?_
    refine s_then rfl rfl ?_
    refine s_seq ?_
    refine s_region ?_
    refine o_q (q_ldmw ag61 sz61 rfl (by repeat first | exact Mem.upd_self _ _ _ | assumption | refine Mem.upd_ne (by assumption) ?_) rfl rfl) rfl rfl rfl ?_
    refine o_storew rfl (by repeat first | exact Mem.upd_self _ _ _ | assumption | refine Mem.upd_ne (by assumption) ?_) (by first | exact e_agg rfl | rfl) rfl sz61 rfl rfl rfl rfl ?_
    refine o_q (q_as (v_raw rfl)) rfl rfl rfl ?_
    refine o_nil ?_
    refine s_ret ?_
    refine s_code_ret ?_
    refine s_end ?_
    exact ret_many (.inl rfl) rfl (rl_c rfl (by repeat first | exact Mem.upd_self _ _ _ | assumption | refine Mem.upd_ne (by assumption) ?_) (loadP_w ag61 sz61 rfl rfl) rfl (rl_t rfl rl_nil)) rfl ⟨by unfold seekS; unfold ofS; split <;> first | rfl | (exfalso; simp_all; done) | (exfalso; simp_all; omega), (by repeat first | exact hle | exact Mem.le_refl M | assumption | exact Mem.none_of_le hle (by assumption) | refine Mem.le_upd ?_ ?_)⟩

def tk30 : Nat → Nat → Option Nat := fun _ _ => none
def pl30 : Nat → List PStep := fun _ => []
theorem cb30 : Try.f30.body.map (codeB Try.prog Try.f30.ntmps tk30 pl30) = some true := by kernel_rfl
theorem goes30 : goesB Try.prog 30 = true := by kernel_rfl
-- carillon/carillonref16.New params ['string', '*carillonref15.Topic', 'int'] results [['cell', 6, 61], ['t', 7]] own [] names ['0:name', '1:t', '2:first', '3:name', '4:t', '5:first', '8:ok'] calls [52] paths 6
set_option maxHeartbeats 4000000 in
set_option maxRecDepth 20000 in
theorem snd30 (n : ByteArray) (y v : Nat) (x : Tp) (o : Int) (M : Mem) (hy : M y = some (.cells (ryC v x))) (hs1 : n.size < 2 ^ 63) : SoundCall Try.prog 30 [str n, ptr y, int o] M fun r M' => r = .tup [encSb (newS n x o).1, int (newS n x o).2] ∧ M.le M' := by
  refine SoundCall.go tk30 pl30 mixed Try.func30 cb30 rfl (Nat.le_of_ble_eq_true rfl) ?_
  refine s_seq ?_
  refine s_region ?_
  refine o_alloc zc61 (fun B1 hB1 => ?_)
  have ny1 : y ≠ B1 := Mem.fresh_ne hB1 (by repeat first | exact Mem.upd_self _ _ _ | assumption | refine Mem.upd_ne (by assumption) ?_)
  have ny1' := ny1.symm
  have m1 : M B1 = none := by have h := hB1; repeat (first | exact h | exact Mem.none_of_le hle h | replace h := (Mem.upd_none h).2)
  refine o_q (q_as (v_raw rfl)) rfl rfl rfl ?_
  refine o_nil ?_
  refine s_seq ?_
  refine s_region ?_
  refine o_q (q_mv (v_raw rfl)) rfl rfl rfl ?_
  refine o_call ((snd52 n _ hs1)) goes52 (ac (v_raw rfl) ac_nil) rfl ?_
  refine o_q (q_as (v_raw rfl)) rfl rfl rfl ?_
  refine o_nil ?_
  refine s_seq ?_
  refine s_seq ?_
  refine s_region ?_
  refine o_q (q_mv (v_raw rfl)) rfl rfl rfl ?_
  refine o_q (q_lss rfl rfl) rfl rfl rfl ?_
  refine o_nil ?_
  refine s_cond rfl (fun h1 => ?_) (fun h1 => ?_)
  · have k1 := h1; try simp only [decide_eq_true_eq, decide_eq_false_iff_not, Bool.not_eq_true', Bool.not_eq_false', Bool.not_true, Bool.not_false, List.length_map, Decidable.not_not] at k1
    have e : (if o < 0 then x.en else o) = x.en := if_pos k1
    refine s_region ?_
    refine o_q (q_mv ((by first | exact v_raw rfl | exact v_sptr rfl))) rfl rfl rfl ?_
    refine o_q (q_nil rfl) rfl rfl rfl ?_
    refine o_q (q_fr fo98_2 rfl) rfl rfl rfl ?_
    refine o_q (q_ldm ag3 sz3 rfl (by repeat first | exact Mem.upd_self _ _ _ | assumption | refine Mem.upd_ne (by assumption) ?_) rfl (v_raw rfl)) rfl rfl rfl ?_
    refine o_q (q_as (v_raw rfl)) rfl rfl rfl ?_
    refine o_nil ?_
    refine s_seq ?_
    refine s_seq ?_
    refine s_region ?_
    refine o_q (q_mv (v_raw rfl)) rfl rfl rfl ?_
    refine o_q (q_not rfl) rfl rfl rfl ?_
    refine o_q (q_mv (v_raw rfl)) rfl rfl rfl ?_
    refine o_cases (want := false) (j := 2) rfl rfl (fun h2 => ?_) (fun h2 => ?_)
    · have k2 := h2; try simp only [decide_eq_true_eq, decide_eq_false_iff_not, Bool.not_eq_true', Bool.not_eq_false', Bool.not_true, Bool.not_false, List.length_map, Decidable.not_not] at k2
      refine o_yes rfl rfl rfl h2 ?_
      refine o_q (q_mv (v_raw rfl)) rfl rfl rfl ?_
      refine o_yes rfl rfl rfl h2 ?_
      refine o_q (q_mv ((by first | exact v_raw rfl | exact v_sptr rfl))) rfl rfl rfl ?_
      refine o_yes rfl rfl rfl h2 ?_
      refine o_q (q_nil rfl) rfl rfl rfl ?_
      refine o_yes rfl rfl rfl h2 ?_
      refine o_q (q_fr fo98_2 rfl) rfl rfl rfl ?_
      refine o_yes rfl rfl rfl h2 ?_
      refine o_q (q_ldm ag3 sz3 rfl (by repeat first | exact Mem.upd_self _ _ _ | assumption | refine Mem.upd_ne (by assumption) ?_) rfl (v_raw rfl)) rfl rfl rfl ?_
      refine o_yes rfl rfl rfl h2 ?_
      refine o_q (q_gtr rfl rfl) rfl rfl rfl ?_
      refine o_q (q_pick_c (t := false) rfl h2 (v_raw rfl)) rfl rfl rfl ?_
      refine o_nil ?_
      refine s_cond rfl (fun h3 => ?_) (fun h3 => ?_)
      · have k3 := h3; try simp only [decide_eq_true_eq, decide_eq_false_iff_not, Bool.not_eq_true', Bool.not_eq_false', Bool.not_true, Bool.not_false, List.length_map, Decidable.not_not] at k3
        refine s_seq ?_
        refine s_region ?_
        refine o_q (q_b (cs := [.raw (.string { data := #[] }), .raw (.string { data := #[] }), .raw (.int .i64 0), .raw (.int .i64 0)]) bz61 bp61 bf_nil) rfl rfl rfl ?_
        refine o_storew rfl (by repeat first | exact Mem.upd_self _ _ _ | assumption | refine Mem.upd_ne (by assumption) ?_) (by first | exact e_agg rfl | rfl) rfl sz61 rfl rfl rfl rfl ?_
        refine o_q (q_as (v_raw rfl)) rfl rfl rfl ?_
        refine o_nil ?_
        refine s_ret ?_
        refine s_code_ret ?_
        refine s_end ?_
        exact ret_many (.inl rfl) rfl (rl_c rfl (by repeat first | exact Mem.upd_self _ _ _ | assumption | refine Mem.upd_ne (by assumption) ?_) (loadP_w ag61 sz61 rfl rfl) rfl (rl_t rfl rl_nil)) rfl ⟨by unfold newS; simp only [e]; split <;> first | rfl | (exfalso; simp_all; done) | (exfalso; simp_all; omega), (by repeat first | exact hle | exact Mem.le_refl M | assumption | exact Mem.none_of_le hle (by assumption) | refine Mem.le_upd ?_ ?_)⟩
      · have k3 := h3; try simp only [decide_eq_true_eq, decide_eq_false_iff_not, Bool.not_eq_true', Bool.not_eq_false', Bool.not_true, Bool.not_false, List.length_map, Decidable.not_not] at k3
        refine s_skip ?_
        refine s_seq ?_
        refine s_region ?_
        refine o_q (q_mv (v_raw rfl)) rfl rfl rfl ?_
        refine o_q (q_mv ((by first | exact v_raw rfl | exact v_sptr rfl))) rfl rfl rfl ?_
        refine o_q (q_nil rfl) rfl rfl rfl ?_
        refine o_q (q_fr fo98_0 rfl) rfl rfl rfl ?_
        refine o_q (q_ldm ag9 sz9 rfl (by repeat first | exact Mem.upd_self _ _ _ | assumption | refine Mem.upd_ne (by assumption) ?_) rfl (v_raw rfl)) rfl rfl rfl ?_
        refine o_q (q_mv (v_raw rfl)) rfl rfl rfl ?_
        refine o_q (q_mv (v_raw rfl)) rfl rfl rfl ?_
        refine o_q (q_b (cs := [_, _, _, _]) bz61 bp61 (bf fo61_0 (e_raw rfl) rfl rfl (Nat.le_of_ble_eq_true rfl) rfl (bf fo61_1 (e_raw rfl) rfl rfl (Nat.le_of_ble_eq_true rfl) rfl (bf fo61_2 (e_raw rfl) rfl rfl (Nat.le_of_ble_eq_true rfl) rfl (bf fo61_3 (e_raw rfl) rfl rfl (Nat.le_of_ble_eq_true rfl) rfl bf_nil))))) rfl rfl rfl ?_
        refine o_storew rfl (by repeat first | exact Mem.upd_self _ _ _ | assumption | refine Mem.upd_ne (by assumption) ?_) (by first | exact e_agg rfl | rfl) rfl sz61 rfl rfl rfl rfl ?_
        refine o_q (q_as (v_raw rfl)) rfl rfl rfl ?_
        refine o_nil ?_
        refine s_ret ?_
        refine s_end ?_
        exact ret_many (.inl rfl) rfl (rl_c rfl (by repeat first | exact Mem.upd_self _ _ _ | assumption | refine Mem.upd_ne (by assumption) ?_) (loadP_w ag61 sz61 rfl rfl) rfl (rl_t rfl rl_nil)) rfl ⟨by unfold newS; simp only [e]; split <;> first | rfl | (exfalso; simp_all; done) | (exfalso; simp_all; omega), (by repeat first | exact hle | exact Mem.le_refl M | assumption | exact Mem.none_of_le hle (by assumption) | refine Mem.le_upd ?_ ?_)⟩
    · have k2 := h2; try simp only [decide_eq_true_eq, decide_eq_false_iff_not, Bool.not_eq_true', Bool.not_eq_false', Bool.not_true, Bool.not_false, List.length_map, Decidable.not_not] at k2
      refine o_no rfl rfl rfl rfl h2 ?_
      refine o_no rfl rfl rfl rfl h2 ?_
      refine o_no rfl rfl rfl rfl h2 ?_
      refine o_no rfl rfl rfl rfl h2 ?_
      refine o_no rfl rfl rfl rfl h2 ?_
      refine o_no rfl rfl rfl rfl h2 ?_
      refine o_q (q_pick_c (t := true) rfl h2 (v_raw rfl)) rfl rfl rfl ?_
      refine o_nil ?_
      refine s_then rfl rfl ?_
      refine s_seq ?_
      refine s_region ?_
      refine o_q (q_b (cs := [.raw (.string { data := #[] }), .raw (.string { data := #[] }), .raw (.int .i64 0), .raw (.int .i64 0)]) bz61 bp61 bf_nil) rfl rfl rfl ?_
      refine o_storew rfl (by repeat first | exact Mem.upd_self _ _ _ | assumption | refine Mem.upd_ne (by assumption) ?_) (by first | exact e_agg rfl | rfl) rfl sz61 rfl rfl rfl rfl ?_
      refine o_q (q_as (v_raw rfl)) rfl rfl rfl ?_
      refine o_nil ?_
      refine s_ret ?_
      refine s_code_ret ?_
      refine s_end ?_
      exact ret_many (.inl rfl) rfl (rl_c rfl (by repeat first | exact Mem.upd_self _ _ _ | assumption | refine Mem.upd_ne (by assumption) ?_) (loadP_w ag61 sz61 rfl rfl) rfl (rl_t rfl rl_nil)) rfl ⟨by unfold newS; simp only [e]; split <;> first | rfl | (exfalso; simp_all; done) | (exfalso; simp_all; omega), (by repeat first | exact hle | exact Mem.le_refl M | assumption | exact Mem.none_of_le hle (by assumption) | refine Mem.le_upd ?_ ?_)⟩
  · have k1 := h1; try simp only [decide_eq_true_eq, decide_eq_false_iff_not, Bool.not_eq_true', Bool.not_eq_false', Bool.not_true, Bool.not_false, List.length_map, Decidable.not_not] at k1
    have e : (if o < 0 then x.en else o) = o := if_neg k1
    refine s_skip ?_
    refine s_seq ?_
    refine s_seq ?_
    refine s_region ?_
    refine o_q (q_mv (v_raw rfl)) rfl rfl rfl ?_
    refine o_q (q_not rfl) rfl rfl rfl ?_
    refine o_q (q_mv (v_raw rfl)) rfl rfl rfl ?_
    refine o_cases (want := false) (j := 2) rfl rfl (fun h4 => ?_) (fun h4 => ?_)
    · have k4 := h4; try simp only [decide_eq_true_eq, decide_eq_false_iff_not, Bool.not_eq_true', Bool.not_eq_false', Bool.not_true, Bool.not_false, List.length_map, Decidable.not_not] at k4
      refine o_yes rfl rfl rfl h4 ?_
      refine o_q (q_mv (v_raw rfl)) rfl rfl rfl ?_
      refine o_yes rfl rfl rfl h4 ?_
      refine o_q (q_mv ((by first | exact v_raw rfl | exact v_sptr rfl))) rfl rfl rfl ?_
      refine o_yes rfl rfl rfl h4 ?_
      refine o_q (q_nil rfl) rfl rfl rfl ?_
      refine o_yes rfl rfl rfl h4 ?_
      refine o_q (q_fr fo98_2 rfl) rfl rfl rfl ?_
      refine o_yes rfl rfl rfl h4 ?_
      refine o_q (q_ldm ag3 sz3 rfl (by repeat first | exact Mem.upd_self _ _ _ | assumption | refine Mem.upd_ne (by assumption) ?_) rfl (v_raw rfl)) rfl rfl rfl ?_
      refine o_yes rfl rfl rfl h4 ?_
      refine o_q (q_gtr rfl rfl) rfl rfl rfl ?_
      refine o_q (q_pick_c (t := false) rfl h4 (v_raw rfl)) rfl rfl rfl ?_
      refine o_nil ?_
      refine s_cond rfl (fun h5 => ?_) (fun h5 => ?_)
      · have k5 := h5; try simp only [decide_eq_true_eq, decide_eq_false_iff_not, Bool.not_eq_true', Bool.not_eq_false', Bool.not_true, Bool.not_false, List.length_map, Decidable.not_not] at k5
        refine s_seq ?_
        refine s_region ?_
        refine o_q (q_b (cs := [.raw (.string { data := #[] }), .raw (.string { data := #[] }), .raw (.int .i64 0), .raw (.int .i64 0)]) bz61 bp61 bf_nil) rfl rfl rfl ?_
        refine o_storew rfl (by repeat first | exact Mem.upd_self _ _ _ | assumption | refine Mem.upd_ne (by assumption) ?_) (by first | exact e_agg rfl | rfl) rfl sz61 rfl rfl rfl rfl ?_
        refine o_q (q_as (v_raw rfl)) rfl rfl rfl ?_
        refine o_nil ?_
        refine s_ret ?_
        refine s_code_ret ?_
        refine s_end ?_
        exact ret_many (.inl rfl) rfl (rl_c rfl (by repeat first | exact Mem.upd_self _ _ _ | assumption | refine Mem.upd_ne (by assumption) ?_) (loadP_w ag61 sz61 rfl rfl) rfl (rl_t rfl rl_nil)) rfl ⟨by unfold newS; simp only [e]; split <;> first | rfl | (exfalso; simp_all; done) | (exfalso; simp_all; omega), (by repeat first | exact hle | exact Mem.le_refl M | assumption | exact Mem.none_of_le hle (by assumption) | refine Mem.le_upd ?_ ?_)⟩
      · have k5 := h5; try simp only [decide_eq_true_eq, decide_eq_false_iff_not, Bool.not_eq_true', Bool.not_eq_false', Bool.not_true, Bool.not_false, List.length_map, Decidable.not_not] at k5
        refine s_skip ?_
        refine s_seq ?_
        refine s_region ?_
        refine o_q (q_mv (v_raw rfl)) rfl rfl rfl ?_
        refine o_q (q_mv ((by first | exact v_raw rfl | exact v_sptr rfl))) rfl rfl rfl ?_
        refine o_q (q_nil rfl) rfl rfl rfl ?_
        refine o_q (q_fr fo98_0 rfl) rfl rfl rfl ?_
        refine o_q (q_ldm ag9 sz9 rfl (by repeat first | exact Mem.upd_self _ _ _ | assumption | refine Mem.upd_ne (by assumption) ?_) rfl (v_raw rfl)) rfl rfl rfl ?_
        refine o_q (q_mv (v_raw rfl)) rfl rfl rfl ?_
        refine o_q (q_mv (v_raw rfl)) rfl rfl rfl ?_
        refine o_q (q_b (cs := [_, _, _, _]) bz61 bp61 (bf fo61_0 (e_raw rfl) rfl rfl (Nat.le_of_ble_eq_true rfl) rfl (bf fo61_1 (e_raw rfl) rfl rfl (Nat.le_of_ble_eq_true rfl) rfl (bf fo61_2 (e_raw rfl) rfl rfl (Nat.le_of_ble_eq_true rfl) rfl (bf fo61_3 (e_raw rfl) rfl rfl (Nat.le_of_ble_eq_true rfl) rfl bf_nil))))) rfl rfl rfl ?_
        refine o_storew rfl (by repeat first | exact Mem.upd_self _ _ _ | assumption | refine Mem.upd_ne (by assumption) ?_) (by first | exact e_agg rfl | rfl) rfl sz61 rfl rfl rfl rfl ?_
        refine o_q (q_as (v_raw rfl)) rfl rfl rfl ?_
        refine o_nil ?_
        refine s_ret ?_
        refine s_end ?_
        exact ret_many (.inl rfl) rfl (rl_c rfl (by repeat first | exact Mem.upd_self _ _ _ | assumption | refine Mem.upd_ne (by assumption) ?_) (loadP_w ag61 sz61 rfl rfl) rfl (rl_t rfl rl_nil)) rfl ⟨by unfold newS; simp only [e]; split <;> first | rfl | (exfalso; simp_all; done) | (exfalso; simp_all; omega), (by repeat first | exact hle | exact Mem.le_refl M | assumption | exact Mem.none_of_le hle (by assumption) | refine Mem.le_upd ?_ ?_)⟩
    · have k4 := h4; try simp only [decide_eq_true_eq, decide_eq_false_iff_not, Bool.not_eq_true', Bool.not_eq_false', Bool.not_true, Bool.not_false, List.length_map, Decidable.not_not] at k4
      refine o_no rfl rfl rfl rfl h4 ?_
      refine o_no rfl rfl rfl rfl h4 ?_
      refine o_no rfl rfl rfl rfl h4 ?_
      refine o_no rfl rfl rfl rfl h4 ?_
      refine o_no rfl rfl rfl rfl h4 ?_
      refine o_no rfl rfl rfl rfl h4 ?_
      refine o_q (q_pick_c (t := true) rfl h4 (v_raw rfl)) rfl rfl rfl ?_
      refine o_nil ?_
      refine s_then rfl rfl ?_
      refine s_seq ?_
      refine s_region ?_
      refine o_q (q_b (cs := [.raw (.string { data := #[] }), .raw (.string { data := #[] }), .raw (.int .i64 0), .raw (.int .i64 0)]) bz61 bp61 bf_nil) rfl rfl rfl ?_
      refine o_storew rfl (by repeat first | exact Mem.upd_self _ _ _ | assumption | refine Mem.upd_ne (by assumption) ?_) (by first | exact e_agg rfl | rfl) rfl sz61 rfl rfl rfl rfl ?_
      refine o_q (q_as (v_raw rfl)) rfl rfl rfl ?_
      refine o_nil ?_
      refine s_ret ?_
      refine s_code_ret ?_
      refine s_end ?_
      exact ret_many (.inl rfl) rfl (rl_c rfl (by repeat first | exact Mem.upd_self _ _ _ | assumption | refine Mem.upd_ne (by assumption) ?_) (loadP_w ag61 sz61 rfl rfl) rfl (rl_t rfl rl_nil)) rfl ⟨by unfold newS; simp only [e]; split <;> first | rfl | (exfalso; simp_all; done) | (exfalso; simp_all; omega), (by repeat first | exact hle | exact Mem.le_refl M | assumption | exact Mem.none_of_le hle (by assumption) | refine Mem.le_upd ?_ ?_)⟩

def tk28 : Nat → Nat → Option Nat := fun _ _ => none
def pl28 : Nat → List PStep := fun _ => []
theorem cb28 : Try.f28.body.map (codeB Try.prog Try.f28.ntmps tk28 pl28) = some true := by kernel_rfl
theorem goes28 : goesB Try.prog 28 = true := by kernel_rfl
-- carillon/carillonref15.New params ['string'] results [['t', 2]] own [] names ['0:name', '1:name', '3:ok'] calls [52] paths 1
set_option maxHeartbeats 4000000 in
set_option maxRecDepth 20000 in
theorem snd28 (M : Mem) : SoundCall Try.prog 28 [str (bs 116)] M fun r M' => ∃ y l, M y = none ∧ r = ptr y ∧ l.map nilOwn = ryC 0 ⟨bs 116, 0, 0, [], []⟩ ∧ M' y = some (.cells l) ∧ M.le M' := by
  refine SoundCall.go tk28 pl28 mixed Try.func28 cb28 rfl (Nat.le_of_ble_eq_true rfl) ?_
  refine s_seq ?_
  refine s_region ?_
  refine o_q (q_as ((by first | exact v_raw rfl | exact v_sptr rfl))) rfl rfl rfl ?_
  refine o_nil ?_
  refine s_seq ?_
  refine s_region ?_
  refine o_q (q_mv (v_raw rfl)) rfl rfl rfl ?_
  refine o_call ((snd52 (bs 116) _ (by decide))) goes52 (ac (v_raw rfl) ac_nil) rfl ?_
  refine o_q (q_as (v_raw rfl)) rfl rfl rfl ?_
  refine o_nil ?_
  refine s_seq ?_
  refine s_seq ?_
  refine s_region ?_
  refine o_q (q_mv (v_raw rfl)) rfl rfl rfl ?_
  refine o_q (q_not rfl) rfl rfl rfl ?_
  refine o_nil ?_
  refine s_else rfl (by kernel_rfl) ?_
  refine s_skip ?_
  refine s_seq ?_
  refine s_region ?_
  refine o_q (q_mv (v_raw rfl)) rfl rfl rfl ?_
  refine o_q (q_b (cs := [_, .raw (.int .i64 0), .raw (.int .i64 0), .raw (.slice none 0 0), .raw (.slice none 0 0)]) bz98 bp98 (bf fo98_0 (e_raw rfl) rfl rfl (Nat.le_of_ble_eq_true rfl) rfl bf_nil)) rfl rfl rfl ?_
  refine o_box (by first | exact e_raw rfl | exact e_agg rfl | exact e_sl rfl) rfl rfl (fun B1 hB1 => ?_)
  have m1 : M B1 = none := by have h := hB1; repeat (first | exact h | exact Mem.none_of_le hle h | replace h := (Mem.upd_none h).2)
  refine o_q (q_as ((by first | exact v_raw rfl | exact v_sptr rfl))) rfl rfl rfl ?_
  refine o_nil ?_
  refine s_ret ?_
  refine s_end ?_
  exact ⟨B1, _, hB1, rfl, rfl, (by repeat first | exact Mem.upd_self _ _ _ | assumption | refine Mem.upd_ne (by assumption) ?_), (by repeat first | exact hle | exact Mem.le_refl M | assumption | exact Mem.none_of_le hle (by assumption) | refine Mem.le_upd ?_ ?_)⟩

def tk53 : Nat → Nat → Option Nat := fun _ _ => none
def pl53 : Nat → List PStep
  | 4 => [.q 0, .q 1, .q 2, .q 3, .q 4, .q 5, .q 6, .q 7, .q 8, .q 9, .q 10, .q 11, .q 12, .q 13, .q 14, .q 15, .q 16, .q 17, .q 18, .q 19, .q 20, .q 21]
  | _ => []
theorem cb53 : Try.f53.body.map (codeB Try.prog Try.f53.ntmps tk53 pl53) = some true := by kernel_rfl
theorem goes53 : goesB Try.prog 53 = true := by kernel_rfl
-- (*carillon/carillonref15.Topic).find params ['*carillonref15.Topic', 'string'] results [['t', 4], ['t', 5]] own [] names ['0:t', '1:name', '2:t', '3:name', '6:k'] calls [] paths 1

theorem blss (x y : Operand) : aBin Try.prog .lss 9 x y (str (bs 112)) (str (bs 112)) = some (.raw (.bool false)) := by kernel_rfl
theorem newY (M : Mem) : SoundCall Try.prog 28 [str (bs 116)] M fun r M' => ∃ y, M y = none ∧ r = ptr y ∧ M' = M.upd y (.cells (ryC 0 ⟨bs 116, 0, 0, [], []⟩)) :=
  (snd28 M).recast fun r M' h => by
    obtain ⟨y, l, h1, h4, h5, h6, h8⟩ := h
    refine ⟨_, Mem.imp_trans (Mem.imp_nil h6) (M'' := M.upd y (.cells (ryC 0 ⟨bs 116, 0, 0, [], []⟩))) ?_, y, h1, h4, rfl⟩
    intro b o hb
    unfold Mem.upd at hb
    unfold Mem.upd
    by_cases e : b = y
    · rw [if_pos e] at hb ⊢
      rw [h5]; exact ⟨_, rfl, by cases hb; exact fun _ _ _ h => h⟩
    · rw [if_neg e] at hb ⊢
      exact ⟨_, h8 b o hb, fun _ _ _ h => h⟩
set_option maxHeartbeats 4000000 in
set_option maxRecDepth 20000 in
theorem snd53a (y : Nat) (x : Tp) (M : Mem) (hy : M y = some (.cells (ryC 0 x))) : SoundCall Try.prog 53 [ptr y, str (bs 112)] M fun r M' => r = .tup [int 0, bool false] ∧ M' = M := by
  refine SoundCall.go tk53 pl53 mixed Try.func53 cb53 rfl (Nat.le_of_ble_eq_true rfl) ?_
  refine s_seq ?_
  refine s_region ?_
  refine o_q (q_as (v_raw rfl)) rfl rfl rfl ?_
  refine o_q (q_as (v_raw rfl)) rfl rfl rfl ?_
  refine o_nil ?_
  refine s_seq ?_
  refine s_region ?_
  refine o_q (q_as (v_raw rfl)) rfl rfl rfl ?_
  refine o_nil ?_
  refine s_seq ?_
  refine s_block ?_
  refine s_loop (fun m S => ∃ T, S = ⟨setT (setT (setT T 0 (ptr y)) 1 (str (bs 112))) 6 (int 0), M⟩ ∧ m = 0) 0 ?_ ?_
  · exact ⟨_, St.mkT (kp (kp (kp rfl rfl) rfl) rfl).symm, rfl⟩
  rintro m S ⟨T, rfl, rfl⟩
  refine s_seq ?_
  refine s_seq ?_
  refine s_region ?_
  refine o_q (q_mv (v_raw rfl)) rfl rfl rfl ?_
  refine o_q (q_mv ((by first | exact v_raw rfl | exact v_sptr rfl))) rfl rfl rfl ?_
  refine o_q (q_nil rfl) rfl rfl rfl ?_
  refine o_q (q_fr fo98_3 rfl) rfl rfl rfl ?_
  refine o_q (q_ldm ag96 sz96 rfl (by repeat first | exact Mem.upd_self _ _ _ | assumption | refine Mem.upd_ne (by assumption) ?_) rfl (v_sl rfl)) rfl rfl rfl ?_
  refine o_q (q_len rfl und96 rfl) rfl rfl rfl ?_
  refine o_q (q_lss rfl rfl) rfl rfl rfl ?_
  refine o_q (q_mv (v_raw rfl)) rfl rfl rfl ?_
  refine o_no rfl rfl rfl rfl (by decide) ?_
  refine o_no rfl rfl rfl rfl (by decide) ?_
  refine o_no rfl rfl rfl rfl (by decide) ?_
  refine o_no rfl rfl rfl rfl (by decide) ?_
  refine o_no rfl rfl rfl rfl (by decide) ?_
  refine o_no rfl rfl rfl rfl (by decide) ?_
  refine o_no rfl rfl rfl rfl (by decide) ?_
  refine o_no rfl rfl rfl rfl (by decide) ?_
  refine o_no rfl rfl rfl rfl (by decide) ?_
  refine o_no rfl rfl rfl rfl (by decide) ?_
  refine o_q (q_pick_c (t := false) rfl (by decide) (v_raw rfl)) rfl rfl rfl ?_
  refine o_nil ?_
  refine s_else rfl rfl ?_
  refine s_exit ?_
  refine s_code_exit ?_
  refine s_inv_exit ?_
  refine s_blk_here ?_
  refine s_seq ?_
  refine s_draw rfl ?_
  refine d_q rfl (q_mv (v_raw rfl)) rfl rfl rfl ?_
  refine d_q rfl (q_mv (v_raw rfl)) rfl rfl rfl ?_
  refine d_q rfl (q_mv ((by first | exact v_raw rfl | exact v_sptr rfl))) rfl rfl rfl ?_
  refine d_q rfl (q_nil rfl) rfl rfl rfl ?_
  refine d_q rfl (q_fr fo98_3 rfl) rfl rfl rfl ?_
  refine d_q rfl (q_ldm ag96 sz96 rfl (by repeat first | exact Mem.upd_self _ _ _ | assumption | refine Mem.upd_ne (by assumption) ?_) rfl (v_sl rfl)) rfl rfl rfl ?_
  refine d_q rfl (q_len rfl und96 rfl) rfl rfl rfl ?_
  refine d_q rfl (q_lss rfl rfl) rfl rfl rfl ?_
  refine d_q rfl (q_mv (v_raw rfl)) rfl rfl rfl ?_
  refine d_no rfl rfl rfl rfl (by decide) rfl ?_
  refine d_no rfl rfl rfl rfl (by decide) rfl ?_
  refine d_no rfl rfl rfl rfl (by decide) rfl ?_
  refine d_no rfl rfl rfl rfl (by decide) rfl ?_
  refine d_no rfl rfl rfl rfl (by decide) rfl ?_
  refine d_no rfl rfl rfl rfl (by decide) rfl ?_
  refine d_no rfl rfl rfl rfl (by decide) rfl ?_
  refine d_no rfl rfl rfl rfl (by decide) rfl ?_
  refine d_no rfl rfl rfl rfl (by decide) rfl ?_
  refine d_no rfl rfl rfl rfl (by decide) rfl ?_
  refine d_q rfl (q_pick_c (t := false) rfl (by decide) (v_raw rfl)) rfl rfl rfl ?_
  refine d_q rfl (q_as (v_raw rfl)) rfl rfl rfl ?_
  refine d_q rfl (q_as (v_raw rfl)) rfl rfl rfl ?_
  refine d_nil ?_
  refine s_ret ?_
  refine s_end ?_
  exact ret_many (.inl rfl) rfl (rl_t rfl (rl_t rfl rl_nil)) rfl ⟨rfl, rfl⟩

-- (*carillon/carillonref15.Topic).find params ['*carillonref15.Topic', 'string'] results [['t', 4], ['t', 5]] own [] names ['0:t', '1:name', '2:t', '3:name', '6:k'] calls [] paths 1
set_option maxHeartbeats 4000000 in
set_option maxRecDepth 20000 in
theorem snd53b (k : Nat) (y : Nat) (x : Tp) (M : Mem) (hy : M y = some (.cells (ryC (k + 1) x))) : SoundCall Try.prog 53 [ptr y, str (bs 112)] M fun r M' => r = .tup [int 0, bool true] ∧ M' = M := by
  refine SoundCall.go tk53 pl53 mixed Try.func53 cb53 rfl (Nat.le_of_ble_eq_true rfl) ?_
  refine s_seq ?_
  refine s_region ?_
  refine o_q (q_as (v_raw rfl)) rfl rfl rfl ?_
  refine o_q (q_as (v_raw rfl)) rfl rfl rfl ?_
  refine o_nil ?_
  refine s_seq ?_
  refine s_region ?_
  refine o_q (q_as (v_raw rfl)) rfl rfl rfl ?_
  refine o_nil ?_
  refine s_seq ?_
  refine s_block ?_
  refine s_loop (fun m S => ∃ T, S = ⟨setT (setT (setT T 0 (ptr y)) 1 (str (bs 112))) 6 (int 0), M⟩ ∧ m = 0) 0 ?_ ?_
  · exact ⟨_, St.mkT (kp (kp (kp rfl rfl) rfl) rfl).symm, rfl⟩
  rintro m S ⟨T, rfl, rfl⟩
  refine s_seq ?_
  refine s_seq ?_
  refine s_region ?_
  refine o_q (q_mv (v_raw rfl)) rfl rfl rfl ?_
  refine o_q (q_mv ((by first | exact v_raw rfl | exact v_sptr rfl))) rfl rfl rfl ?_
  refine o_q (q_nil rfl) rfl rfl rfl ?_
  refine o_q (q_fr fo98_3 rfl) rfl rfl rfl ?_
  refine o_q (q_ldm ag96 sz96 rfl (by repeat first | exact Mem.upd_self _ _ _ | assumption | refine Mem.upd_ne (by assumption) ?_) rfl (v_sl rfl)) rfl rfl rfl ?_
  refine o_q (q_len rfl und96 rfl) rfl rfl rfl ?_
  refine o_q (q_lss rfl rfl) rfl rfl rfl ?_
  refine o_q (q_mv (v_raw rfl)) rfl rfl rfl ?_
  refine o_yes rfl rfl rfl rfl ?_
  refine o_q (q_mv ((by first | exact v_raw rfl | exact v_sptr rfl))) rfl rfl rfl ?_
  refine o_yes rfl rfl rfl rfl ?_
  refine o_q (q_nil rfl) rfl rfl rfl ?_
  refine o_yes rfl rfl rfl rfl ?_
  refine o_q (q_fr fo98_3 rfl) rfl rfl rfl ?_
  refine o_yes rfl rfl rfl rfl ?_
  refine o_q (q_ldm ag96 sz96 rfl (by repeat first | exact Mem.upd_self _ _ _ | assumption | refine Mem.upd_ne (by assumption) ?_) rfl (v_sl rfl)) rfl rfl rfl ?_
  refine o_yes rfl rfl rfl rfl ?_
  refine o_q (q_mv (v_raw rfl)) rfl rfl rfl ?_
  refine o_yes rfl rfl rfl rfl ?_
  refine o_q (q_idx und96 sz102 rfl rfl (by omega) (gm (l := [(k : Int)]) 0 (by first | omega | simp)) rfl) rfl rfl rfl ?_
  refine o_yes rfl rfl rfl rfl ?_
  refine o_q (q_f fo102_0 rfl) rfl rfl rfl ?_
  refine o_yes rfl rfl rfl rfl ?_
  refine o_q (q_ld ag9 sz9 rfl (gm (l := [(k : Int)]) 0 (by first | omega | simp)) rfl (v_raw rfl)) rfl rfl rfl ?_
  refine o_yes rfl rfl rfl rfl ?_
  refine o_q (q_mv (v_raw rfl)) rfl rfl rfl ?_
  refine o_yes rfl rfl rfl rfl ?_
  refine o_q (q_bin' (A := str (bs 112)) (A' := str (bs 112)) (V := .bool false) rfl rfl (blss _ _)) rfl rfl rfl ?_
  refine o_q (q_pick_c (t := true) rfl rfl (v_raw rfl)) rfl rfl rfl ?_
  refine o_nil ?_
  refine s_else rfl rfl ?_
  refine s_exit ?_
  refine s_code_exit ?_
  refine s_inv_exit ?_
  refine s_blk_here ?_
  refine s_seq ?_
  refine s_draw rfl ?_
  refine d_q rfl (q_mv (v_raw rfl)) rfl rfl rfl ?_
  refine d_q rfl (q_mv (v_raw rfl)) rfl rfl rfl ?_
  refine d_q rfl (q_mv ((by first | exact v_raw rfl | exact v_sptr rfl))) rfl rfl rfl ?_
  refine d_q rfl (q_nil rfl) rfl rfl rfl ?_
  refine d_q rfl (q_fr fo98_3 rfl) rfl rfl rfl ?_
  refine d_q rfl (q_ldm ag96 sz96 rfl (by repeat first | exact Mem.upd_self _ _ _ | assumption | refine Mem.upd_ne (by assumption) ?_) rfl (v_sl rfl)) rfl rfl rfl ?_
  refine d_q rfl (q_len rfl und96 rfl) rfl rfl rfl ?_
  refine d_q rfl (q_lss rfl rfl) rfl rfl rfl ?_
  refine d_q rfl (q_mv (v_raw rfl)) rfl rfl rfl ?_
  refine d_yes rfl (q_mv ((by first | exact v_raw rfl | exact v_sptr rfl))) rfl rfl rfl rfl rfl rfl ?_
  refine d_yes rfl (q_nil rfl) rfl rfl rfl rfl rfl rfl ?_
  refine d_yes rfl (q_fr fo98_3 rfl) rfl rfl rfl rfl rfl rfl ?_
  refine d_yes rfl (q_ldm ag96 sz96 rfl (by repeat first | exact Mem.upd_self _ _ _ | assumption | refine Mem.upd_ne (by assumption) ?_) rfl (v_sl rfl)) rfl rfl rfl rfl rfl rfl ?_
  refine d_yes rfl (q_mv (v_raw rfl)) rfl rfl rfl rfl rfl rfl ?_
  refine d_yes rfl (q_idx und96 sz102 rfl rfl (by omega) (gm (l := [(k : Int)]) 0 (by first | omega | simp)) rfl) rfl rfl rfl rfl rfl rfl ?_
  refine d_yes rfl (q_f fo102_0 rfl) rfl rfl rfl rfl rfl rfl ?_
  refine d_yes rfl (q_ld ag9 sz9 rfl (gm (l := [(k : Int)]) 0 (by first | omega | simp)) rfl (v_raw rfl)) rfl rfl rfl rfl rfl rfl ?_
  refine d_yes rfl (q_mv (v_raw rfl)) rfl rfl rfl rfl rfl rfl ?_
  refine d_yes rfl (q_seql rfl rfl) rfl rfl rfl rfl rfl rfl ?_
  refine d_q rfl (q_pick_c (t := true) rfl rfl (v_raw rfl)) rfl rfl rfl ?_
  refine d_q rfl (q_as (v_raw rfl)) rfl rfl rfl ?_
  refine d_q rfl (q_as (v_raw rfl)) rfl rfl rfl ?_
  refine d_nil ?_
  refine s_ret ?_
  refine s_end ?_
  exact ret_many (.inl rfl) rfl (rl_t rfl (rl_t rfl rl_nil)) rfl ⟨congrArg (fun b => AVal.tup [int 0, bool b]) (by simp), rfl⟩

def tk29 : Nat → Nat → Option Nat
  | 10, 0 => some 0
  | 11, 0 => some 0
  | 11, 8 => some 0
  | 12, 0 => some 0
  | 12, 4 => some 0
  | 15, 1 => some 0
  | 16, 0 => some 0
  | 17, 0 => some 0
  | 17, 6 => some 0
  | 18, 1 => some 0
  | _, _ => none
def pl29 : Nat → List PStep := fun _ => []
theorem cb29 : Try.f29.body.map (codeB Try.prog Try.f29.ntmps tk29 pl29) = some true := by kernel_rfl
theorem goes29 : goesB Try.prog 29 = true := by kernel_rfl
-- (*carillon/carillonref15.Topic).Publish params ['*carillonref15.Topic', 'string', 'int', 'string', 'string'] results [['t', 10], ['t', 11]] own [87, 95, 103, 113, 120, 16, 17, 94, 98, 118] names ['0:t', '1:producer', '2:seq', '3:key', '4:value', '5:t', '6:producer', '7:seq', '8:key', '9:value', '12:ok', '13:k', '14:there', '15:p', '16:l', '17:recs'] calls [52, 53] paths 1

theorem le_y {M M' : Mem} {y : Nat} {l L : List AVal} (h1 : M' y = some (.cells l)) (h3 : ∀ c o, c ≠ y → M c = some o → M' c = some o) (hl : l = L) : (M.upd y (.cells L)).le M' := fun c o hc => by
  subst hl
  unfold Mem.upd at hc
  by_cases e : c = y
  · rw [if_pos e] at hc; cases hc; rw [e]; exact h1
  · rw [if_neg e] at hc; exact h3 c o e hc
set_option maxHeartbeats 4000000 in
set_option maxRecDepth 20000 in
theorem snd29a (y : Nat) (x : Tp) (M : Mem) (hy : M y = some (.cells (ryC (0) x))) (hen : x.en = ((0 : Nat) : Int)) (hv : 0 < 2 ^ 40) (hlen : x.recs.length < 2 ^ 40) : SoundCall Try.prog 29 [ptr y, str (bs 112), int ((0 : Nat) : Int), str emp, str emp] M fun r M' => r = .tup [int x.en, int 0] ∧ (M.upd y (.cells (ryC (0 + 1) (px x (bs 112) ((0 : Nat) : Int) emp emp)))).le M' := by
  refine SoundCall.go tk29 pl29 mixed Try.func29 cb29 rfl (Nat.le_of_ble_eq_true rfl) ?_
  refine s_seq ?_
  refine s_region ?_
  refine o_q (q_as (v_raw rfl)) rfl rfl rfl ?_
  refine o_q (q_as (v_raw rfl)) rfl rfl rfl ?_
  refine o_nil ?_
  refine s_seq ?_
  refine s_region ?_
  refine o_q (q_mv (v_raw rfl)) rfl rfl rfl ?_
  refine o_call ((snd52 (bs 112) _ (by decide))) goes52 (ac (v_raw rfl) ac_nil) rfl ?_
  refine o_q (q_as (v_raw rfl)) rfl rfl rfl ?_
  refine o_nil ?_
  refine s_seq ?_
  refine s_seq ?_
  refine s_region ?_
  refine o_q (q_mv (v_raw rfl)) rfl rfl rfl ?_
  refine o_q (q_not rfl) rfl rfl rfl ?_
  refine o_q (q_mv (v_raw rfl)) rfl rfl rfl ?_
  refine o_yes rfl rfl rfl (by kernel_rfl) ?_
  refine o_q (q_mv (v_raw rfl)) rfl rfl rfl ?_
  refine o_yes rfl rfl rfl (by kernel_rfl) ?_
  refine o_q (q_lss rfl rfl) rfl rfl rfl ?_
  refine o_q (q_pick_c (t := false) rfl (by kernel_rfl) (v_raw rfl)) rfl rfl rfl ?_
  refine o_q (q_mv (v_raw rfl)) rfl rfl rfl ?_
  refine o_yes rfl rfl rfl (decide_eq_false (by omega)) ?_
  refine o_q (q_mv (v_raw rfl)) rfl rfl rfl ?_
  refine o_yes rfl rfl rfl (decide_eq_false (by omega)) ?_
  refine o_q (q_gtr rfl rfl) rfl rfl rfl ?_
  refine o_q (q_pick_c (t := false) rfl (decide_eq_false (by omega)) (v_raw rfl)) rfl rfl rfl ?_
  refine o_q (q_mv (v_raw rfl)) rfl rfl rfl ?_
  refine o_yes rfl rfl rfl (decide_eq_false (by omega)) ?_
  refine o_q (q_mv (v_raw rfl)) rfl rfl rfl ?_
  refine o_yes rfl rfl rfl (decide_eq_false (by omega)) ?_
  refine o_q (q_lens rfl und9 rfl) rfl rfl rfl ?_
  refine o_yes rfl rfl rfl (decide_eq_false (by omega)) ?_
  refine o_q (q_gtr rfl rfl) rfl rfl rfl ?_
  refine o_q (q_pick_c (t := false) rfl (decide_eq_false (by omega)) (v_raw rfl)) rfl rfl rfl ?_
  refine o_q (q_mv (v_raw rfl)) rfl rfl rfl ?_
  refine o_yes rfl rfl rfl (by kernel_rfl) ?_
  refine o_q (q_mv (v_raw rfl)) rfl rfl rfl ?_
  refine o_yes rfl rfl rfl (by kernel_rfl) ?_
  refine o_q (q_lens rfl und9 rfl) rfl rfl rfl ?_
  refine o_yes rfl rfl rfl (by kernel_rfl) ?_
  refine o_q (q_gtr rfl rfl) rfl rfl rfl ?_
  refine o_q (q_pick_c (t := false) rfl (by kernel_rfl) (v_raw rfl)) rfl rfl rfl ?_
  refine o_nil ?_
  refine s_else rfl (by kernel_rfl) ?_
  refine s_skip ?_
  refine s_seq ?_
  refine s_region ?_
  refine o_q (q_mv ((by first | exact v_raw rfl | exact v_sptr rfl))) rfl rfl rfl ?_
  refine o_q (q_mv (v_raw rfl)) rfl rfl rfl ?_
  refine o_call ((snd53a y x _ (by repeat first | exact Mem.upd_self _ _ _ | assumption | refine Mem.upd_ne (by assumption) ?_))) goes53 (ac ((by first | exact v_raw rfl | exact v_sptr rfl)) (ac (v_raw rfl) ac_nil)) rfl ?_
  refine o_q (q_mv (v_tup rfl)) rfl rfl rfl ?_
  refine o_q (q_ext rfl rfl (v_raw rfl)) rfl rfl rfl ?_
  refine o_q (q_ext rfl rfl (v_raw rfl)) rfl rfl rfl ?_
  refine o_q (q_as (v_raw rfl)) rfl rfl rfl ?_
  refine o_q (q_as (v_raw rfl)) rfl rfl rfl ?_
  refine o_nil ?_
  refine s_seq ?_
  refine s_seq ?_
  refine s_region ?_
  refine o_q (q_mv (v_raw rfl)) rfl rfl rfl ?_
  refine o_q (q_mv (v_raw rfl)) rfl rfl rfl ?_
  refine o_no rfl rfl rfl rfl rfl ?_
  refine o_no rfl rfl rfl rfl rfl ?_
  refine o_no rfl rfl rfl rfl rfl ?_
  refine o_no rfl rfl rfl rfl rfl ?_
  refine o_no rfl rfl rfl rfl rfl ?_
  refine o_no rfl rfl rfl rfl rfl ?_
  refine o_no rfl rfl rfl rfl rfl ?_
  refine o_no rfl rfl rfl rfl rfl ?_
  refine o_no rfl rfl rfl rfl rfl ?_
  refine o_no rfl rfl rfl rfl rfl ?_
  refine o_q (q_pick_c (t := false) rfl rfl (v_raw rfl)) rfl rfl rfl ?_
  refine o_nil ?_
  refine s_else rfl rfl ?_
  refine s_skip ?_
  refine s_seq ?_
  refine s_seq ?_
  refine s_region ?_
  refine o_q (q_mv (v_raw rfl)) rfl rfl rfl ?_
  refine o_q (q_mv (v_raw rfl)) rfl rfl rfl ?_
  refine o_no rfl rfl rfl rfl rfl ?_
  refine o_no rfl rfl rfl rfl rfl ?_
  refine o_no rfl rfl rfl rfl rfl ?_
  refine o_no rfl rfl rfl rfl rfl ?_
  refine o_no rfl rfl rfl rfl rfl ?_
  refine o_no rfl rfl rfl rfl rfl ?_
  refine o_no rfl rfl rfl rfl rfl ?_
  refine o_no rfl rfl rfl rfl rfl ?_
  refine o_no rfl rfl rfl rfl rfl ?_
  refine o_no rfl rfl rfl rfl rfl ?_
  refine o_q (q_pick_c (t := false) rfl rfl (v_raw rfl)) rfl rfl rfl ?_
  refine o_nil ?_
  refine s_else rfl rfl ?_
  refine s_skip ?_
  refine s_seq ?_
  refine s_region ?_
  refine o_q (q_mv (v_raw rfl)) rfl rfl rfl ?_
  refine o_q (q_mv (v_raw rfl)) rfl rfl rfl ?_
  refine o_q (q_mv ((by first | exact v_raw rfl | exact v_sptr rfl))) rfl rfl rfl ?_
  refine o_q (q_nil rfl) rfl rfl rfl ?_
  refine o_q (q_fr fo98_2 rfl) rfl rfl rfl ?_
  refine o_q (q_ldm ag3 sz3 rfl (by repeat first | exact Mem.upd_self _ _ _ | assumption | refine Mem.upd_ne (by assumption) ?_) rfl (v_raw rfl)) rfl rfl rfl ?_
  refine o_q (q_b (cs := [_, _, _]) bz102 bp102 (bf fo102_0 (e_raw rfl) rfl rfl (Nat.le_of_ble_eq_true rfl) rfl (bf fo102_1 (e_raw rfl) rfl rfl (Nat.le_of_ble_eq_true rfl) rfl (bf fo102_2 (e_raw rfl) rfl rfl (Nat.le_of_ble_eq_true rfl) rfl bf_nil)))) rfl rfl rfl ?_
  refine o_alloc zc102 (fun B1 hB1 => ?_)
  have ny1 : y ≠ B1 := Mem.fresh_ne hB1 (by repeat first | exact Mem.upd_self _ _ _ | assumption | refine Mem.upd_ne (by assumption) ?_)
  have ny1' := ny1.symm
  have m1 : M B1 = none := by have h := hB1; repeat (first | exact h | exact Mem.none_of_le hle h | replace h := (Mem.upd_none h).2)
  refine o_storew rfl (by repeat first | exact Mem.upd_self _ _ _ | assumption | refine Mem.upd_ne (by assumption) ?_) (by first | exact e_agg rfl | rfl) rfl sz102 rfl rfl rfl rfl ?_
  refine o_nil ?_
  refine s_seq ?_
  refine s_region ?_
  refine o_q (q_as_const rfl) rfl rfl rfl ?_
  refine o_nil ?_
  refine s_seq ?_
  refine s_region ?_
  refine o_qs (q_mv_own rfl) rfl rfl rfl rfl ?_
  refine o_q (q_mv ((by first | exact v_raw rfl | exact v_sptr rfl))) rfl rfl rfl ?_
  refine o_q (q_nil rfl) rfl rfl rfl ?_
  refine o_q (q_fr fo98_3 rfl) rfl rfl rfl ?_
  refine o_q (q_ldm ag96 sz96 rfl (by repeat first | exact Mem.upd_self _ _ _ | assumption | refine Mem.upd_ne (by assumption) ?_) rfl (v_sl rfl)) rfl rfl rfl ?_
  refine o_q (q_mv (v_raw rfl)) rfl rfl rfl ?_
  refine o_q (q_sl_hi (n := 0) und96 sz102 rfl elsPr (ab rfl rfl) (Nat.zero_le _)) rfl rfl rfl ?_
  refine o_qs (q_app slt96 rfl rfl rfl rfl (by first | exact Els.nil | exact Els.cons rfl rfl Els.nil | exact elsPr) (by first | exact (by first | exact Els.nil | exact Els.cons rfl rfl Els.nil | exact elsPr) | exact Els.cons rfl rfl Els.nil) (by first | decide | (simp; omega) | (simp [prs]; done) | (simp [prs]; omega))) rfl rfl rfl rfl ?_
  refine o_qs (q_as_own rfl) rfl rfl rfl rfl ?_
  refine o_nil ?_
  refine s_seq ?_
  refine s_region ?_
  refine o_qs (q_mv_own rfl) rfl rfl rfl rfl ?_
  refine o_q (q_ldmw ag102 sz102 rfl (by repeat first | exact Mem.upd_self _ _ _ | assumption | refine Mem.upd_ne (by assumption) ?_) rfl rfl) rfl rfl rfl ?_
  refine o_q (q_bs slt96 (pc (v_agg rfl) pn) rfl (Els.cons rfl rfl Els.nil) (by decide)) rfl rfl rfl ?_
  refine o_qs (q_app slt96 rfl rfl rfl rfl (by first | exact Els.nil | exact Els.cons rfl rfl Els.nil | exact elsPr) (by first | exact (by first | exact Els.nil | exact Els.cons rfl rfl Els.nil | exact elsPr) | exact Els.cons rfl rfl Els.nil) (by first | decide | (simp; omega) | (simp [prs]; done) | (simp [prs]; omega))) rfl rfl rfl rfl ?_
  refine o_qs (q_as_own rfl) rfl rfl rfl rfl ?_
  refine o_nil ?_
  refine s_seq ?_
  refine s_seq ?_
  refine s_region ?_
  refine o_q (q_mv (v_raw rfl)) rfl rfl rfl ?_
  refine o_nil ?_
  refine s_else rfl rfl ?_
  refine s_skip ?_
  refine s_seq ?_
  refine s_region ?_
  refine o_q (q_mv ((by first | exact v_raw rfl | exact v_sptr rfl))) rfl rfl rfl ?_
  refine o_qs (q_mv_own rfl) rfl rfl rfl rfl ?_
  refine o_q (q_mv ((by first | exact v_raw rfl | exact v_sptr rfl))) rfl rfl rfl ?_
  refine o_q (q_nil rfl) rfl rfl rfl ?_
  refine o_q (q_fr fo98_3 rfl) rfl rfl rfl ?_
  refine o_q (q_ldm ag96 sz96 rfl (by repeat first | exact Mem.upd_self _ _ _ | assumption | refine Mem.upd_ne (by assumption) ?_) rfl (v_sl rfl)) rfl rfl rfl ?_
  refine o_q (q_mv (v_raw rfl)) rfl rfl rfl ?_
  refine o_q (q_sl_lo (n := 0) und96 sz102 rfl elsPr (ab rfl rfl) (by simp [prs])) rfl rfl rfl ?_
  refine o_qs (q_app slt96 rfl rfl rfl rfl (by first | exact Els.nil | exact Els.cons rfl rfl Els.nil | exact elsPr) (by first | exact (by first | exact Els.nil | exact Els.cons rfl rfl Els.nil | exact elsPr) | exact Els.cons rfl rfl Els.nil) (by first | decide | (simp; omega) | (simp [prs]; done) | (simp [prs]; omega))) rfl rfl rfl rfl ?_
  refine o_q (q_nil rfl) rfl rfl rfl ?_
  refine o_q (q_fr fo98_3 rfl) rfl rfl rfl ?_
  refine o_store_own rfl (by repeat first | exact Mem.upd_self _ _ _ | assumption | refine Mem.upd_ne (by assumption) ?_) rfl sz96 (Nat.le_of_ble_eq_true rfl) ?_
  refine o_nil ?_
  refine s_seq ?_
  refine s_region ?_
  refine o_q (q_as_const rfl) rfl rfl rfl ?_
  refine o_nil ?_
  refine s_seq ?_
  refine s_region ?_
  refine o_qs (q_mv_own rfl) rfl rfl rfl rfl ?_
  refine o_q (q_mv ((by first | exact v_raw rfl | exact v_sptr rfl))) rfl rfl rfl ?_
  refine o_q (q_nil rfl) rfl rfl rfl ?_
  refine o_q (q_fr fo98_4 rfl) rfl rfl rfl ?_
  refine o_q (q_ldm ag28 sz28 rfl (by repeat first | exact Mem.upd_self _ _ _ | assumption | refine Mem.upd_ne (by assumption) ?_) rfl (v_sl rfl)) rfl rfl rfl ?_
  refine o_qs (q_app slt28 rfl rfl rfl rfl (by first | exact Els.nil | exact elsR | exact Els.cons rfl rfl Els.nil) (by first | exact (by first | exact Els.nil | exact elsR | exact Els.cons rfl rfl Els.nil) | exact Els.cons rfl rfl Els.nil) (by first | decide | (simp; omega) | (simp [prs]; done) | (simp [prs]; omega))) rfl rfl rfl rfl ?_
  refine o_qs (q_as_own rfl) rfl rfl rfl rfl ?_
  refine o_nil ?_
  refine s_seq ?_
  refine s_region ?_
  refine o_q (q_mv ((by first | exact v_raw rfl | exact v_sptr rfl))) rfl rfl rfl ?_
  refine o_qs (q_mv_own rfl) rfl rfl rfl rfl ?_
  refine o_q (q_mv ((by first | exact v_raw rfl | exact v_sptr rfl))) rfl rfl rfl ?_
  refine o_q (q_nil rfl) rfl rfl rfl ?_
  refine o_q (q_fr fo98_2 rfl) rfl rfl rfl ?_
  refine o_q (q_ldm ag3 sz3 rfl (by repeat first | exact Mem.upd_self _ _ _ | assumption | refine Mem.upd_ne (by assumption) ?_) rfl (v_raw rfl)) rfl rfl rfl ?_
  refine o_q (q_mv (v_raw rfl)) rfl rfl rfl ?_
  refine o_q (q_mv (v_raw rfl)) rfl rfl rfl ?_
  refine o_q (q_mv (v_raw rfl)) rfl rfl rfl ?_
  refine o_q (q_mv (v_raw rfl)) rfl rfl rfl ?_
  refine o_q (q_b (cs := [_, _, _, _, _]) bz35 bp35 (bf fo35_0 (e_raw rfl) rfl rfl (Nat.le_of_ble_eq_true rfl) rfl (bf fo35_1 (e_raw rfl) rfl rfl (Nat.le_of_ble_eq_true rfl) rfl (bf fo35_2 (e_raw rfl) rfl rfl (Nat.le_of_ble_eq_true rfl) rfl (bf fo35_3 (e_raw rfl) rfl rfl (Nat.le_of_ble_eq_true rfl) rfl (bf fo35_4 (e_raw rfl) rfl rfl (Nat.le_of_ble_eq_true rfl) rfl bf_nil)))))) rfl rfl rfl ?_
  refine o_q (q_bs slt28 (pc (v_agg rfl) pn) rfl (Els.cons rfl rfl Els.nil) (by decide)) rfl rfl rfl ?_
  refine o_qs (q_app slt28 rfl rfl rfl rfl (by first | exact Els.nil | exact elsR | exact Els.cons rfl rfl Els.nil) (by first | exact (by first | exact Els.nil | exact elsR | exact Els.cons rfl rfl Els.nil) | exact Els.cons rfl rfl Els.nil) (by first | decide | (simp; omega) | (simp [prs]; done) | (simp [prs]; omega))) rfl rfl rfl rfl ?_
  refine o_q (q_nil rfl) rfl rfl rfl ?_
  refine o_q (q_fr fo98_4 rfl) rfl rfl rfl ?_
  refine o_store_own rfl (by repeat first | exact Mem.upd_self _ _ _ | assumption | refine Mem.upd_ne (by assumption) ?_) rfl sz28 (Nat.le_of_ble_eq_true rfl) ?_
  refine o_nil ?_
  refine s_seq ?_
  refine s_region ?_
  refine o_q (q_mv ((by first | exact v_raw rfl | exact v_sptr rfl))) rfl rfl rfl ?_
  refine o_q (q_nil rfl) rfl rfl rfl ?_
  refine o_q (q_fr fo98_2 rfl) rfl rfl rfl ?_
  refine o_q (q_ldm ag3 sz3 rfl (by repeat first | exact Mem.upd_self _ _ _ | assumption | refine Mem.upd_ne (by assumption) ?_) rfl (v_raw rfl)) rfl rfl rfl ?_
  refine o_q (q_add rfl rfl (wrap64 (by omega) (by omega))) rfl rfl rfl ?_
  refine o_q (q_nil rfl) rfl rfl rfl ?_
  refine o_q (q_fr fo98_2 rfl) rfl rfl rfl ?_
  refine o_store rfl (by repeat first | exact Mem.upd_self _ _ _ | assumption | refine Mem.upd_ne (by assumption) ?_) (by first | exact e_raw rfl | exact e_agg rfl | exact e_sl rfl | rfl) rfl sz3 rfl (Nat.le_of_ble_eq_true rfl) rfl rfl ?_
  refine o_nil ?_
  refine s_seq ?_
  refine s_region ?_
  refine o_q (q_fr fo102_2 rfl) rfl rfl rfl ?_
  refine o_q (q_ldm ag3 sz3 rfl (by repeat first | exact Mem.upd_self _ _ _ | assumption | refine Mem.upd_ne (by assumption) ?_) rfl (v_raw rfl)) rfl rfl rfl ?_
  refine o_q (q_as (v_raw rfl)) rfl rfl rfl ?_
  refine o_q (q_as (v_raw rfl)) rfl rfl rfl ?_
  refine o_nil ?_
  refine s_ret ?_
  refine s_end ?_
  exact ret_many (.inl rfl) rfl (rl_t rfl (rl_t rfl rl_nil)) rfl ⟨rfl, le_y (by repeat first | exact Mem.upd_self _ _ _ | assumption | refine Mem.upd_ne (by assumption) ?_) (fun c o e1 hc => by repeat first | exact hc | refine Mem.upd_ne (by first | exact e1 | exact Mem.ne_none hc (by assumption)) ?_) (by simp [ryC, prs, encPr, enc, newR, hen]; rfl)⟩

-- (*carillon/carillonref15.Topic).Publish params ['*carillonref15.Topic', 'string', 'int', 'string', 'string'] results [['t', 10], ['t', 11]] own [87, 95, 103, 113, 120, 16, 17, 94, 98, 118] names ['0:t', '1:producer', '2:seq', '3:key', '4:value', '5:t', '6:producer', '7:seq', '8:key', '9:value', '12:ok', '13:k', '14:there', '15:p', '16:l', '17:recs'] calls [52, 53] paths 1
set_option maxHeartbeats 4000000 in
set_option maxRecDepth 20000 in
theorem snd29b (k : Nat) (y : Nat) (x : Tp) (M : Mem) (hy : M y = some (.cells (ryC (k + 1) x))) (hen : x.en = ((k + 1 : Nat) : Int)) (hv : k + 1 < 2 ^ 40) (hlen : x.recs.length < 2 ^ 40) : SoundCall Try.prog 29 [ptr y, str (bs 112), int ((k + 1 : Nat) : Int), str emp, str emp] M fun r M' => r = .tup [int x.en, int 0] ∧ (M.upd y (.cells (ryC (k + 1 + 1) (px x (bs 112) ((k + 1 : Nat) : Int) emp emp)))).le M' := by
  have hk0 : ([(k : Int)])[0] = k := rfl
  refine SoundCall.go tk29 pl29 mixed Try.func29 cb29 rfl (Nat.le_of_ble_eq_true rfl) ?_
  refine s_seq ?_
  refine s_region ?_
  refine o_q (q_as (v_raw rfl)) rfl rfl rfl ?_
  refine o_q (q_as (v_raw rfl)) rfl rfl rfl ?_
  refine o_nil ?_
  refine s_seq ?_
  refine s_region ?_
  refine o_q (q_mv (v_raw rfl)) rfl rfl rfl ?_
  refine o_call ((snd52 (bs 112) _ (by decide))) goes52 (ac (v_raw rfl) ac_nil) rfl ?_
  refine o_q (q_as (v_raw rfl)) rfl rfl rfl ?_
  refine o_nil ?_
  refine s_seq ?_
  refine s_seq ?_
  refine s_region ?_
  refine o_q (q_mv (v_raw rfl)) rfl rfl rfl ?_
  refine o_q (q_not rfl) rfl rfl rfl ?_
  refine o_q (q_mv (v_raw rfl)) rfl rfl rfl ?_
  refine o_yes rfl rfl rfl (by kernel_rfl) ?_
  refine o_q (q_mv (v_raw rfl)) rfl rfl rfl ?_
  refine o_yes rfl rfl rfl (by kernel_rfl) ?_
  refine o_q (q_lss rfl rfl) rfl rfl rfl ?_
  refine o_q (q_pick_c (t := false) rfl (by kernel_rfl) (v_raw rfl)) rfl rfl rfl ?_
  refine o_q (q_mv (v_raw rfl)) rfl rfl rfl ?_
  refine o_yes rfl rfl rfl (decide_eq_false (by omega)) ?_
  refine o_q (q_mv (v_raw rfl)) rfl rfl rfl ?_
  refine o_yes rfl rfl rfl (decide_eq_false (by omega)) ?_
  refine o_q (q_gtr rfl rfl) rfl rfl rfl ?_
  refine o_q (q_pick_c (t := false) rfl (decide_eq_false (by omega)) (v_raw rfl)) rfl rfl rfl ?_
  refine o_q (q_mv (v_raw rfl)) rfl rfl rfl ?_
  refine o_yes rfl rfl rfl (decide_eq_false (by omega)) ?_
  refine o_q (q_mv (v_raw rfl)) rfl rfl rfl ?_
  refine o_yes rfl rfl rfl (decide_eq_false (by omega)) ?_
  refine o_q (q_lens rfl und9 rfl) rfl rfl rfl ?_
  refine o_yes rfl rfl rfl (decide_eq_false (by omega)) ?_
  refine o_q (q_gtr rfl rfl) rfl rfl rfl ?_
  refine o_q (q_pick_c (t := false) rfl (decide_eq_false (by omega)) (v_raw rfl)) rfl rfl rfl ?_
  refine o_q (q_mv (v_raw rfl)) rfl rfl rfl ?_
  refine o_yes rfl rfl rfl (by kernel_rfl) ?_
  refine o_q (q_mv (v_raw rfl)) rfl rfl rfl ?_
  refine o_yes rfl rfl rfl (by kernel_rfl) ?_
  refine o_q (q_lens rfl und9 rfl) rfl rfl rfl ?_
  refine o_yes rfl rfl rfl (by kernel_rfl) ?_
  refine o_q (q_gtr rfl rfl) rfl rfl rfl ?_
  refine o_q (q_pick_c (t := false) rfl (by kernel_rfl) (v_raw rfl)) rfl rfl rfl ?_
  refine o_nil ?_
  refine s_else rfl (by kernel_rfl) ?_
  refine s_skip ?_
  refine s_seq ?_
  refine s_region ?_
  refine o_q (q_mv ((by first | exact v_raw rfl | exact v_sptr rfl))) rfl rfl rfl ?_
  refine o_q (q_mv (v_raw rfl)) rfl rfl rfl ?_
  refine o_call ((snd53b k y x _ (by repeat first | exact Mem.upd_self _ _ _ | assumption | refine Mem.upd_ne (by assumption) ?_))) goes53 (ac ((by first | exact v_raw rfl | exact v_sptr rfl)) (ac (v_raw rfl) ac_nil)) rfl ?_
  refine o_q (q_mv (v_tup rfl)) rfl rfl rfl ?_
  refine o_q (q_ext rfl rfl (v_raw rfl)) rfl rfl rfl ?_
  refine o_q (q_ext rfl rfl (v_raw rfl)) rfl rfl rfl ?_
  refine o_q (q_as (v_raw rfl)) rfl rfl rfl ?_
  refine o_q (q_as (v_raw rfl)) rfl rfl rfl ?_
  refine o_nil ?_
  refine s_seq ?_
  refine s_seq ?_
  refine s_region ?_
  refine o_q (q_mv (v_raw rfl)) rfl rfl rfl ?_
  refine o_q (q_mv (v_raw rfl)) rfl rfl rfl ?_
  refine o_yes rfl rfl rfl rfl ?_
  refine o_q (q_mv ((by first | exact v_raw rfl | exact v_sptr rfl))) rfl rfl rfl ?_
  refine o_yes rfl rfl rfl rfl ?_
  refine o_q (q_nil rfl) rfl rfl rfl ?_
  refine o_yes rfl rfl rfl rfl ?_
  refine o_q (q_fr fo98_3 rfl) rfl rfl rfl ?_
  refine o_yes rfl rfl rfl rfl ?_
  refine o_q (q_ldm ag96 sz96 rfl (by repeat first | exact Mem.upd_self _ _ _ | assumption | refine Mem.upd_ne (by assumption) ?_) rfl (v_sl rfl)) rfl rfl rfl ?_
  refine o_yes rfl rfl rfl rfl ?_
  refine o_q (q_mv (v_raw rfl)) rfl rfl rfl ?_
  refine o_yes rfl rfl rfl rfl ?_
  refine o_q (q_idx und96 sz102 rfl rfl (by omega) (gm (l := [(k : Int)]) 0 (by first | omega | simp)) rfl) rfl rfl rfl ?_
  refine o_yes rfl rfl rfl rfl ?_
  refine o_q (q_f fo102_1 rfl) rfl rfl rfl ?_
  refine o_yes rfl rfl rfl rfl ?_
  refine o_q (q_ld ag3 sz3 rfl (gm (l := [(k : Int)]) 0 (by first | omega | simp)) rfl (v_raw rfl)) rfl rfl rfl ?_
  refine o_yes rfl rfl rfl rfl ?_
  refine o_q (q_mv (v_raw rfl)) rfl rfl rfl ?_
  refine o_yes rfl rfl rfl rfl ?_
  refine o_q (q_eql rfl rfl) rfl rfl rfl ?_
  refine o_q (q_pick_c (t := true) rfl rfl (v_raw rfl)) rfl rfl rfl ?_
  refine o_nil ?_
  refine s_else rfl (decide_eq_false (by omega)) ?_
  refine s_skip ?_
  refine s_seq ?_
  refine s_seq ?_
  refine s_region ?_
  refine o_q (q_mv (v_raw rfl)) rfl rfl rfl ?_
  refine o_q (q_mv (v_raw rfl)) rfl rfl rfl ?_
  refine o_yes rfl rfl rfl rfl ?_
  refine o_q (q_mv ((by first | exact v_raw rfl | exact v_sptr rfl))) rfl rfl rfl ?_
  refine o_yes rfl rfl rfl rfl ?_
  refine o_q (q_nil rfl) rfl rfl rfl ?_
  refine o_yes rfl rfl rfl rfl ?_
  refine o_q (q_fr fo98_3 rfl) rfl rfl rfl ?_
  refine o_yes rfl rfl rfl rfl ?_
  refine o_q (q_ldm ag96 sz96 rfl (by repeat first | exact Mem.upd_self _ _ _ | assumption | refine Mem.upd_ne (by assumption) ?_) rfl (v_sl rfl)) rfl rfl rfl ?_
  refine o_yes rfl rfl rfl rfl ?_
  refine o_q (q_mv (v_raw rfl)) rfl rfl rfl ?_
  refine o_yes rfl rfl rfl rfl ?_
  refine o_q (q_idx und96 sz102 rfl rfl (by omega) (gm (l := [(k : Int)]) 0 (by first | omega | simp)) rfl) rfl rfl rfl ?_
  refine o_yes rfl rfl rfl rfl ?_
  refine o_q (q_f fo102_1 rfl) rfl rfl rfl ?_
  refine o_yes rfl rfl rfl rfl ?_
  refine o_q (q_ld ag3 sz3 rfl (gm (l := [(k : Int)]) 0 (by first | omega | simp)) rfl (v_raw rfl)) rfl rfl rfl ?_
  refine o_yes rfl rfl rfl rfl ?_
  refine o_q (q_mv (v_raw rfl)) rfl rfl rfl ?_
  refine o_yes rfl rfl rfl rfl ?_
  refine o_q (q_gtr rfl rfl) rfl rfl rfl ?_
  refine o_q (q_pick_c (t := true) rfl rfl (v_raw rfl)) rfl rfl rfl ?_
  refine o_nil ?_
  refine s_else rfl (decide_eq_false (by omega)) ?_
  refine s_skip ?_
  refine s_seq ?_
  refine s_region ?_
  refine o_q (q_mv (v_raw rfl)) rfl rfl rfl ?_
  refine o_q (q_mv (v_raw rfl)) rfl rfl rfl ?_
  refine o_q (q_mv ((by first | exact v_raw rfl | exact v_sptr rfl))) rfl rfl rfl ?_
  refine o_q (q_nil rfl) rfl rfl rfl ?_
  refine o_q (q_fr fo98_2 rfl) rfl rfl rfl ?_
  refine o_q (q_ldm ag3 sz3 rfl (by repeat first | exact Mem.upd_self _ _ _ | assumption | refine Mem.upd_ne (by assumption) ?_) rfl (v_raw rfl)) rfl rfl rfl ?_
  refine o_q (q_b (cs := [_, _, _]) bz102 bp102 (bf fo102_0 (e_raw rfl) rfl rfl (Nat.le_of_ble_eq_true rfl) rfl (bf fo102_1 (e_raw rfl) rfl rfl (Nat.le_of_ble_eq_true rfl) rfl (bf fo102_2 (e_raw rfl) rfl rfl (Nat.le_of_ble_eq_true rfl) rfl bf_nil)))) rfl rfl rfl ?_
  refine o_alloc zc102 (fun B1 hB1 => ?_)
  have ny1 : y ≠ B1 := Mem.fresh_ne hB1 (by repeat first | exact Mem.upd_self _ _ _ | assumption | refine Mem.upd_ne (by assumption) ?_)
  have ny1' := ny1.symm
  have m1 : M B1 = none := by have h := hB1; repeat (first | exact h | exact Mem.none_of_le hle h | replace h := (Mem.upd_none h).2)
  refine o_storew rfl (by repeat first | exact Mem.upd_self _ _ _ | assumption | refine Mem.upd_ne (by assumption) ?_) (by first | exact e_agg rfl | rfl) rfl sz102 rfl rfl rfl rfl ?_
  refine o_nil ?_
  refine s_seq ?_
  refine s_region ?_
  refine o_q (q_as_const rfl) rfl rfl rfl ?_
  refine o_nil ?_
  refine s_seq ?_
  refine s_region ?_
  refine o_qs (q_mv_own rfl) rfl rfl rfl rfl ?_
  refine o_q (q_mv ((by first | exact v_raw rfl | exact v_sptr rfl))) rfl rfl rfl ?_
  refine o_q (q_nil rfl) rfl rfl rfl ?_
  refine o_q (q_fr fo98_3 rfl) rfl rfl rfl ?_
  refine o_q (q_ldm ag96 sz96 rfl (by repeat first | exact Mem.upd_self _ _ _ | assumption | refine Mem.upd_ne (by assumption) ?_) rfl (v_sl rfl)) rfl rfl rfl ?_
  refine o_q (q_mv (v_raw rfl)) rfl rfl rfl ?_
  refine o_q (q_sl_hi (n := 0) und96 sz102 rfl elsPr (ab rfl rfl) (Nat.zero_le _)) rfl rfl rfl ?_
  refine o_qs (q_app slt96 rfl rfl rfl rfl (by first | exact Els.nil | exact Els.cons rfl rfl Els.nil | exact elsPr) (by first | exact (by first | exact Els.nil | exact Els.cons rfl rfl Els.nil | exact elsPr) | exact Els.cons rfl rfl Els.nil) (by first | decide | (simp; omega) | (simp [prs]; done) | (simp [prs]; omega))) rfl rfl rfl rfl ?_
  refine o_qs (q_as_own rfl) rfl rfl rfl rfl ?_
  refine o_nil ?_
  refine s_seq ?_
  refine s_region ?_
  refine o_qs (q_mv_own rfl) rfl rfl rfl rfl ?_
  refine o_q (q_ldmw ag102 sz102 rfl (by repeat first | exact Mem.upd_self _ _ _ | assumption | refine Mem.upd_ne (by assumption) ?_) rfl rfl) rfl rfl rfl ?_
  refine o_q (q_bs slt96 (pc (v_agg rfl) pn) rfl (Els.cons rfl rfl Els.nil) (by decide)) rfl rfl rfl ?_
  refine o_qs (q_app slt96 rfl rfl rfl rfl (by first | exact Els.nil | exact Els.cons rfl rfl Els.nil | exact elsPr) (by first | exact (by first | exact Els.nil | exact Els.cons rfl rfl Els.nil | exact elsPr) | exact Els.cons rfl rfl Els.nil) (by first | decide | (simp; omega) | (simp [prs]; done) | (simp [prs]; omega))) rfl rfl rfl rfl ?_
  refine o_qs (q_as_own rfl) rfl rfl rfl rfl ?_
  refine o_nil ?_
  refine s_seq ?_
  refine s_seq ?_
  refine s_region ?_
  refine o_q (q_mv (v_raw rfl)) rfl rfl rfl ?_
  refine o_nil ?_
  refine s_then rfl rfl ?_
  refine s_region ?_
  refine o_q (q_mv (v_raw rfl)) rfl rfl rfl ?_
  refine o_q (q_add rfl rfl (wrap64 (by omega) (by omega))) rfl rfl rfl ?_
  refine o_q (q_as (v_raw rfl)) rfl rfl rfl ?_
  refine o_nil ?_
  refine s_seq ?_
  refine s_region ?_
  refine o_q (q_mv ((by first | exact v_raw rfl | exact v_sptr rfl))) rfl rfl rfl ?_
  refine o_qs (q_mv_own rfl) rfl rfl rfl rfl ?_
  refine o_q (q_mv ((by first | exact v_raw rfl | exact v_sptr rfl))) rfl rfl rfl ?_
  refine o_q (q_nil rfl) rfl rfl rfl ?_
  refine o_q (q_fr fo98_3 rfl) rfl rfl rfl ?_
  refine o_q (q_ldm ag96 sz96 rfl (by repeat first | exact Mem.upd_self _ _ _ | assumption | refine Mem.upd_ne (by assumption) ?_) rfl (v_sl rfl)) rfl rfl rfl ?_
  refine o_q (q_mv (v_raw rfl)) rfl rfl rfl ?_
  refine o_q (q_sl_lo (n := 1) und96 sz102 rfl elsPr (ab rfl rfl) (by simp [prs])) rfl rfl rfl ?_
  refine o_qs (q_app slt96 rfl rfl rfl rfl (by first | exact Els.nil | exact Els.cons rfl rfl Els.nil | exact elsPr) (by first | exact (by first | exact Els.nil | exact Els.cons rfl rfl Els.nil | exact elsPr) | exact Els.cons rfl rfl Els.nil) (by first | decide | (simp; omega) | (simp [prs]; done) | (simp [prs]; omega))) rfl rfl rfl rfl ?_
  refine o_q (q_nil rfl) rfl rfl rfl ?_
  refine o_q (q_fr fo98_3 rfl) rfl rfl rfl ?_
  refine o_store_own rfl (by repeat first | exact Mem.upd_self _ _ _ | assumption | refine Mem.upd_ne (by assumption) ?_) rfl sz96 (Nat.le_of_ble_eq_true rfl) ?_
  refine o_nil ?_
  refine s_seq ?_
  refine s_region ?_
  refine o_q (q_as_const rfl) rfl rfl rfl ?_
  refine o_nil ?_
  refine s_seq ?_
  refine s_region ?_
  refine o_qs (q_mv_own rfl) rfl rfl rfl rfl ?_
  refine o_q (q_mv ((by first | exact v_raw rfl | exact v_sptr rfl))) rfl rfl rfl ?_
  refine o_q (q_nil rfl) rfl rfl rfl ?_
  refine o_q (q_fr fo98_4 rfl) rfl rfl rfl ?_
  refine o_q (q_ldm ag28 sz28 rfl (by repeat first | exact Mem.upd_self _ _ _ | assumption | refine Mem.upd_ne (by assumption) ?_) rfl (v_sl rfl)) rfl rfl rfl ?_
  refine o_qs (q_app slt28 rfl rfl rfl rfl (by first | exact Els.nil | exact elsR | exact Els.cons rfl rfl Els.nil) (by first | exact (by first | exact Els.nil | exact elsR | exact Els.cons rfl rfl Els.nil) | exact Els.cons rfl rfl Els.nil) (by first | decide | (simp; omega) | (simp [prs]; done) | (simp [prs]; omega))) rfl rfl rfl rfl ?_
  refine o_qs (q_as_own rfl) rfl rfl rfl rfl ?_
  refine o_nil ?_
  refine s_seq ?_
  refine s_region ?_
  refine o_q (q_mv ((by first | exact v_raw rfl | exact v_sptr rfl))) rfl rfl rfl ?_
  refine o_qs (q_mv_own rfl) rfl rfl rfl rfl ?_
  refine o_q (q_mv ((by first | exact v_raw rfl | exact v_sptr rfl))) rfl rfl rfl ?_
  refine o_q (q_nil rfl) rfl rfl rfl ?_
  refine o_q (q_fr fo98_2 rfl) rfl rfl rfl ?_
  refine o_q (q_ldm ag3 sz3 rfl (by repeat first | exact Mem.upd_self _ _ _ | assumption | refine Mem.upd_ne (by assumption) ?_) rfl (v_raw rfl)) rfl rfl rfl ?_
  refine o_q (q_mv (v_raw rfl)) rfl rfl rfl ?_
  refine o_q (q_mv (v_raw rfl)) rfl rfl rfl ?_
  refine o_q (q_mv (v_raw rfl)) rfl rfl rfl ?_
  refine o_q (q_mv (v_raw rfl)) rfl rfl rfl ?_
  refine o_q (q_b (cs := [_, _, _, _, _]) bz35 bp35 (bf fo35_0 (e_raw rfl) rfl rfl (Nat.le_of_ble_eq_true rfl) rfl (bf fo35_1 (e_raw rfl) rfl rfl (Nat.le_of_ble_eq_true rfl) rfl (bf fo35_2 (e_raw rfl) rfl rfl (Nat.le_of_ble_eq_true rfl) rfl (bf fo35_3 (e_raw rfl) rfl rfl (Nat.le_of_ble_eq_true rfl) rfl (bf fo35_4 (e_raw rfl) rfl rfl (Nat.le_of_ble_eq_true rfl) rfl bf_nil)))))) rfl rfl rfl ?_
  refine o_q (q_bs slt28 (pc (v_agg rfl) pn) rfl (Els.cons rfl rfl Els.nil) (by decide)) rfl rfl rfl ?_
  refine o_qs (q_app slt28 rfl rfl rfl rfl (by first | exact Els.nil | exact elsR | exact Els.cons rfl rfl Els.nil) (by first | exact (by first | exact Els.nil | exact elsR | exact Els.cons rfl rfl Els.nil) | exact Els.cons rfl rfl Els.nil) (by first | decide | (simp; omega) | (simp [prs]; done) | (simp [prs]; omega))) rfl rfl rfl rfl ?_
  refine o_q (q_nil rfl) rfl rfl rfl ?_
  refine o_q (q_fr fo98_4 rfl) rfl rfl rfl ?_
  refine o_store_own rfl (by repeat first | exact Mem.upd_self _ _ _ | assumption | refine Mem.upd_ne (by assumption) ?_) rfl sz28 (Nat.le_of_ble_eq_true rfl) ?_
  refine o_nil ?_
  refine s_seq ?_
  refine s_region ?_
  refine o_q (q_mv ((by first | exact v_raw rfl | exact v_sptr rfl))) rfl rfl rfl ?_
  refine o_q (q_nil rfl) rfl rfl rfl ?_
  refine o_q (q_fr fo98_2 rfl) rfl rfl rfl ?_
  refine o_q (q_ldm ag3 sz3 rfl (by repeat first | exact Mem.upd_self _ _ _ | assumption | refine Mem.upd_ne (by assumption) ?_) rfl (v_raw rfl)) rfl rfl rfl ?_
  refine o_q (q_add rfl rfl (wrap64 (by omega) (by omega))) rfl rfl rfl ?_
  refine o_q (q_nil rfl) rfl rfl rfl ?_
  refine o_q (q_fr fo98_2 rfl) rfl rfl rfl ?_
  refine o_store rfl (by repeat first | exact Mem.upd_self _ _ _ | assumption | refine Mem.upd_ne (by assumption) ?_) (by first | exact e_raw rfl | exact e_agg rfl | exact e_sl rfl | rfl) rfl sz3 rfl (Nat.le_of_ble_eq_true rfl) rfl rfl ?_
  refine o_nil ?_
  refine s_seq ?_
  refine s_region ?_
  refine o_q (q_fr fo102_2 rfl) rfl rfl rfl ?_
  refine o_q (q_ldm ag3 sz3 rfl (by repeat first | exact Mem.upd_self _ _ _ | assumption | refine Mem.upd_ne (by assumption) ?_) rfl (v_raw rfl)) rfl rfl rfl ?_
  refine o_q (q_as (v_raw rfl)) rfl rfl rfl ?_
  refine o_q (q_as (v_raw rfl)) rfl rfl rfl ?_
  refine o_nil ?_
  refine s_ret ?_
  refine s_end ?_
  exact ret_many (.inl rfl) rfl (rl_t rfl (rl_t rfl rl_nil)) rfl ⟨rfl, le_y (by repeat first | exact Mem.upd_self _ _ _ | assumption | refine Mem.upd_ne (by assumption) ?_) (fun c o e1 hc => by repeat first | exact hc | refine Mem.upd_ne (by first | exact e1 | exact Mem.ne_none hc (by assumption)) ?_) (by simp [ryC, prs, encPr, enc, newR, hen]; rfl)⟩

def tk54 : Nat → Nat → Option Nat
  | 0, 0 => some 0
  | 1, 0 => some 0
  | 6, 0 => some 0
  | 6, 10 => some 0
  | 7, 0 => some 0
  | 7, 1 => some 0
  | _, _ => none
def pl54 : Nat → List PStep := fun _ => []
theorem cb54 : Try.f54.body.map (codeB Try.prog Try.f54.ntmps tk54 pl54) = some true := by kernel_rfl
theorem goes54 : goesB Try.prog 54 = true := by kernel_rfl
-- (*carillon/carillonref15.Topic).Read params ['*carillonref15.Topic', 'int', 'int'] results [['t', 6]] own [34, 7, 43] names ['0:t', '1:offset', '2:most', '3:t', '4:offset', '5:most', '7:out', '8:i'] calls [] paths 5

theorem pubY (v y : Nat) (x : Tp) (M : Mem) (hy : M y = some (.cells (ryC v x))) (hen : x.en = v) (hv : v < 2 ^ 40) (hlen : x.recs.length < 2 ^ 40) : SoundCall Try.prog 29 [ptr y, str (bs 112), int v, str emp, str emp] M fun r M' => r = .tup [int v, int 0] ∧ M' = M.upd y (.cells (ryC (v + 1) (px x (bs 112) v emp emp))) := by
  cases v with
  | zero => have h := (snd29a y x M hy hen hv hlen).leaves; rw [hen] at h; exact h
  | succ k => have h := (snd29b k y x M hy hen hv hlen).leaves; rw [hen] at h; exact h
theorem take_step {l : List Rec} {p i k : Nat} (hi : i < l.length) (hp : p ≤ i) (hk : i - p < k) : (l.drop p).take (min (i + 1 - p) k) = (l.drop p).take (min (i - p) k) ++ [l[i]] := by
  rw [show min (i + 1 - p) k = (i - p) + 1 by omega, show min (i - p) k = i - p by omega, List.take_succ_eq_append_getElem (by rw [List.length_drop]; omega), List.getElem_drop]
  congr 3; omega
theorem cut_len {l : List Rec} {p i k : Nat} (hi : i ≤ l.length) : ((l.drop p).take (min (i - p) k)).length = min (i - p) k := by
  rw [List.length_take, List.length_drop]; omega
theorem cut_all {l : List Rec} {p k : Nat} : (l.drop p).take (min (l.length - p) k) = (l.drop p).take k := by
  rcases Nat.le_total k (l.length - p) with h | h
  · rw [Nat.min_eq_right h]
  · rw [Nat.min_eq_left h, List.take_of_length_le (by rw [List.length_drop]; exact Nat.le_refl _), List.take_of_length_le (by rw [List.length_drop]; exact h)]
theorem atN_cut {l : List Rec} (hs : Sorted l) (p m : Nat) (e : Int) : atN ((l.drop p).take m) e = min (min m (l.length - p)) (atN l e - p) := by
  have hs' : Sorted ((l.drop p).take m) := sorted_sub hs ((List.take_sublist _ _).trans (List.drop_sublist _ _))
  have hl : ((l.drop p).take m).length = min m (l.length - p) := by rw [List.length_take, List.length_drop]
  have h1 := atN_le ((l.drop p).take m) e
  have hg : ∀ i, ∀ h : i < ((l.drop p).take m).length, ((l.drop p).take m)[i] = l[p + i]'(by omega) := fun i h => by rw [List.getElem_take, List.getElem_drop]
  rcases Nat.lt_trichotomy (atN ((l.drop p).take m) e) (min (min m (l.length - p)) (atN l e - p)) with h | h | h
  · exfalso
    have h2 := atN_ge (off := e) hs' (i := atN ((l.drop p).take m) e) (Nat.le_refl _) (by omega)
    rw [hg] at h2
    obtain ⟨_, h3⟩ := atN_lt (l := l) (off := e) (i := p + atN ((l.drop p).take m) e) (by omega)
    omega
  · exact h
  · exfalso
    obtain ⟨hi, h2⟩ := atN_lt (l := (l.drop p).take m) (off := e) (i := min (min m (l.length - p)) (atN l e - p)) h
    rw [hg] at h2
    have h3 := atN_ge (off := e) hs (i := p + min (min m (l.length - p)) (atN l e - p)) (by omega) (by omega)
    omega
theorem pollL_cut {s : Sb} {x : Tp} {many : Int} (hs : Sorted x.recs) : pollL s x many = (x.recs.drop (atN x.recs s.nxt)).take (min (max many 0).toNat (atN x.recs (edge s x) - atN x.recs s.nxt)) := by
  unfold pollL readL
  rw [atN_cut hs, List.take_take]
  have h1 := atN_le x.recs (edge s x)
  congr 1
  omega
set_option maxHeartbeats 4000000 in
set_option maxRecDepth 20000 in
theorem snd54 (y v : Nat) (x : Tp) (off most : Int) (M : Mem) (hy : M y = some (.cells (ryC v x))) (hs : Sorted x.recs) (hlen : x.recs.length < 2 ^ 40) : SoundCall Try.prog 54 [ptr y, int off, int most] M fun r M' => r = .sl ((readL x.recs off most).map enc) true ∧ M' = M := by
  refine SoundCall.go tk54 pl54 mixed Try.func54 cb54 rfl (Nat.le_of_ble_eq_true rfl) ?_
  refine s_seq ?_
  refine s_region ?_
  refine o_q (q_as_const rfl) rfl rfl rfl ?_
  refine o_nil ?_
  refine s_seq ?_
  refine s_region ?_
  refine o_q (q_as_const rfl) rfl rfl rfl ?_
  refine o_nil ?_
  refine s_seq ?_
  refine s_seq ?_
  refine s_region ?_
  refine o_q (q_as (v_raw rfl)) rfl rfl rfl ?_
  refine o_nil ?_
  refine s_cut (fun S => ∃ T, S = ⟨setT T 7 (.sl ((readL x.recs off most).map enc) true), M⟩) ?_ ?_
  · skip
    refine s_block ?_
    refine s_loop (fun m S => ∃ T, ∃ i : Nat, S = ⟨setT (setT (setT (setT (setT T 0 (ptr y)) 1 (int off)) 2 (int most)) 7 (.sl (((x.recs.drop (atN x.recs off)).take (min (i - atN x.recs off) (max most 0).toNat)).map enc) true)) 8 (int (i : Nat)), M⟩ ∧ i ≤ x.recs.length ∧ m = x.recs.length - i) x.recs.length ?_ ?_
    · exact ⟨_, 0, St.mkT (kp (kp (kp (kp (kp rfl rfl) rfl) rfl) (by rw [Nat.zero_sub, Nat.zero_min]; rfl)) rfl).symm, by omega, rfl⟩
    rintro m S ⟨T, i, rfl, hi, rfl⟩
    have hcl := cut_len (p := atN x.recs off) (k := (max most 0).toNat) hi
    have hcm : (List.map enc ((x.recs.drop (atN x.recs off)).take (min (i - atN x.recs off) (max most 0).toNat))).length = min (i - atN x.recs off) (max most 0).toNat := by rw [List.length_map, hcl]
    refine s_seq ?_
    refine s_seq ?_
    refine s_region ?_
    refine o_q (q_mv (v_raw rfl)) rfl rfl rfl ?_
    refine o_q (q_mv ((by first | exact v_raw rfl | exact v_sptr rfl))) rfl rfl rfl ?_
    refine o_q (q_nil rfl) rfl rfl rfl ?_
    refine o_q (q_fr fo98_4 rfl) rfl rfl rfl ?_
    refine o_q (q_ldm ag28 sz28 rfl (by repeat first | exact Mem.upd_self _ _ _ | assumption | refine Mem.upd_ne (by assumption) ?_) rfl (v_sl rfl)) rfl rfl rfl ?_
    refine o_q (q_len rfl und28 rfl) rfl rfl rfl ?_
    refine o_q (q_lss rfl rfl) rfl rfl rfl ?_
    refine o_q (q_mv (v_raw rfl)) rfl rfl rfl ?_
    refine o_cases (want := true) (j := 7) rfl rfl (fun h1 => ?_) (fun h1 => ?_)
    · have k1 := h1; try simp only [decide_eq_true_eq, decide_eq_false_iff_not, Bool.not_eq_true', Bool.not_eq_false', Bool.not_true, Bool.not_false, List.length_map, Decidable.not_not] at k1
      refine o_yes rfl rfl rfl h1 ?_
      refine o_q (q_mv (v_sl rfl)) rfl rfl rfl ?_
      refine o_yes rfl rfl rfl h1 ?_
      refine o_q (q_len rfl und28 rfl) rfl rfl rfl ?_
      refine o_yes rfl rfl rfl h1 ?_
      refine o_q (q_mv (v_raw rfl)) rfl rfl rfl ?_
      refine o_yes rfl rfl rfl h1 ?_
      refine o_q (q_lss rfl rfl) rfl rfl rfl ?_
      refine o_q (q_pick_c (t := true) rfl h1 (v_raw rfl)) rfl rfl rfl ?_
      refine o_nil ?_
      refine s_cond rfl (fun h2 => ?_) (fun h2 => ?_)
      · have k2 := h2; try simp only [decide_eq_true_eq, decide_eq_false_iff_not, Bool.not_eq_true', Bool.not_eq_false', Bool.not_true, Bool.not_false, List.length_map, Decidable.not_not] at k2
        refine s_skip ?_
        refine s_seq ?_
        refine s_block ?_
        refine s_seq ?_
        refine s_region ?_
        refine o_q (q_mv ((by first | exact v_raw rfl | exact v_sptr rfl))) rfl rfl rfl ?_
        refine o_q (q_nil rfl) rfl rfl rfl ?_
        refine o_q (q_fr fo98_4 rfl) rfl rfl rfl ?_
        refine o_q (q_ldm ag28 sz28 rfl (by repeat first | exact Mem.upd_self _ _ _ | assumption | refine Mem.upd_ne (by assumption) ?_) rfl (v_sl rfl)) rfl rfl rfl ?_
        refine o_q (q_mv (v_raw rfl)) rfl rfl rfl ?_
        refine o_q (q_idx und28 sz35 rfl rfl (by omega) (gm i (by first | omega | simp)) rfl) rfl rfl rfl ?_
        refine o_q (q_f fo35_0 rfl) rfl rfl rfl ?_
        refine o_q (q_ld ag3 sz3 rfl (gm i (by first | omega | simp)) rfl (v_raw rfl)) rfl rfl rfl ?_
        refine o_q (q_mv (v_raw rfl)) rfl rfl rfl ?_
        refine o_q (q_geq rfl rfl) rfl rfl rfl ?_
        refine o_nil ?_
        refine s_cond rfl (fun h3 => ?_) (fun h3 => ?_)
        · have k3 := h3; try simp only [decide_eq_true_eq, decide_eq_false_iff_not, Bool.not_eq_true', Bool.not_eq_false', Bool.not_true, Bool.not_false, List.length_map, Decidable.not_not] at k3
          refine s_region ?_
          refine o_qs (q_mv_own rfl) rfl rfl rfl rfl ?_
          refine o_q (q_mv ((by first | exact v_raw rfl | exact v_sptr rfl))) rfl rfl rfl ?_
          refine o_q (q_nil rfl) rfl rfl rfl ?_
          refine o_q (q_fr fo98_4 rfl) rfl rfl rfl ?_
          refine o_q (q_ldm ag28 sz28 rfl (by repeat first | exact Mem.upd_self _ _ _ | assumption | refine Mem.upd_ne (by assumption) ?_) rfl (v_sl rfl)) rfl rfl rfl ?_
          refine o_q (q_mv (v_raw rfl)) rfl rfl rfl ?_
          refine o_q (q_idx und28 sz35 rfl rfl (by omega) (gm i (by first | omega | simp)) rfl) rfl rfl rfl ?_
          refine o_q (q_lde ag35 sz35 rfl (gm i (by first | omega | simp)) rfl rfl) rfl rfl rfl ?_
          refine o_q (q_bs slt28 (pc (v_agg rfl) pn) rfl (Els.cons rfl rfl Els.nil) (by decide)) rfl rfl rfl ?_
          refine o_qs (q_app slt28 rfl rfl rfl rfl (by first | exact elsR | exact Els.cons rfl rfl Els.nil) (by first | exact (by first | exact elsR | exact Els.cons rfl rfl Els.nil) | exact Els.cons rfl rfl Els.nil) (by rw [hcm]; simp; omega)) rfl rfl rfl rfl ?_
          refine o_qs (q_as_own rfl) rfl rfl rfl rfl ?_
          refine o_nil ?_
          refine s_blk_normal ?_
          refine s_region ?_
          refine o_q (q_mv (v_raw rfl)) rfl rfl rfl ?_
          refine o_q (q_add rfl rfl (wrap64 (by omega) (by omega))) rfl rfl rfl ?_
          refine o_q (q_as (v_raw rfl)) rfl rfl rfl ?_
          refine o_nil ?_
          refine s_inv ?_
          have hp : atN x.recs off ≤ i := by
            rcases Nat.lt_or_ge i (atN x.recs off) with h | h
            · obtain ⟨_, h9⟩ := atN_lt h; omega
            · exact h
          exact ⟨x.recs.length - (i + 1), by omega, _, i + 1, St.mkT (kp (kp (kp (kp (kp rfl rfl) rfl) rfl) (app_map (f := enc) (x := x.recs[i]) (take_step (by omega) hp (by omega)))) rfl).symm, by omega, rfl⟩
        · have k3 := h3; try simp only [decide_eq_true_eq, decide_eq_false_iff_not, Bool.not_eq_true', Bool.not_eq_false', Bool.not_true, Bool.not_false, List.length_map, Decidable.not_not] at k3
          refine s_skip ?_
          refine s_blk_normal ?_
          refine s_region ?_
          refine o_q (q_mv (v_raw rfl)) rfl rfl rfl ?_
          refine o_q (q_add rfl rfl (wrap64 (by omega) (by omega))) rfl rfl rfl ?_
          refine o_q (q_as (v_raw rfl)) rfl rfl rfl ?_
          refine o_nil ?_
          refine s_inv ?_
          have hp : i < atN x.recs off := by
            rcases Nat.lt_or_ge i (atN x.recs off) with h | h
            · exact h
            · have := atN_ge (off := off) hs h (by omega); omega
          exact ⟨x.recs.length - (i + 1), by omega, _, i + 1, St.mkT (kp (kp (kp (kp (kp rfl rfl) rfl) rfl) (by rw [show i + 1 - atN x.recs off = i - atN x.recs off by omega]; rfl)) rfl).symm, by omega, rfl⟩
      · have k2 := h2; try simp only [decide_eq_true_eq, decide_eq_false_iff_not, Bool.not_eq_true', Bool.not_eq_false', Bool.not_true, Bool.not_false, List.length_map, Decidable.not_not] at k2
        refine s_exit ?_
        refine s_code_exit ?_
        refine s_inv_exit ?_
        refine s_blk_here ?_
        refine s_inv ?_
        have e : (x.recs.drop (atN x.recs off)).take (min (i - atN x.recs off) (max most 0).toNat) = readL x.recs off most := by
          unfold readL
          rw [← cut_all (k := (max most 0).toNat)]
          congr 1
          omega
        exact ⟨_, St.mkT (kp rfl (by rw [← e]; rfl)).symm⟩
    · have k1 := h1; try simp only [decide_eq_true_eq, decide_eq_false_iff_not, Bool.not_eq_true', Bool.not_eq_false', Bool.not_true, Bool.not_false, List.length_map, Decidable.not_not] at k1
      refine o_no rfl rfl rfl rfl h1 ?_
      refine o_no rfl rfl rfl rfl h1 ?_
      refine o_no rfl rfl rfl rfl h1 ?_
      refine o_no rfl rfl rfl rfl h1 ?_
      refine o_q (q_pick_c (t := false) rfl h1 (v_raw rfl)) rfl rfl rfl ?_
      refine o_nil ?_
      refine s_else rfl rfl ?_
      refine s_exit ?_
      refine s_code_exit ?_
      refine s_inv_exit ?_
      refine s_blk_here ?_
      refine s_inv ?_
      have e : (x.recs.drop (atN x.recs off)).take (min (i - atN x.recs off) (max most 0).toNat) = readL x.recs off most := by
        unfold readL
        rw [← cut_all (k := (max most 0).toNat)]
        congr 1
        omega
      exact ⟨_, St.mkT (kp rfl (by rw [← e]; rfl)).symm⟩
  rintro S ⟨T, rfl⟩
  refine s_seq ?_
  refine s_region ?_
  refine o_qs (q_mv_own rfl) rfl rfl rfl rfl ?_
  refine o_qs (q_as_own rfl) rfl rfl rfl rfl ?_
  refine o_nil ?_
  refine s_ret ?_
  refine s_end ?_
  exact ⟨rfl, rfl⟩

def tk36 : Nat → Nat → Option Nat := fun _ _ => none
def pl36 : Nat → List PStep := fun _ => []
theorem cb36 : Try.f36.body.map (codeB Try.prog Try.f36.ntmps tk36 pl36) = some true := by kernel_rfl
theorem goes36 : goesB Try.prog 36 = true := by kernel_rfl
-- (*carillon/carillonref15.Topic).Trim params ['*carillonref15.Topic', 'int'] results [['t', 4]] own [] names ['0:t', '1:n', '2:t', '3:n'] calls [54] paths 3
set_option maxHeartbeats 4000000 in
set_option maxRecDepth 20000 in
theorem snd36 (y v : Nat) (x : Tp) (n : Int) (M : Mem) (hy : M y = some (.cells (ryC v x))) (hs : Sorted x.recs) (hlen : x.recs.length < 2 ^ 40) : SoundCall Try.prog 36 [ptr y, int n] M fun r M' => r = int (trimT x n).2 ∧ (M.upd y (.cells (ryC v (trimT x n).1))).le M' := by
  have same : M.upd y (.cells (ryC v x)) = M := Mem.upd_same hy
  have hrl : readL x.recs n ((List.map enc x.recs).length : Int) = x.recs.drop (atN x.recs n) := by
    unfold readL
    rw [List.take_of_length_le]
    rw [List.length_drop, List.length_map]
    omega
  refine SoundCall.go tk36 pl36 mixed Try.func36 cb36 rfl (Nat.le_of_ble_eq_true rfl) ?_
  refine s_seq ?_
  refine s_region ?_
  refine o_q (q_as (v_raw rfl)) rfl rfl rfl ?_
  refine o_nil ?_
  refine s_seq ?_
  refine s_seq ?_
  refine s_region ?_
  refine o_q (q_mv (v_raw rfl)) rfl rfl rfl ?_
  refine o_q (q_mv ((by first | exact v_raw rfl | exact v_sptr rfl))) rfl rfl rfl ?_
  refine o_q (q_nil rfl) rfl rfl rfl ?_
  refine o_q (q_fr fo98_2 rfl) rfl rfl rfl ?_
  refine o_q (q_ldm ag3 sz3 rfl (by repeat first | exact Mem.upd_self _ _ _ | assumption | refine Mem.upd_ne (by assumption) ?_) rfl (v_raw rfl)) rfl rfl rfl ?_
  refine o_q (q_gtr rfl rfl) rfl rfl rfl ?_
  refine o_nil ?_
  refine s_cond rfl (fun h1 => ?_) (fun h1 => ?_)
  · have k1 := h1; try simp only [decide_eq_true_eq, decide_eq_false_iff_not, Bool.not_eq_true', Bool.not_eq_false', Bool.not_true, Bool.not_false, List.length_map, Decidable.not_not] at k1
    refine s_seq ?_
    refine s_region ?_
    refine o_q (q_as (v_raw rfl)) rfl rfl rfl ?_
    refine o_nil ?_
    refine s_ret ?_
    refine s_code_ret ?_
    refine s_end ?_
    unfold trimT
    rw [if_pos (by omega), same]
    exact ⟨rfl, Mem.le_refl _⟩
  · have k1 := h1; try simp only [decide_eq_true_eq, decide_eq_false_iff_not, Bool.not_eq_true', Bool.not_eq_false', Bool.not_true, Bool.not_false, List.length_map, Decidable.not_not] at k1
    refine s_skip ?_
    refine s_seq ?_
    refine s_seq ?_
    refine s_region ?_
    refine o_q (q_mv (v_raw rfl)) rfl rfl rfl ?_
    refine o_q (q_mv ((by first | exact v_raw rfl | exact v_sptr rfl))) rfl rfl rfl ?_
    refine o_q (q_nil rfl) rfl rfl rfl ?_
    refine o_q (q_fr fo98_1 rfl) rfl rfl rfl ?_
    refine o_q (q_ldm ag3 sz3 rfl (by repeat first | exact Mem.upd_self _ _ _ | assumption | refine Mem.upd_ne (by assumption) ?_) rfl (v_raw rfl)) rfl rfl rfl ?_
    refine o_q (q_gtr rfl rfl) rfl rfl rfl ?_
    refine o_nil ?_
    refine s_cond rfl (fun h2 => ?_) (fun h2 => ?_)
    · have k2 := h2; try simp only [decide_eq_true_eq, decide_eq_false_iff_not, Bool.not_eq_true', Bool.not_eq_false', Bool.not_true, Bool.not_false, List.length_map, Decidable.not_not] at k2
      refine s_seq ?_
      refine s_region ?_
      refine o_q (q_mv ((by first | exact v_raw rfl | exact v_sptr rfl))) rfl rfl rfl ?_
      refine o_q (q_mv (v_raw rfl)) rfl rfl rfl ?_
      refine o_q (q_nil rfl) rfl rfl rfl ?_
      refine o_q (q_fr fo98_1 rfl) rfl rfl rfl ?_
      refine o_store rfl (by repeat first | exact Mem.upd_self _ _ _ | assumption | refine Mem.upd_ne (by assumption) ?_) (by first | exact e_raw rfl | exact e_agg rfl | exact e_sl rfl | rfl) rfl sz3 rfl (Nat.le_of_ble_eq_true rfl) rfl rfl ?_
      refine o_nil ?_
      refine s_region ?_
      refine o_q (q_mv ((by first | exact v_raw rfl | exact v_sptr rfl))) rfl rfl rfl ?_
      refine o_q (q_mv ((by first | exact v_raw rfl | exact v_sptr rfl))) rfl rfl rfl ?_
      refine o_q (q_mv (v_raw rfl)) rfl rfl rfl ?_
      refine o_q (q_mv ((by first | exact v_raw rfl | exact v_sptr rfl))) rfl rfl rfl ?_
      refine o_q (q_nil rfl) rfl rfl rfl ?_
      refine o_q (q_fr fo98_4 rfl) rfl rfl rfl ?_
      refine o_q (q_ldm ag28 sz28 rfl (by repeat first | exact Mem.upd_self _ _ _ | assumption | refine Mem.upd_ne (by assumption) ?_) rfl (v_sl rfl)) rfl rfl rfl ?_
      refine o_q (q_len rfl und28 rfl) rfl rfl rfl ?_
      refine o_call ((snd54 y v ⟨x.name, n, x.en, x.kvs, x.recs⟩ n _ _ (by repeat first | exact Mem.upd_self _ _ _ | assumption | refine Mem.upd_ne (by assumption) ?_) hs hlen)) goes54 (ac ((by first | exact v_raw rfl | exact v_sptr rfl)) (ac (v_raw rfl) (ac (v_raw rfl) ac_nil))) rfl ?_
      refine o_q (q_nil rfl) rfl rfl rfl ?_
      refine o_q (q_fr fo98_4 rfl) rfl rfl rfl ?_
      refine o_store_own rfl (by repeat first | exact Mem.upd_self _ _ _ | assumption | refine Mem.upd_ne (by assumption) ?_) rfl sz28 (Nat.le_of_ble_eq_true rfl) ?_
      refine o_nil ?_
      refine s_seq ?_
      refine s_region ?_
      refine o_q (q_as (v_raw rfl)) rfl rfl rfl ?_
      refine o_nil ?_
      refine s_ret ?_
      refine s_end ?_
      unfold trimT
      rw [if_neg (by omega), if_pos (by omega)]
      exact ⟨rfl, le_y (by repeat first | exact Mem.upd_self _ _ _ | assumption | refine Mem.upd_ne (by assumption) ?_) (fun c o e1 hc => by repeat first | exact hc | refine Mem.upd_ne (by first | exact e1 | exact Mem.ne_none hc (by assumption)) ?_) (by rw [show readL _ n _ = _ from hrl]; rfl)⟩
    · have k2 := h2; try simp only [decide_eq_true_eq, decide_eq_false_iff_not, Bool.not_eq_true', Bool.not_eq_false', Bool.not_true, Bool.not_false, List.length_map, Decidable.not_not] at k2
      refine s_skip ?_
      refine s_seq ?_
      refine s_region ?_
      refine o_q (q_as (v_raw rfl)) rfl rfl rfl ?_
      refine o_nil ?_
      refine s_ret ?_
      refine s_end ?_
      unfold trimT
      rw [if_neg (by omega), if_neg (by omega), same]
      exact ⟨rfl, Mem.le_refl _⟩

def tk33 : Nat → Nat → Option Nat
  | 5, 0 => some 0
  | 11, 0 => some 0
  | 11, 4 => some 0
  | _, _ => none
def pl33 : Nat → List PStep
  | 2 => [.q 0, .q 1, .q 2, .q 3, .q 4, .q 5, .q 6, .q 7, .q 8, .q 9, .q 10, .q 11, .q 12, .q 13, .q 14, .q 15, .q 16, .q 17, .q 18, .q 19, .q 20, .q 21, .q 22, .q 23, .q 24, .q 25, .q 26, .q 27]
  | 4 => [.q 0, .q 1, .q 2, .q 3, .q 4, .q 5, .q 6, .q 7, .q 8]
  | _ => []
theorem cb33 : Try.f33.body.map (codeB Try.prog Try.f33.ntmps tk33 pl33) = some true := by kernel_rfl
theorem goes33 : goesB Try.prog 33 = true := by kernel_rfl
-- carillon/carillonref16.Poll params ['carillonref16.Sub', '*carillonref15.Topic', 'int'] results [['cell', 6, 61], ['t', 7], ['t', 8]] own [86, 11, 89] names ['0:s', '1:t', '2:many', '3:s', '4:t', '5:many', '9:ok', '10:edge', '11:out', '12:i', '13:r'] calls [39] paths 11

theorem lastF_app {L : List Rec} {r : Rec} {a : Int} : lastF (L ++ [r]) a (L ++ [r]).length = r.off := by
  rw [List.length_append]
  show ((L ++ [r]).getD L.length default).off = r.off
  simp [List.getD]
theorem lastF_cut {l : List Rec} (hs : Sorted l) {p i k : Nat} {a : Int} (hi : i < l.length) (hp : p ≤ i) (ha : a ≤ l[i].off) : lastF ((l.drop p).take (min (i - p) k)) a ((l.drop p).take (min (i - p) k)).length + 1 ≤ l[i].off := by
  have hc := cut_len (l := l) (p := p) (k := k) (i := i) (by omega)
  rcases Nat.eq_zero_or_pos (min (i - p) k) with h | h
  · rw [hc, h]; show a - 1 + 1 ≤ _; omega
  · obtain ⟨j, hj⟩ : ∃ j, min (i - p) k = j + 1 := ⟨_, (Nat.succ_pred_eq_of_pos h).symm⟩
    rw [hc]
    have e2 : ∀ n, n = j + 1 → lastF ((l.drop p).take (min (i - p) k)) a n = (((l.drop p).take (min (i - p) k)).getD j default).off := fun n hn => by subst hn; rfl
    have e := e2 _ hj
    rw [e, getD_lt (by rw [hc]; omega), List.getElem_take, List.getElem_drop]
    have := List.pairwise_iff_getElem.1 hs (p + j) i (by omega) hi (by omega)
    omega
set_option maxHeartbeats 4000000 in
set_option maxRecDepth 20000 in
theorem snd33 (s : Sb) (y v : Nat) (x : Tp) (many : Int) (M : Mem) (hy : M y = some (.cells (ryC v x)))(hs1 : s.name.size < 2 ^ 63) (hs2 : s.topic.size < 2 ^ 63) (hs : Sorted x.recs) (hlen : x.recs.length < 2 ^ 40) (hoff : ∀ r ∈ x.recs, 0 ≤ r.off ∧ r.off < 2 ^ 60) (hlow : 0 ≤ x.low ∧ x.low < 2 ^ 60) : SoundCall Try.prog 33 [encSb s, ptr y, int many] M fun r M' => r = .tup [encSb (pollS s x many).1, .sl ((pollS s x many).2.1.map enc) false, int (pollS s x many).2.2] ∧ M.le M' := by
  refine SoundCall.go tk33 pl33 mixed Try.func33 cb33 rfl (Nat.le_of_ble_eq_true rfl) ?_
  refine s_seq ?_
  refine s_region ?_
  refine o_box (by first | exact e_raw rfl | exact e_agg rfl | exact e_sl rfl) rfl rfl (fun B1 hB1 => ?_)
  have ny1 : y ≠ B1 := Mem.fresh_ne hB1 (by repeat first | exact Mem.upd_self _ _ _ | assumption | refine Mem.upd_ne (by assumption) ?_)
  have ny1' := ny1.symm
  have m1 : M B1 = none := by have h := hB1; repeat (first | exact h | exact Mem.none_of_le hle h | replace h := (Mem.upd_none h).2)
  refine o_alloc zc61 (fun B2 hB2 => ?_)
  have ny2 : y ≠ B2 := Mem.fresh_ne hB2 (by repeat first | exact Mem.upd_self _ _ _ | assumption | refine Mem.upd_ne (by assumption) ?_)
  have ny2' := ny2.symm
  have f1_2 : B1 ≠ B2 := Mem.fresh_ne hB2 (by repeat first | exact Mem.upd_self _ _ _ | assumption | refine Mem.upd_ne (by assumption) ?_)
  have g2_1 : B2 ≠ B1 := f1_2.symm
  have m2 : M B2 = none := by have h := hB2; repeat (first | exact h | exact Mem.none_of_le hle h | replace h := (Mem.upd_none h).2)
  refine o_q (q_as (v_sl rfl)) rfl rfl rfl ?_
  refine o_q (q_as (v_raw rfl)) rfl rfl rfl ?_
  refine o_nil ?_
  refine s_seq ?_
  refine s_region ?_
  refine o_q (q_ldmw ag61 sz61 rfl (by repeat first | exact Mem.upd_self _ _ _ | assumption | refine Mem.upd_ne (by assumption) ?_) rfl rfl) rfl rfl rfl ?_
  refine o_call (((snd39 s _ hs1 hs2).det)) goes39 (ac (v_agg rfl) ac_nil) rfl ?_
  refine o_q (q_as (v_raw rfl)) rfl rfl rfl ?_
  refine o_nil ?_
  refine s_seq ?_
  refine s_seq ?_
  refine s_draw rfl ?_
  refine d_q rfl (q_mv (v_raw rfl)) rfl rfl rfl ?_
  refine d_q rfl (q_not rfl) rfl rfl rfl ?_
  refine d_q rfl (q_mv (v_raw rfl)) rfl rfl rfl ?_
  refine d_cases (want := false) (j := 2) rfl rfl (fun h1 => ?_) (fun h1 => ?_)
  · have k1 := h1; try simp only [decide_eq_true_eq, decide_eq_false_iff_not, Bool.not_eq_true', Bool.not_eq_false', Bool.not_true, Bool.not_false, List.length_map, Decidable.not_not] at k1
    refine d_yes rfl (q_fr fo61_1 rfl) rfl rfl rfl h1 rfl rfl ?_
    refine d_yes rfl (q_ldm ag9 sz9 rfl (by repeat first | exact Mem.upd_self _ _ _ | assumption | refine Mem.upd_ne (by assumption) ?_) rfl (v_raw rfl)) rfl rfl rfl h1 rfl rfl ?_
    refine d_yes rfl (q_mv ((by first | exact v_raw rfl | exact v_sptr rfl))) rfl rfl rfl h1 rfl rfl ?_
    refine d_yes rfl (q_nil rfl) rfl rfl rfl h1 rfl rfl ?_
    refine d_yes rfl (q_fr fo98_0 rfl) rfl rfl rfl h1 rfl rfl ?_
    refine d_yes rfl (q_ldm ag9 sz9 rfl (by repeat first | exact Mem.upd_self _ _ _ | assumption | refine Mem.upd_ne (by assumption) ?_) rfl (v_raw rfl)) rfl rfl rfl h1 rfl rfl ?_
    refine d_yes rfl (q_sneq rfl rfl) rfl rfl rfl h1 rfl rfl ?_
    refine d_q rfl (q_pick_c (t := false) rfl h1 (v_raw rfl)) rfl rfl rfl ?_
    refine d_q rfl (q_mv (v_raw rfl)) rfl rfl rfl ?_
    refine d_cases (want := false) (j := 11) rfl rfl (fun h2 => ?_) (fun h2 => ?_)
    · have k2 := h2; try simp only [decide_eq_true_eq, decide_eq_false_iff_not, Bool.not_eq_true', Bool.not_eq_false', Bool.not_true, Bool.not_false, List.length_map, Decidable.not_not] at k2
      refine d_yes rfl (q_fr fo61_3 rfl) rfl rfl rfl h2 rfl rfl ?_
      refine d_yes rfl (q_ldm ag3 sz3 rfl (by repeat first | exact Mem.upd_self _ _ _ | assumption | refine Mem.upd_ne (by assumption) ?_) rfl (v_raw rfl)) rfl rfl rfl h2 rfl rfl ?_
      refine d_yes rfl (q_mv ((by first | exact v_raw rfl | exact v_sptr rfl))) rfl rfl rfl h2 rfl rfl ?_
      refine d_yes rfl (q_nil rfl) rfl rfl rfl h2 rfl rfl ?_
      refine d_yes rfl (q_fr fo98_2 rfl) rfl rfl rfl h2 rfl rfl ?_
      refine d_yes rfl (q_ldm ag3 sz3 rfl (by repeat first | exact Mem.upd_self _ _ _ | assumption | refine Mem.upd_ne (by assumption) ?_) rfl (v_raw rfl)) rfl rfl rfl h2 rfl rfl ?_
      refine d_yes rfl (q_gtr rfl rfl) rfl rfl rfl h2 rfl rfl ?_
      refine d_q rfl (q_pick_c (t := false) rfl h2 (v_raw rfl)) rfl rfl rfl ?_
      refine d_q rfl (q_mv (v_raw rfl)) rfl rfl rfl ?_
      refine d_cases (want := false) (j := 20) rfl rfl (fun h3 => ?_) (fun h3 => ?_)
      · have k3 := h3; try simp only [decide_eq_true_eq, decide_eq_false_iff_not, Bool.not_eq_true', Bool.not_eq_false', Bool.not_true, Bool.not_false, List.length_map, Decidable.not_not] at k3
        refine d_yes rfl (q_mv (v_raw rfl)) rfl rfl rfl h3 rfl rfl ?_
        refine d_yes rfl (q_lss rfl rfl) rfl rfl rfl h3 rfl rfl ?_
        refine d_q rfl (q_pick_c (t := false) rfl h3 (v_raw rfl)) rfl rfl rfl ?_
        refine d_q rfl (q_mv (v_raw rfl)) rfl rfl rfl ?_
        refine d_cases (want := false) (j := 24) rfl rfl (fun h4 => ?_) (fun h4 => ?_)
        · have k4 := h4; try simp only [decide_eq_true_eq, decide_eq_false_iff_not, Bool.not_eq_true', Bool.not_eq_false', Bool.not_true, Bool.not_false, List.length_map, Decidable.not_not] at k4
          refine d_yes rfl (q_mv (v_raw rfl)) rfl rfl rfl h4 rfl rfl ?_
          refine d_yes rfl (q_gtr rfl rfl) rfl rfl rfl h4 rfl rfl ?_
          refine d_q rfl (q_pick_c (t := false) rfl h4 (v_raw rfl)) rfl rfl rfl ?_
          refine d_nil ?_
          refine s_cond rfl (fun h5 => ?_) (fun h5 => ?_)
          · have k5 := h5; try simp only [decide_eq_true_eq, decide_eq_false_iff_not, Bool.not_eq_true', Bool.not_eq_false', Bool.not_true, Bool.not_false, List.length_map, Decidable.not_not] at k5
            refine s_seq ?_
            refine s_region ?_
            refine o_q (q_ldmw ag61 sz61 rfl (by repeat first | exact Mem.upd_self _ _ _ | assumption | refine Mem.upd_ne (by assumption) ?_) rfl rfl) rfl rfl rfl ?_
            refine o_storew rfl (by repeat first | exact Mem.upd_self _ _ _ | assumption | refine Mem.upd_ne (by assumption) ?_) (by first | exact e_agg rfl | rfl) rfl sz61 rfl rfl rfl rfl ?_
            refine o_q (q_as (v_sl rfl)) rfl rfl rfl ?_
            refine o_q (q_as (v_raw rfl)) rfl rfl rfl ?_
            refine o_nil ?_
            refine s_ret ?_
            refine s_code_ret ?_
            refine s_end ?_
            exact ret_many (.inl rfl) rfl (rl_c rfl (by repeat first | exact Mem.upd_self _ _ _ | assumption | refine Mem.upd_ne (by assumption) ?_) (loadP_w ag61 sz61 rfl rfl) rfl (rl_t rfl (rl_t rfl rl_nil))) rfl ⟨by unfold pollS; unfold ofS; split <;> first | rfl | (exfalso; simp_all; done) | (exfalso; simp_all; omega), (by repeat first | exact hle | exact Mem.le_refl M | assumption | exact Mem.none_of_le hle (by assumption) | refine Mem.le_upd ?_ ?_)⟩
          · have k5 := h5; try simp only [decide_eq_true_eq, decide_eq_false_iff_not, Bool.not_eq_true', Bool.not_eq_false', Bool.not_true, Bool.not_false, List.length_map, Decidable.not_not] at k5
            have hc : (ofS s x && decide (s.nxt ≤ x.en) && decide (1 ≤ many) && decide (many ≤ 50)) = true := by simp_all [ofS] <;> omega
            have hri : rightS s = true := by simp_all [ofS]
            have hrl := rightS_le hri
            refine s_skip ?_
            refine s_seq ?_
            refine s_draw rfl ?_
            refine d_q rfl (q_fr fo61_2 rfl) rfl rfl rfl ?_
            refine d_q rfl (q_ldm ag3 sz3 rfl (by repeat first | exact Mem.upd_self _ _ _ | assumption | refine Mem.upd_ne (by assumption) ?_) rfl (v_raw rfl)) rfl rfl rfl ?_
            refine d_q rfl (q_mv ((by first | exact v_raw rfl | exact v_sptr rfl))) rfl rfl rfl ?_
            refine d_q rfl (q_nil rfl) rfl rfl rfl ?_
            refine d_q rfl (q_fr fo98_1 rfl) rfl rfl rfl ?_
            refine d_q rfl (q_ldm ag3 sz3 rfl (by repeat first | exact Mem.upd_self _ _ _ | assumption | refine Mem.upd_ne (by assumption) ?_) rfl (v_raw rfl)) rfl rfl rfl ?_
            refine d_q rfl (q_max rfl rfl) rfl rfl rfl ?_
            refine d_q rfl (q_add rfl rfl (wrap64 (by omega) (by omega))) rfl rfl rfl ?_
            refine d_q rfl (q_as (v_raw rfl)) rfl rfl rfl ?_
            refine d_nil ?_
            refine s_seq ?_
            refine s_region ?_
            refine o_q (q_as_const rfl) rfl rfl rfl ?_
            refine o_nil ?_
            refine s_seq ?_
            refine s_seq ?_
            refine s_region ?_
            refine o_q (q_as (v_raw rfl)) rfl rfl rfl ?_
            refine o_nil ?_
            refine s_cut (fun S => ∃ T, ∃ M' : Mem, S = ⟨setT (setT (setT T 3 (ptr B1)) 6 (ptr B2)) 11 (.sl ((pollL s x many).map enc) true), M'⟩ ∧ M.le M' ∧ M' y = some (.cells (ryC v x)) ∧ M' B1 = some (.cells (sbC ⟨s.name, s.topic, s.cur, lastF (pollL s x many) s.nxt (pollL s x many).length + 1⟩)) ∧ M' B2 = some (.cells [str emp, str emp, int 0, int 0])) ?_ ?_
            · skip
              refine s_block ?_
              refine s_loop (fun m S => ∃ T, ∃ M' : Mem, ∃ i : Nat, S = ⟨setT (setT (setT (setT (setT (setT (setT T 1 (ptr y)) 2 (int many)) 3 (ptr B1)) 6 (ptr B2)) 10 (int (edge s x))) 11 (.sl (((x.recs.drop (atN x.recs s.nxt)).take (min (i - atN x.recs s.nxt) (min (max many 0).toNat (atN x.recs (edge s x) - atN x.recs s.nxt)))).map enc) true)) 12 (int (i : Nat)), M'⟩ ∧ M.le M' ∧ M' y = some (.cells (ryC v x)) ∧ M' B1 = some (.cells (sbC ⟨s.name, s.topic, s.cur, lastF ((x.recs.drop (atN x.recs s.nxt)).take (min (i - atN x.recs s.nxt) (min (max many 0).toNat (atN x.recs (edge s x) - atN x.recs s.nxt)))) s.nxt ((x.recs.drop (atN x.recs s.nxt)).take (min (i - atN x.recs s.nxt) (min (max many 0).toNat (atN x.recs (edge s x) - atN x.recs s.nxt)))).length + 1⟩)) ∧ M' B2 = some (.cells [str emp, str emp, int 0, int 0]) ∧ i ≤ x.recs.length ∧ m = x.recs.length - i) x.recs.length ?_ ?_
              · have e0 : (x.recs.drop (atN x.recs s.nxt)).take (min (0 - atN x.recs s.nxt) (min (max many 0).toNat (atN x.recs (edge s x) - atN x.recs s.nxt))) = [] := by rw [Nat.zero_sub, Nat.zero_min]; rfl
                exact ⟨_, _, 0, St.mkT (kp (kp (kp (kp (kp (kp (kp rfl rfl) rfl) rfl) rfl) rfl) (by rw [e0]; rfl)) rfl).symm, (by repeat first | exact hle | exact Mem.le_refl M | assumption | exact Mem.none_of_le hle (by assumption) | refine Mem.le_upd ?_ ?_), (by repeat first | exact Mem.upd_self _ _ _ | assumption | refine Mem.upd_ne (by assumption) ?_), (by rw [e0]; show _ = some (AObj.cells [str s.name, str s.topic, int s.cur, int (s.nxt - 1 + 1)]); rw [show s.nxt - 1 + 1 = s.nxt by omega]; exact (by repeat first | exact Mem.upd_self _ _ _ | assumption | refine Mem.upd_ne (by assumption) ?_)), (by repeat first | exact Mem.upd_self _ _ _ | assumption | refine Mem.upd_ne (by assumption) ?_), by omega, rfl⟩
              rintro m S ⟨T, M', i, rfl, hle, hy', hB1', hB2', hi, rfl⟩
              have hcl := cut_len (p := atN x.recs s.nxt) (k := (min (max many 0).toNat (atN x.recs (edge s x) - atN x.recs s.nxt))) hi
              have hcm : (List.map enc ((x.recs.drop (atN x.recs s.nxt)).take (min (i - atN x.recs s.nxt) (min (max many 0).toNat (atN x.recs (edge s x) - atN x.recs s.nxt))))).length = min (i - atN x.recs s.nxt) (min (max many 0).toNat (atN x.recs (edge s x) - atN x.recs s.nxt)) := by rw [List.length_map, hcl]
              have hE := atN_le x.recs (edge s x)
              have hP := atN_le x.recs s.nxt
              refine s_seq ?_
              refine s_seq ?_
              refine s_region ?_
              refine o_q (q_mv (v_raw rfl)) rfl rfl rfl ?_
              refine o_q (q_mv ((by first | exact v_raw rfl | exact v_sptr rfl))) rfl rfl rfl ?_
              refine o_q (q_nil rfl) rfl rfl rfl ?_
              refine o_q (q_fr fo98_4 rfl) rfl rfl rfl ?_
              refine o_q (q_ldm ag28 sz28 rfl (by repeat first | exact Mem.upd_self _ _ _ | assumption | refine Mem.upd_ne (by assumption) ?_) rfl (v_sl rfl)) rfl rfl rfl ?_
              refine o_q (q_len rfl und28 rfl) rfl rfl rfl ?_
              refine o_q (q_lss rfl rfl) rfl rfl rfl ?_
              refine o_q (q_mv (v_raw rfl)) rfl rfl rfl ?_
              refine o_cases (want := true) (j := 7) rfl rfl (fun h6 => ?_) (fun h6 => ?_)
              · have k6 := h6; try simp only [decide_eq_true_eq, decide_eq_false_iff_not, Bool.not_eq_true', Bool.not_eq_false', Bool.not_true, Bool.not_false, List.length_map, Decidable.not_not] at k6
                refine o_yes rfl rfl rfl h6 ?_
                refine o_q (q_mv (v_sl rfl)) rfl rfl rfl ?_
                refine o_yes rfl rfl rfl h6 ?_
                refine o_q (q_len rfl und28 rfl) rfl rfl rfl ?_
                refine o_yes rfl rfl rfl h6 ?_
                refine o_q (q_mv (v_raw rfl)) rfl rfl rfl ?_
                refine o_yes rfl rfl rfl h6 ?_
                refine o_q (q_lss rfl rfl) rfl rfl rfl ?_
                refine o_q (q_pick_c (t := true) rfl h6 (v_raw rfl)) rfl rfl rfl ?_
                refine o_nil ?_
                refine s_cond rfl (fun h7 => ?_) (fun h7 => ?_)
                · have k7 := h7; try simp only [decide_eq_true_eq, decide_eq_false_iff_not, Bool.not_eq_true', Bool.not_eq_false', Bool.not_true, Bool.not_false, List.length_map, Decidable.not_not] at k7
                  have hir := hoff x.recs[i] (List.getElem_mem _)
                  have hcase : (i < atN x.recs s.nxt ∧ x.recs[i].off < lastF ((x.recs.drop (atN x.recs s.nxt)).take (min (i - atN x.recs s.nxt) (min (max many 0).toNat (atN x.recs (edge s x) - atN x.recs s.nxt)))) s.nxt ((x.recs.drop (atN x.recs s.nxt)).take (min (i - atN x.recs s.nxt) (min (max many 0).toNat (atN x.recs (edge s x) - atN x.recs s.nxt)))).length + 1) ∨ (atN x.recs s.nxt ≤ i ∧ lastF ((x.recs.drop (atN x.recs s.nxt)).take (min (i - atN x.recs s.nxt) (min (max many 0).toNat (atN x.recs (edge s x) - atN x.recs s.nxt)))) s.nxt ((x.recs.drop (atN x.recs s.nxt)).take (min (i - atN x.recs s.nxt) (min (max many 0).toNat (atN x.recs (edge s x) - atN x.recs s.nxt)))).length + 1 ≤ x.recs[i].off) := by
                    rcases Nat.lt_or_ge i (atN x.recs s.nxt) with h | h
                    · left; refine ⟨h, ?_⟩
                      obtain ⟨_, h9⟩ := atN_lt h
                      have e0 : (x.recs.drop (atN x.recs s.nxt)).take (min (i - atN x.recs s.nxt) (min (max many 0).toNat (atN x.recs (edge s x) - atN x.recs s.nxt))) = [] := by rw [show i - atN x.recs s.nxt = 0 by omega, Nat.zero_min]; rfl
                      rw [e0]; show _ < s.nxt - 1 + 1; omega
                    · exact .inr ⟨h, lastF_cut hs (by omega) h (atN_ge hs h (by omega))⟩
                  refine s_skip ?_
                  refine s_seq ?_
                  refine s_block ?_
                  refine s_seq ?_
                  refine s_region ?_
                  refine o_q (q_mv ((by first | exact v_raw rfl | exact v_sptr rfl))) rfl rfl rfl ?_
                  refine o_q (q_nil rfl) rfl rfl rfl ?_
                  refine o_q (q_fr fo98_4 rfl) rfl rfl rfl ?_
                  refine o_q (q_ldm ag28 sz28 rfl (by repeat first | exact Mem.upd_self _ _ _ | assumption | refine Mem.upd_ne (by assumption) ?_) rfl (v_sl rfl)) rfl rfl rfl ?_
                  refine o_q (q_mv (v_raw rfl)) rfl rfl rfl ?_
                  refine o_q (q_idx und28 sz35 rfl rfl (by omega) (gm i (by first | omega | simp)) rfl) rfl rfl rfl ?_
                  refine o_q (q_lde ag35 sz35 rfl (gm i (by first | omega | simp)) rfl rfl) rfl rfl rfl ?_
                  refine o_alloc zc35 (fun B3 hB3 => ?_)
                  have ny3 : y ≠ B3 := Mem.fresh_ne hB3 (by repeat first | exact Mem.upd_self _ _ _ | assumption | refine Mem.upd_ne (by assumption) ?_)
                  have ny3' := ny3.symm
                  have f1_3 : B1 ≠ B3 := Mem.fresh_ne hB3 (by repeat first | exact Mem.upd_self _ _ _ | assumption | refine Mem.upd_ne (by assumption) ?_)
                  have g3_1 : B3 ≠ B1 := f1_3.symm
                  have f2_3 : B2 ≠ B3 := Mem.fresh_ne hB3 (by repeat first | exact Mem.upd_self _ _ _ | assumption | refine Mem.upd_ne (by assumption) ?_)
                  have g3_2 : B3 ≠ B2 := f2_3.symm
                  have m3 : M B3 = none := by have h := hB3; repeat (first | exact h | exact Mem.none_of_le hle h | replace h := (Mem.upd_none h).2)
                  refine o_storew rfl (by repeat first | exact Mem.upd_self _ _ _ | assumption | refine Mem.upd_ne (by assumption) ?_) (by first | exact e_agg rfl | rfl) rfl sz35 rfl rfl rfl rfl ?_
                  refine o_nil ?_
                  refine s_seq ?_
                  refine s_region ?_
                  refine o_q (q_fr fo35_0 rfl) rfl rfl rfl ?_
                  refine o_q (q_ldm ag3 sz3 rfl (by repeat first | exact Mem.upd_self _ _ _ | assumption | refine Mem.upd_ne (by assumption) ?_) rfl (v_raw rfl)) rfl rfl rfl ?_
                  refine o_q (q_fr fo61_3 rfl) rfl rfl rfl ?_
                  refine o_q (q_ldm ag3 sz3 rfl (by repeat first | exact Mem.upd_self _ _ _ | assumption | refine Mem.upd_ne (by assumption) ?_) rfl (v_raw rfl)) rfl rfl rfl ?_
                  refine o_q (q_geq rfl rfl) rfl rfl rfl ?_
                  refine o_q (q_mv (v_raw rfl)) rfl rfl rfl ?_
                  refine o_cases (want := true) (j := 5) rfl rfl (fun h8 => ?_) (fun h8 => ?_)
                  · have k8 := h8; try simp only [decide_eq_true_eq, decide_eq_false_iff_not, Bool.not_eq_true', Bool.not_eq_false', Bool.not_true, Bool.not_false, List.length_map, Decidable.not_not] at k8
                    refine o_yes rfl rfl rfl h8 ?_
                    refine o_q (q_fr fo35_0 rfl) rfl rfl rfl ?_
                    refine o_yes rfl rfl rfl h8 ?_
                    refine o_q (q_ldm ag3 sz3 rfl (by repeat first | exact Mem.upd_self _ _ _ | assumption | refine Mem.upd_ne (by assumption) ?_) rfl (v_raw rfl)) rfl rfl rfl ?_
                    refine o_yes rfl rfl rfl h8 ?_
                    refine o_q (q_mv (v_raw rfl)) rfl rfl rfl ?_
                    refine o_yes rfl rfl rfl h8 ?_
                    refine o_q (q_lss rfl rfl) rfl rfl rfl ?_
                    refine o_q (q_pick_c (t := true) rfl h8 (v_raw rfl)) rfl rfl rfl ?_
                    refine o_nil ?_
                    refine s_cond rfl (fun h9 => ?_) (fun h9 => ?_)
                    · have k9 := h9; try simp only [decide_eq_true_eq, decide_eq_false_iff_not, Bool.not_eq_true', Bool.not_eq_false', Bool.not_true, Bool.not_false, List.length_map, Decidable.not_not] at k9
                      refine s_seq ?_
                      refine s_region ?_
                      refine o_qs (q_mv_own rfl) rfl rfl rfl rfl ?_
                      refine o_q (q_ldmw ag35 sz35 rfl (by repeat first | exact Mem.upd_self _ _ _ | assumption | refine Mem.upd_ne (by assumption) ?_) rfl rfl) rfl rfl rfl ?_
                      refine o_q (q_bs slt28 (pc (v_agg rfl) pn) rfl (Els.cons rfl rfl Els.nil) (by decide)) rfl rfl rfl ?_
                      refine o_qs (q_app slt28 rfl rfl rfl rfl (by first | exact elsR | exact Els.cons rfl rfl Els.nil) (by first | exact (by first | exact elsR | exact Els.cons rfl rfl Els.nil) | exact Els.cons rfl rfl Els.nil) (by rw [hcm]; simp; omega)) rfl rfl rfl rfl ?_
                      refine o_qs (q_as_own rfl) rfl rfl rfl rfl ?_
                      refine o_nil ?_
                      refine s_region ?_
                      refine o_q (q_fr fo35_0 rfl) rfl rfl rfl ?_
                      refine o_q (q_ldm ag3 sz3 rfl (by repeat first | exact Mem.upd_self _ _ _ | assumption | refine Mem.upd_ne (by assumption) ?_) rfl (v_raw rfl)) rfl rfl rfl ?_
                      refine o_q (q_add rfl rfl (wrap64 (by omega) (by omega))) rfl rfl rfl ?_
                      refine o_q (q_fr fo61_3 rfl) rfl rfl rfl ?_
                      refine o_store rfl (by repeat first | exact Mem.upd_self _ _ _ | assumption | refine Mem.upd_ne (by assumption) ?_) (by first | exact e_raw rfl | exact e_agg rfl | exact e_sl rfl | rfl) rfl sz3 rfl (Nat.le_of_ble_eq_true rfl) rfl rfl ?_
                      refine o_nil ?_
                      refine s_blk_normal ?_
                      refine s_region ?_
                      refine o_q (q_mv (v_raw rfl)) rfl rfl rfl ?_
                      refine o_q (q_add rfl rfl (wrap64 (by omega) (by omega))) rfl rfl rfl ?_
                      refine o_q (q_as (v_raw rfl)) rfl rfl rfl ?_
                      refine o_nil ?_
                      refine s_inv ?_
                      have hiE : i < atN x.recs (edge s x) := by
                        rcases Nat.lt_or_ge i (atN x.recs (edge s x)) with h | h
                        · exact h
                        · have := atN_ge (off := edge s x) hs h (by omega); omega
                      have hp : atN x.recs s.nxt ≤ i := by omega
                      have e1 := take_step (l := x.recs) (p := atN x.recs s.nxt) (i := i) (k := (min (max many 0).toNat (atN x.recs (edge s x) - atN x.recs s.nxt))) (by omega) hp (by omega)
                      exact ⟨x.recs.length - (i + 1), by omega, _, _, i + 1, St.mkT (kp (kp (kp (kp (kp (kp (kp rfl rfl) rfl) rfl) rfl) rfl) (app_map (f := enc) (x := x.recs[i]) e1)) rfl).symm, (by repeat first | exact hle | exact Mem.le_refl M | assumption | exact Mem.none_of_le hle (by assumption) | refine Mem.le_upd ?_ ?_), (by repeat first | exact Mem.upd_self _ _ _ | assumption | refine Mem.upd_ne (by assumption) ?_), (by rw [e1, lastF_app]; exact (by repeat first | exact Mem.upd_self _ _ _ | assumption | refine Mem.upd_ne (by assumption) ?_)), (by repeat first | exact Mem.upd_self _ _ _ | assumption | refine Mem.upd_ne (by assumption) ?_), by omega, rfl⟩
                    · have k9 := h9; try simp only [decide_eq_true_eq, decide_eq_false_iff_not, Bool.not_eq_true', Bool.not_eq_false', Bool.not_true, Bool.not_false, List.length_map, Decidable.not_not] at k9
                      refine s_skip ?_
                      refine s_blk_normal ?_
                      refine s_region ?_
                      refine o_q (q_mv (v_raw rfl)) rfl rfl rfl ?_
                      refine o_q (q_add rfl rfl (wrap64 (by omega) (by omega))) rfl rfl rfl ?_
                      refine o_q (q_as (v_raw rfl)) rfl rfl rfl ?_
                      refine o_nil ?_
                      refine s_inv ?_
                      have hiE : atN x.recs (edge s x) ≤ i := by
                        rcases Nat.lt_or_ge i (atN x.recs (edge s x)) with h | h
                        · obtain ⟨_, h9⟩ := atN_lt h; omega
                        · exact h
                      have e1 : (x.recs.drop (atN x.recs s.nxt)).take (min (i + 1 - atN x.recs s.nxt) (min (max many 0).toNat (atN x.recs (edge s x) - atN x.recs s.nxt))) = (x.recs.drop (atN x.recs s.nxt)).take (min (i - atN x.recs s.nxt) (min (max many 0).toNat (atN x.recs (edge s x) - atN x.recs s.nxt))) := by congr 1; omega
                      exact ⟨x.recs.length - (i + 1), by omega, _, _, i + 1, St.mkT (kp (kp (kp (kp (kp (kp (kp rfl rfl) rfl) rfl) rfl) rfl) (by rw [e1]; rfl)) rfl).symm, (by repeat first | exact hle | exact Mem.le_refl M | assumption | exact Mem.none_of_le hle (by assumption) | refine Mem.le_upd ?_ ?_), (by repeat first | exact Mem.upd_self _ _ _ | assumption | refine Mem.upd_ne (by assumption) ?_), (by rw [e1]; exact (by repeat first | exact Mem.upd_self _ _ _ | assumption | refine Mem.upd_ne (by assumption) ?_)), (by repeat first | exact Mem.upd_self _ _ _ | assumption | refine Mem.upd_ne (by assumption) ?_), by omega, rfl⟩
                  · have k8 := h8; try simp only [decide_eq_true_eq, decide_eq_false_iff_not, Bool.not_eq_true', Bool.not_eq_false', Bool.not_true, Bool.not_false, List.length_map, Decidable.not_not] at k8
                    refine o_no rfl rfl rfl rfl h8 ?_
                    refine o_no rfl rfl rfl rfl h8 ?_
                    refine o_no rfl rfl rfl rfl h8 ?_
                    refine o_no rfl rfl rfl rfl h8 ?_
                    refine o_q (q_pick_c (t := false) rfl h8 (v_raw rfl)) rfl rfl rfl ?_
                    refine o_nil ?_
                    refine s_else rfl rfl ?_
                    refine s_skip ?_
                    refine s_blk_normal ?_
                    refine s_region ?_
                    refine o_q (q_mv (v_raw rfl)) rfl rfl rfl ?_
                    refine o_q (q_add rfl rfl (wrap64 (by omega) (by omega))) rfl rfl rfl ?_
                    refine o_q (q_as (v_raw rfl)) rfl rfl rfl ?_
                    refine o_nil ?_
                    refine s_inv ?_
                    have hp : i < atN x.recs s.nxt := by omega
                    have e1 : (x.recs.drop (atN x.recs s.nxt)).take (min (i + 1 - atN x.recs s.nxt) (min (max many 0).toNat (atN x.recs (edge s x) - atN x.recs s.nxt))) = (x.recs.drop (atN x.recs s.nxt)).take (min (i - atN x.recs s.nxt) (min (max many 0).toNat (atN x.recs (edge s x) - atN x.recs s.nxt))) := by congr 1; omega
                    exact ⟨x.recs.length - (i + 1), by omega, _, _, i + 1, St.mkT (kp (kp (kp (kp (kp (kp (kp rfl rfl) rfl) rfl) rfl) rfl) (by rw [e1]; rfl)) rfl).symm, (by repeat first | exact hle | exact Mem.le_refl M | assumption | exact Mem.none_of_le hle (by assumption) | refine Mem.le_upd ?_ ?_), (by repeat first | exact Mem.upd_self _ _ _ | assumption | refine Mem.upd_ne (by assumption) ?_), (by rw [e1]; exact (by repeat first | exact Mem.upd_self _ _ _ | assumption | refine Mem.upd_ne (by assumption) ?_)), (by repeat first | exact Mem.upd_self _ _ _ | assumption | refine Mem.upd_ne (by assumption) ?_), by omega, rfl⟩
                · have k7 := h7; try simp only [decide_eq_true_eq, decide_eq_false_iff_not, Bool.not_eq_true', Bool.not_eq_false', Bool.not_true, Bool.not_false, List.length_map, Decidable.not_not] at k7
                  refine s_exit ?_
                  refine s_code_exit ?_
                  refine s_inv_exit ?_
                  refine s_blk_here ?_
                  refine s_inv ?_
                  have e : (x.recs.drop (atN x.recs s.nxt)).take (min (i - atN x.recs s.nxt) (min (max many 0).toNat (atN x.recs (edge s x) - atN x.recs s.nxt))) = pollL s x many := by
                    rw [pollL_cut hs]
                    congr 1
                    omega
                  rw [e] at hB1'
                  exact ⟨_, _, St.mkT (kp (kp (kp rfl rfl) rfl) (by rw [← e]; rfl)).symm, hle, hy', hB1', hB2'⟩
              · have k6 := h6; try simp only [decide_eq_true_eq, decide_eq_false_iff_not, Bool.not_eq_true', Bool.not_eq_false', Bool.not_true, Bool.not_false, List.length_map, Decidable.not_not] at k6
                refine o_no rfl rfl rfl rfl h6 ?_
                refine o_no rfl rfl rfl rfl h6 ?_
                refine o_no rfl rfl rfl rfl h6 ?_
                refine o_no rfl rfl rfl rfl h6 ?_
                refine o_q (q_pick_c (t := false) rfl h6 (v_raw rfl)) rfl rfl rfl ?_
                refine o_nil ?_
                refine s_else rfl rfl ?_
                refine s_exit ?_
                refine s_code_exit ?_
                refine s_inv_exit ?_
                refine s_blk_here ?_
                refine s_inv ?_
                have e : (x.recs.drop (atN x.recs s.nxt)).take (min (i - atN x.recs s.nxt) (min (max many 0).toNat (atN x.recs (edge s x) - atN x.recs s.nxt))) = pollL s x many := by
                  rw [pollL_cut hs]
                  congr 1
                  omega
                rw [e] at hB1'
                exact ⟨_, _, St.mkT (kp (kp (kp rfl rfl) rfl) (by rw [← e]; rfl)).symm, hle, hy', hB1', hB2'⟩
            rintro S ⟨T, M', rfl, hle, hy', hB1', hB2'⟩
            refine s_seq ?_
            refine s_region ?_
            refine o_q (q_ldmw ag61 sz61 rfl (by repeat first | exact Mem.upd_self _ _ _ | assumption | refine Mem.upd_ne (by assumption) ?_) rfl rfl) rfl rfl rfl ?_
            refine o_q (q_mv (v_sl rfl)) rfl rfl rfl ?_
            refine o_storew rfl (by repeat first | exact Mem.upd_self _ _ _ | assumption | refine Mem.upd_ne (by assumption) ?_) (by first | exact e_agg rfl | rfl) rfl sz61 rfl rfl rfl rfl ?_
            refine o_q (q_as (v_sl rfl)) rfl rfl rfl ?_
            refine o_q (q_as (v_raw rfl)) rfl rfl rfl ?_
            refine o_nil ?_
            refine s_ret ?_
            refine s_end ?_
            exact ret_many (.inl rfl) rfl (rl_c rfl (by repeat first | exact Mem.upd_self _ _ _ | assumption | refine Mem.upd_ne (by assumption) ?_) (loadP_w ag61 sz61 rfl rfl) rfl (rl_t rfl (rl_t rfl rl_nil))) rfl ⟨by unfold pollS; rw [if_pos hc]; exact congrArg (fun n => AVal.tup [encSb ⟨s.name, s.topic, s.cur, n⟩, .sl ((pollL s x many).map enc) false, int 0]) (lastF_end _ _).symm, (by repeat first | exact hle | exact Mem.le_refl M | assumption | exact Mem.none_of_le hle (by assumption) | refine Mem.le_upd ?_ ?_)⟩
        · have k4 := h4; try simp only [decide_eq_true_eq, decide_eq_false_iff_not, Bool.not_eq_true', Bool.not_eq_false', Bool.not_true, Bool.not_false, List.length_map, Decidable.not_not] at k4
          refine d_no rfl rfl rfl rfl h4 rfl ?_
          refine d_no rfl rfl rfl rfl h4 rfl ?_
          refine d_q rfl (q_pick_c (t := true) rfl h4 (v_raw rfl)) rfl rfl rfl ?_
          refine d_nil ?_
          refine s_then rfl rfl ?_
          refine s_seq ?_
          refine s_region ?_
          refine o_q (q_ldmw ag61 sz61 rfl (by repeat first | exact Mem.upd_self _ _ _ | assumption | refine Mem.upd_ne (by assumption) ?_) rfl rfl) rfl rfl rfl ?_
          refine o_storew rfl (by repeat first | exact Mem.upd_self _ _ _ | assumption | refine Mem.upd_ne (by assumption) ?_) (by first | exact e_agg rfl | rfl) rfl sz61 rfl rfl rfl rfl ?_
          refine o_q (q_as (v_sl rfl)) rfl rfl rfl ?_
          refine o_q (q_as (v_raw rfl)) rfl rfl rfl ?_
          refine o_nil ?_
          refine s_ret ?_
          refine s_code_ret ?_
          refine s_end ?_
          exact ret_many (.inl rfl) rfl (rl_c rfl (by repeat first | exact Mem.upd_self _ _ _ | assumption | refine Mem.upd_ne (by assumption) ?_) (loadP_w ag61 sz61 rfl rfl) rfl (rl_t rfl (rl_t rfl rl_nil))) rfl ⟨by unfold pollS; unfold ofS; split <;> first | rfl | (exfalso; simp_all; done) | (exfalso; simp_all; omega), (by repeat first | exact hle | exact Mem.le_refl M | assumption | exact Mem.none_of_le hle (by assumption) | refine Mem.le_upd ?_ ?_)⟩
      · have k3 := h3; try simp only [decide_eq_true_eq, decide_eq_false_iff_not, Bool.not_eq_true', Bool.not_eq_false', Bool.not_true, Bool.not_false, List.length_map, Decidable.not_not] at k3
        refine d_no rfl rfl rfl rfl h3 rfl ?_
        refine d_no rfl rfl rfl rfl h3 rfl ?_
        refine d_q rfl (q_pick_c (t := true) rfl h3 (v_raw rfl)) rfl rfl rfl ?_
        refine d_q rfl (q_mv (v_raw rfl)) rfl rfl rfl ?_
        refine d_no rfl rfl rfl rfl rfl rfl ?_
        refine d_no rfl rfl rfl rfl rfl rfl ?_
        refine d_q rfl (q_pick_c (t := true) rfl rfl (v_raw rfl)) rfl rfl rfl ?_
        refine d_nil ?_
        refine s_then rfl rfl ?_
        refine s_seq ?_
        refine s_region ?_
        refine o_q (q_ldmw ag61 sz61 rfl (by repeat first | exact Mem.upd_self _ _ _ | assumption | refine Mem.upd_ne (by assumption) ?_) rfl rfl) rfl rfl rfl ?_
        refine o_storew rfl (by repeat first | exact Mem.upd_self _ _ _ | assumption | refine Mem.upd_ne (by assumption) ?_) (by first | exact e_agg rfl | rfl) rfl sz61 rfl rfl rfl rfl ?_
        refine o_q (q_as (v_sl rfl)) rfl rfl rfl ?_
        refine o_q (q_as (v_raw rfl)) rfl rfl rfl ?_
        refine o_nil ?_
        refine s_ret ?_
        refine s_code_ret ?_
        refine s_end ?_
        exact ret_many (.inl rfl) rfl (rl_c rfl (by repeat first | exact Mem.upd_self _ _ _ | assumption | refine Mem.upd_ne (by assumption) ?_) (loadP_w ag61 sz61 rfl rfl) rfl (rl_t rfl (rl_t rfl rl_nil))) rfl ⟨by unfold pollS; unfold ofS; split <;> first | rfl | (exfalso; simp_all; done) | (exfalso; simp_all; omega), (by repeat first | exact hle | exact Mem.le_refl M | assumption | exact Mem.none_of_le hle (by assumption) | refine Mem.le_upd ?_ ?_)⟩
    · have k2 := h2; try simp only [decide_eq_true_eq, decide_eq_false_iff_not, Bool.not_eq_true', Bool.not_eq_false', Bool.not_true, Bool.not_false, List.length_map, Decidable.not_not] at k2
      refine d_no rfl rfl rfl rfl h2 rfl ?_
      refine d_no rfl rfl rfl rfl h2 rfl ?_
      refine d_no rfl rfl rfl rfl h2 rfl ?_
      refine d_no rfl rfl rfl rfl h2 rfl ?_
      refine d_no rfl rfl rfl rfl h2 rfl ?_
      refine d_no rfl rfl rfl rfl h2 rfl ?_
      refine d_no rfl rfl rfl rfl h2 rfl ?_
      refine d_q rfl (q_pick_c (t := true) rfl h2 (v_raw rfl)) rfl rfl rfl ?_
      refine d_q rfl (q_mv (v_raw rfl)) rfl rfl rfl ?_
      refine d_no rfl rfl rfl rfl rfl rfl ?_
      refine d_no rfl rfl rfl rfl rfl rfl ?_
      refine d_q rfl (q_pick_c (t := true) rfl rfl (v_raw rfl)) rfl rfl rfl ?_
      refine d_q rfl (q_mv (v_raw rfl)) rfl rfl rfl ?_
      refine d_no rfl rfl rfl rfl rfl rfl ?_
      refine d_no rfl rfl rfl rfl rfl rfl ?_
      refine d_q rfl (q_pick_c (t := true) rfl rfl (v_raw rfl)) rfl rfl rfl ?_
      refine d_nil ?_
      refine s_then rfl rfl ?_
      refine s_seq ?_
      refine s_region ?_
      refine o_q (q_ldmw ag61 sz61 rfl (by repeat first | exact Mem.upd_self _ _ _ | assumption | refine Mem.upd_ne (by assumption) ?_) rfl rfl) rfl rfl rfl ?_
      refine o_storew rfl (by repeat first | exact Mem.upd_self _ _ _ | assumption | refine Mem.upd_ne (by assumption) ?_) (by first | exact e_agg rfl | rfl) rfl sz61 rfl rfl rfl rfl ?_
      refine o_q (q_as (v_sl rfl)) rfl rfl rfl ?_
      refine o_q (q_as (v_raw rfl)) rfl rfl rfl ?_
      refine o_nil ?_
      refine s_ret ?_
      refine s_code_ret ?_
      refine s_end ?_
      exact ret_many (.inl rfl) rfl (rl_c rfl (by repeat first | exact Mem.upd_self _ _ _ | assumption | refine Mem.upd_ne (by assumption) ?_) (loadP_w ag61 sz61 rfl rfl) rfl (rl_t rfl (rl_t rfl rl_nil))) rfl ⟨by unfold pollS; unfold ofS; split <;> first | rfl | (exfalso; simp_all; done) | (exfalso; simp_all; omega), (by repeat first | exact hle | exact Mem.le_refl M | assumption | exact Mem.none_of_le hle (by assumption) | refine Mem.le_upd ?_ ?_)⟩
  · have k1 := h1; try simp only [decide_eq_true_eq, decide_eq_false_iff_not, Bool.not_eq_true', Bool.not_eq_false', Bool.not_true, Bool.not_false, List.length_map, Decidable.not_not] at k1
    refine d_no rfl rfl rfl rfl h1 rfl ?_
    refine d_no rfl rfl rfl rfl h1 rfl ?_
    refine d_no rfl rfl rfl rfl h1 rfl ?_
    refine d_no rfl rfl rfl rfl h1 rfl ?_
    refine d_no rfl rfl rfl rfl h1 rfl ?_
    refine d_no rfl rfl rfl rfl h1 rfl ?_
    refine d_no rfl rfl rfl rfl h1 rfl ?_
    refine d_q rfl (q_pick_c (t := true) rfl h1 (v_raw rfl)) rfl rfl rfl ?_
    refine d_q rfl (q_mv (v_raw rfl)) rfl rfl rfl ?_
    refine d_no rfl rfl rfl rfl rfl rfl ?_
    refine d_no rfl rfl rfl rfl rfl rfl ?_
    refine d_no rfl rfl rfl rfl rfl rfl ?_
    refine d_no rfl rfl rfl rfl rfl rfl ?_
    refine d_no rfl rfl rfl rfl rfl rfl ?_
    refine d_no rfl rfl rfl rfl rfl rfl ?_
    refine d_no rfl rfl rfl rfl rfl rfl ?_
    refine d_q rfl (q_pick_c (t := true) rfl rfl (v_raw rfl)) rfl rfl rfl ?_
    refine d_q rfl (q_mv (v_raw rfl)) rfl rfl rfl ?_
    refine d_no rfl rfl rfl rfl rfl rfl ?_
    refine d_no rfl rfl rfl rfl rfl rfl ?_
    refine d_q rfl (q_pick_c (t := true) rfl rfl (v_raw rfl)) rfl rfl rfl ?_
    refine d_q rfl (q_mv (v_raw rfl)) rfl rfl rfl ?_
    refine d_no rfl rfl rfl rfl rfl rfl ?_
    refine d_no rfl rfl rfl rfl rfl rfl ?_
    refine d_q rfl (q_pick_c (t := true) rfl rfl (v_raw rfl)) rfl rfl rfl ?_
    refine d_nil ?_
    refine s_then rfl rfl ?_
    refine s_seq ?_
    refine s_region ?_
    refine o_q (q_ldmw ag61 sz61 rfl (by repeat first | exact Mem.upd_self _ _ _ | assumption | refine Mem.upd_ne (by assumption) ?_) rfl rfl) rfl rfl rfl ?_
    refine o_storew rfl (by repeat first | exact Mem.upd_self _ _ _ | assumption | refine Mem.upd_ne (by assumption) ?_) (by first | exact e_agg rfl | rfl) rfl sz61 rfl rfl rfl rfl ?_
    refine o_q (q_as (v_sl rfl)) rfl rfl rfl ?_
    refine o_q (q_as (v_raw rfl)) rfl rfl rfl ?_
    refine o_nil ?_
    refine s_ret ?_
    refine s_code_ret ?_
    refine s_end ?_
    exact ret_many (.inl rfl) rfl (rl_c rfl (by repeat first | exact Mem.upd_self _ _ _ | assumption | refine Mem.upd_ne (by assumption) ?_) (loadP_w ag61 sz61 rfl rfl) rfl (rl_t rfl (rl_t rfl rl_nil))) rfl ⟨by unfold pollS; unfold ofS; split <;> first | rfl | (exfalso; simp_all; done) | (exfalso; simp_all; omega), (by repeat first | exact hle | exact Mem.le_refl M | assumption | exact Mem.none_of_le hle (by assumption) | refine Mem.le_upd ?_ ?_)⟩
end C15
