import Derived.Test.YtkjdclhhmgjfbaaW04
import Derived.Test.YtkjdclhhmgjfbaaL04
import Derived.Test.YtkjdclhhmgjfbaaK04
/-! Chapter 4: the disk: what its functions compute. -/
open Go Go.Proofs Go.Am
set_option linter.unusedVariables false
set_option linter.unusedSimpArgs false
set_option autoImplicit false
namespace C04
theorem ag42 : aggT Try.prog 42 = some true := by kernel_rfl
theorem fo42_0 : fo Try.prog 42 0 = some (0, 1) := by kernel_rfl
theorem fo42_1 : fo Try.prog 42 1 = some (1, 1) := by kernel_rfl
theorem fo42_2 : fo Try.prog 42 2 = some (2, 1) := by kernel_rfl
theorem fo42_3 : fo Try.prog 42 3 = some (3, 1) := by kernel_rfl
theorem sz42 : sizeT Try.prog 42 = some 5 := by kernel_rfl
theorem und38 : Try.prog.underlying 38 = some (.slice 42) := by kernel_rfl
def tk18 : Nat → Nat → Option Nat := fun _ _ => none
def pl18 : Nat → List PStep := fun _ => []
theorem cb18 : Try.f18.body.map (codeB Try.prog Try.f18.ntmps tk18 pl18) = some true := by kernel_rfl
theorem goes18 : goesB Try.prog 18 = true := by kernel_rfl
set_option maxHeartbeats 4000000 in
set_option maxRecDepth 20000 in
theorem snd18 (c n : Int) (M : Mem) (hn : 0 < n) (hn2 : n < 2 ^ 62) (hc : -2 ^ 63 ≤ c ∧ c < 2 ^ 63) : SoundCall Try.prog 18 [int c, int n] M fun r M' => r = int (pick c n) ∧ M' = M := by
  refine SoundCall.go tk18 pl18 mixed Try.func18 cb18 rfl (Nat.le_of_ble_eq_true rfl) ?_
  refine s_seq ?_
  refine s_region ?_
  refine o_q (q_as (v_raw rfl)) rfl rfl rfl ?_
  refine o_nil ?_
  refine s_seq ?_
  refine s_seq ?_
  refine s_region ?_
  refine o_q (q_mv (v_raw rfl)) rfl rfl rfl ?_
  refine o_q (q_lss rfl rfl) rfl rfl rfl ?_
  refine o_nil ?_
  refine s_cond rfl (fun h1 => ?_) (fun h1 => ?_)
  · have k1 := h1; try simp only [decide_eq_true_eq, decide_eq_false_iff_not, Bool.not_eq_true', Bool.not_eq_false', Bool.not_true, Bool.not_false, List.length_map, Decidable.not_not] at k1
    refine s_region ?_
    refine o_q (q_mv (v_raw rfl)) rfl rfl rfl ?_
    refine o_q (q_add rfl rfl (wrap64 (by omega) (by omega))) rfl rfl rfl ?_
    refine o_q (q_neg rfl (wrap64 (by omega) (by omega))) rfl rfl rfl ?_
    refine o_q (q_as (v_raw rfl)) rfl rfl rfl ?_
    refine o_nil ?_
    refine s_seq ?_
    refine s_region ?_
    refine o_q (q_mv (v_raw rfl)) rfl rfl rfl ?_
    refine o_q (q_mv (v_raw rfl)) rfl rfl rfl ?_
    refine o_q (q_rem rfl rfl (by omega)) rfl rfl rfl ?_
    refine o_q (q_as (v_raw rfl)) rfl rfl rfl ?_
    refine o_nil ?_
    refine s_ret ?_
    refine s_end ?_
    unfold pick
    rw [if_pos (by omega)]
    exact ⟨congrArg int (Int.tmod_eq_emod_of_nonneg (by omega)), rfl⟩
  · have k1 := h1; try simp only [decide_eq_true_eq, decide_eq_false_iff_not, Bool.not_eq_true', Bool.not_eq_false', Bool.not_true, Bool.not_false, List.length_map, Decidable.not_not] at k1
    refine s_skip ?_
    refine s_seq ?_
    refine s_region ?_
    refine o_q (q_mv (v_raw rfl)) rfl rfl rfl ?_
    refine o_q (q_mv (v_raw rfl)) rfl rfl rfl ?_
    refine o_q (q_rem rfl rfl (by omega)) rfl rfl rfl ?_
    refine o_q (q_as (v_raw rfl)) rfl rfl rfl ?_
    refine o_nil ?_
    refine s_ret ?_
    refine s_end ?_
    unfold pick
    rw [if_neg (by omega)]
    exact ⟨congrArg int (Int.tmod_eq_emod_of_nonneg (by omega)), rfl⟩




theorem DiskAt.gd {M : Mem} {O W : Nat → Prop} {d n : Nat} {s : DS} (hA : DiskAt M d n s O W) : Gd s.files.length s.dir := by
  obtain ⟨rf, rl, adr, chs, hD⟩ := hA
  exact (okC_gd hD.oc).2
end C04
