import Derived.Test.YtkjdclhhmgjfbaaX04
import Derived.Test.YtkjdclhhmgjfbaaL05
import Derived.Test.YtkjdclhhmgjfbaaK04
/-! Chapter 4: the disk: what its functions compute. -/
open Go Go.Proofs Go.Am
set_option linter.unusedVariables false
set_option linter.unusedSimpArgs false
set_option autoImplicit false
namespace C04
theorem und4 : Try.prog.underlying 4 = some .bool := by kernel_rfl
theorem zc42 : zeroCellsT Try.prog 42 = some [.raw (.int .i64 0), .raw (.string { data := #[] }), .raw (.string { data := #[] }), .raw (.int .i64 0), .sl [] true] := by kernel_rfl
def tk31 : Nat → Nat → Option Nat := fun _ _ => none
def pl31 : Nat → List PStep
  | 6 => [.q 0, .q 1, .q 2, .q 3, .q 4, .q 5, .q 6, .q 7, .q 8]
  | _ => []
theorem cb31 : Try.f31.body.map (codeB Try.prog Try.f31.ntmps tk31 pl31) = some true := by kernel_rfl
theorem goes31 : goesB Try.prog 31 = true := by kernel_rfl
set_option maxHeartbeats 4000000 in
set_option maxRecDepth 20000 in
theorem snd31 (a b : List ByteArray) (o1 o2 : Bool) (M : Mem) (hl : a.length < 2 ^ 60) (hl2 : b.length < 2 ^ 60) : SoundCall Try.prog 31 [.sl (a.map str) o1, .sl (b.map str) o2] M fun r M' => r = bool (decide (a = b)) ∧ M' = M := by
  refine SoundCall.go tk31 pl31 mixed Try.func31 cb31 rfl (Nat.le_of_ble_eq_true rfl) ?_
  refine s_seq ?_
  refine s_region ?_
  refine o_q (q_as (v_raw rfl)) rfl rfl rfl ?_
  refine o_nil ?_
  refine s_seq ?_
  refine s_seq ?_
  refine s_region ?_
  refine o_q (q_mv (v_sl rfl)) rfl rfl rfl ?_
  refine o_q (q_len rfl und49 rfl) rfl rfl rfl ?_
  refine o_q (q_mv (v_sl rfl)) rfl rfl rfl ?_
  refine o_q (q_len rfl und49 rfl) rfl rfl rfl ?_
  refine o_q (q_neq rfl rfl) rfl rfl rfl ?_
  refine o_nil ?_
  refine s_cond rfl (fun h1 => ?_) (fun h1 => ?_)
  · have k1 := h1; try simp only [decide_eq_true_eq, decide_eq_false_iff_not, Bool.not_eq_true', Bool.not_eq_false', Bool.not_true, Bool.not_false, List.length_map, Decidable.not_not] at k1
    refine s_seq ?_
    refine s_region ?_
    refine o_q (q_as (v_raw rfl)) rfl rfl rfl ?_
    refine o_nil ?_
    refine s_ret ?_
    refine s_code_ret ?_
    refine s_end ?_
    exact ⟨congrArg bool (decide_eq_false fun e => by rw [e] at k1; simp at k1).symm, rfl⟩
  · have k1 := h1; try simp only [decide_eq_true_eq, decide_eq_false_iff_not, Bool.not_eq_true', Bool.not_eq_false', Bool.not_true, Bool.not_false, List.length_map, Decidable.not_not] at k1
    refine s_skip ?_
    refine s_seq ?_
    refine s_seq ?_
    refine s_region ?_
    refine o_q (q_as (v_raw rfl)) rfl rfl rfl ?_
    refine o_nil ?_
    refine s_block ?_
    refine s_loop (fun m S => ∃ T, ∃ i : Nat, S = ⟨setT (setT (setT T 0 (.sl (a.map str) o1)) 1 (.sl (b.map str) o2)) 5 (int (i : Nat)), M⟩ ∧ i ≤ a.length ∧ (∀ j, j < i → a[j]? = b[j]?) ∧ m = a.length - i) a.length ?_ ?_
    · have hlen : a.length = b.length := by omega
      exact ⟨_, 0, St.mkT (kp (kp (kp rfl rfl) rfl) rfl).symm, Nat.zero_le _, (fun j hj => absurd hj (Nat.not_lt_zero j)), rfl⟩
    rintro m S ⟨T, i, rfl, hi, hp, rfl⟩
    have hlen : a.length = b.length := by omega
    refine s_seq ?_
    refine s_seq ?_
    refine s_region ?_
    refine o_q (q_mv (v_raw rfl)) rfl rfl rfl ?_
    refine o_q (q_mv (v_sl rfl)) rfl rfl rfl ?_
    refine o_q (q_len rfl und49 rfl) rfl rfl rfl ?_
    refine o_q (q_lss rfl rfl) rfl rfl rfl ?_
    refine o_nil ?_
    refine s_cond rfl (fun h2 => ?_) (fun h2 => ?_)
    · have k2 := h2; try simp only [decide_eq_true_eq, decide_eq_false_iff_not, Bool.not_eq_true', Bool.not_eq_false', Bool.not_true, Bool.not_false, List.length_map, Decidable.not_not] at k2
      have hi1 : i < a.length := by omega
      have hi2 : i < b.length := by omega
      refine s_skip ?_
      refine s_seq ?_
      refine s_block ?_
      refine s_seq ?_
      refine s_draw rfl ?_
      refine d_q rfl (q_mv (v_sl rfl)) rfl rfl rfl ?_
      refine d_q rfl (q_mv (v_raw rfl)) rfl rfl rfl ?_
      refine d_q rfl (q_idx und49 sz9 rfl rfl (by omega) (gm i (by first | omega | simp)) rfl) rfl rfl rfl ?_
      refine d_q rfl (q_ld ag9 sz9 rfl (gm i (by first | omega | simp)) rfl (v_raw rfl)) rfl rfl rfl ?_
      refine d_q rfl (q_mv (v_sl rfl)) rfl rfl rfl ?_
      refine d_q rfl (q_mv (v_raw rfl)) rfl rfl rfl ?_
      refine d_q rfl (q_idx und49 sz9 rfl rfl (by omega) (gm i (by first | omega | simp)) rfl) rfl rfl rfl ?_
      refine d_q rfl (q_ld ag9 sz9 rfl (gm i (by first | omega | simp)) rfl (v_raw rfl)) rfl rfl rfl ?_
      refine d_q rfl (q_sneq rfl rfl) rfl rfl rfl ?_
      refine d_nil ?_
      refine s_cond rfl (fun h3 => ?_) (fun h3 => ?_)
      · have k3 := h3; try simp only [decide_eq_true_eq, decide_eq_false_iff_not, Bool.not_eq_true', Bool.not_eq_false', Bool.not_true, Bool.not_false, List.length_map, Decidable.not_not] at k3
        refine s_seq ?_
        refine s_region ?_
        refine o_q (q_as (v_raw rfl)) rfl rfl rfl ?_
        refine o_nil ?_
        refine s_ret ?_
        refine s_blk_ret ?_
        refine s_code_ret ?_
        refine s_inv_ret ?_
        refine s_blk_ret ?_
        refine s_code_ret ?_
        refine s_end ?_
        exact ⟨congrArg bool (decide_eq_false fun e => k3 (by subst e; rfl)).symm, rfl⟩
      · have k3 := h3; try simp only [decide_eq_true_eq, decide_eq_false_iff_not, Bool.not_eq_true', Bool.not_eq_false', Bool.not_true, Bool.not_false, List.length_map, Decidable.not_not] at k3
        refine s_skip ?_
        refine s_blk_normal ?_
        refine s_region ?_
        refine o_q (q_mv (v_raw rfl)) rfl rfl rfl ?_
        refine o_q (q_add rfl rfl (wrap64 (by omega) (by omega))) rfl rfl rfl ?_
        refine o_q (q_as (v_raw rfl)) rfl rfl rfl ?_
        refine o_nil ?_
        refine s_inv ?_
        exact ⟨a.length - (i + 1), by omega, _, i + 1, St.mkT (kp (kp (kp rfl rfl) rfl) rfl).symm, by omega, (fun j hj => (Nat.lt_succ_iff_lt_or_eq.1 hj).elim (fun h => hp j h) fun e => by subst e; rw [List.getElem?_eq_getElem hi1, List.getElem?_eq_getElem hi2, k3]), rfl⟩
    · have k2 := h2; try simp only [decide_eq_true_eq, decide_eq_false_iff_not, Bool.not_eq_true', Bool.not_eq_false', Bool.not_true, Bool.not_false, List.length_map, Decidable.not_not] at k2
      refine s_exit ?_
      refine s_code_exit ?_
      refine s_inv_exit ?_
      refine s_blk_here ?_
      refine s_seq ?_
      refine s_region ?_
      refine o_q (q_as (v_raw rfl)) rfl rfl rfl ?_
      refine o_nil ?_
      refine s_ret ?_
      refine s_end ?_
      have hab : a = b := List.ext_getElem? fun j => (Nat.lt_or_ge j i).elim (fun e => hp j e) fun e => by rw [List.getElem?_eq_none (by omega), List.getElem?_eq_none (by omega)]
      exact ⟨congrArg bool (decide_eq_true hab).symm, rfl⟩
theorem texts_same (a : List ByteArray) (o1 o2 : Bool) (M : Mem) (hl : a.length < 2 ^ 60) : SoundCall Try.prog 31 [.sl (a.map str) o1, .sl (a.map str) o2] M fun r M' => r = bool true ∧ M' = M := by
  have := snd31 a a o1 o2 M hl hl
  rwa [decide_eq_true rfl] at this



section
variable {M M' : Mem} {da db n m : Nat} {sa sb s' : DS} {OA OB W : Nat → Prop}
theorem DiskAt.own {d : Nat} {s : DS} {O : Nat → Prop} (h : DiskAt M d n s O W) : (∀ c, O c → W c) ∧ ∀ c, W c → M c ≠ none := by
  obtain ⟨rf, rl, adr, chs, h⟩ := h
  exact ⟨h.ow, h.ok⟩
theorem DiskAt.up {d : Nat} {s : DS} {O : Nat → Prop} (h : DiskAt M d n s O W) (hm : n ≤ m) : DiskAt M d m s O W := by
  obtain ⟨rf, rl, adr, chs, h⟩ := h
  exact ⟨rf, rl, adr, chs, h.up hm⟩
end
theorem Aft.keep {M M' : Mem} {d n : Nat} {s : DS} {O W : Nat → Prop} (h : Aft M M' d n s O W) {c : Nat} (h1 : M c ≠ none) (h2 : ¬ O c) : M' c = M c := by
  obtain ⟨O', W', -, h3, -⟩ := h
  exact h3.eq c h1 h2
end C04
