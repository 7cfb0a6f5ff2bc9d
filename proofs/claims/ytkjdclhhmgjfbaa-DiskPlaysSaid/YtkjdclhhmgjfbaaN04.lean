import Derived.Test.YtkjdclhhmgjfbaaM04
import Derived.Test.YtkjdclhhmgjfbaaW04
/-! Chapter 4: the reference's disk, walked. -/
open Go Go.Proofs Go.Am
set_option linter.unusedVariables false
set_option linter.unusedSimpArgs false
set_option autoImplicit false
namespace C04
theorem ag97 : aggT Try.prog 97 = some true := by kernel_rfl
theorem ag111 : aggT Try.prog 111 = some true := by kernel_rfl
theorem bz87 : (zeroT Try.prog 87).map (fun z => z.cells.toList.map AVal.raw) = some [.raw (.int .i64 0), .raw (.slice none 0 0), .raw (.slice none 0 0), .raw (.slice none 0 0), .raw (.slice none 0 0), .raw (.int .i64 0), .raw (.bool false)] := by kernel_rfl
theorem bp87 : (aPlaces Try.prog 87).isSome = true := by kernel_rfl
theorem bz97 : (zeroT Try.prog 97).map (fun z => z.cells.toList.map AVal.raw) = some [.raw (.string { data := #[] }), .raw (.int .i64 0)] := by kernel_rfl
theorem bp97 : (aPlaces Try.prog 97).isSome = true := by kernel_rfl
theorem fo87_0 : fo Try.prog 87 0 = some (0, 1) := by kernel_rfl
theorem fo87_5 : fo Try.prog 87 5 = some (5, 1) := by kernel_rfl
theorem fo92_0 : fo Try.prog 92 0 = some (0, 1) := by kernel_rfl
theorem fo92_1 : fo Try.prog 92 1 = some (1, 1) := by kernel_rfl
theorem fo92_2 : fo Try.prog 92 2 = some (2, 1) := by kernel_rfl
theorem fo92_3 : fo Try.prog 92 3 = some (3, 1) := by kernel_rfl
theorem fo97_0 : fo Try.prog 97 0 = some (0, 1) := by kernel_rfl
theorem fo97_1 : fo Try.prog 97 1 = some (1, 1) := by kernel_rfl
theorem fo111_0 : fo Try.prog 111 0 = some (0, 1) := by kernel_rfl
theorem fo111_1 : fo Try.prog 111 1 = some (1, 1) := by kernel_rfl
theorem slt84 : SlT Try.prog 84 97 2 24 := ⟨by kernel_rfl, by kernel_rfl, by kernel_rfl, by kernel_rfl, by decide⟩
theorem slt93 : SlT Try.prog 93 111 2 24 := ⟨by kernel_rfl, by kernel_rfl, by kernel_rfl, by kernel_rfl, by decide⟩
theorem sz97 : sizeT Try.prog 97 = some 2 := by kernel_rfl
theorem sz111 : sizeT Try.prog 111 = some 2 := by kernel_rfl
theorem und84 : Try.prog.underlying 84 = some (.slice 97) := by kernel_rfl
theorem und93 : Try.prog.underlying 93 = some (.slice 111) := by kernel_rfl
theorem zc111 : zeroCellsT Try.prog 111 = some [.raw (.string { data := #[] }), .raw (.int .i64 0)] := by kernel_rfl
def tk52 : Nat → Nat → Option Nat := fun _ _ => none
def pl52 : Nat → List PStep := fun _ => []
theorem cb52 : Try.f52.body.map (codeB Try.prog Try.f52.ntmps tk52 pl52) = some true := by kernel_rfl
theorem goes52 : goesB Try.prog 52 = true := by kernel_rfl
set_option maxHeartbeats 4000000 in
set_option maxRecDepth 20000 in
theorem snd52 (s : ByteArray) (la : List A) (own : Bool) (now : List UInt8) (M : Mem) (h : okA s.data.toList la now) (hl : la.length ≤ 2 ^ 41) : SoundCall Try.prog 52 [str s, .sl (la.map encU) own] M fun r M' => r = str ⟨now.toArray⟩ ∧ M' = M := by
  have hml : (la.map encU).length = la.length := List.length_map _
  have hbig : BIG = 2 ^ 40 := rfl
  refine SoundCall.go tk52 pl52 mixed Try.func52 cb52 rfl (Nat.le_of_ble_eq_true rfl) ?_
  refine s_seq ?_
  refine s_region ?_
  refine o_q (q_as (v_raw rfl)) rfl rfl rfl ?_
  refine o_nil ?_
  refine s_seq ?_
  refine s_seq ?_
  refine s_region ?_
  refine o_q (q_as (v_raw rfl)) rfl rfl rfl ?_
  refine o_nil ?_
  refine s_block ?_
  refine s_loop (fun m S => ∃ T, ∃ z : ByteArray, ∃ i : Nat, S = ⟨setT (setT (setT T 0 (str z)) 1 (.sl (la.map encU) own)) 5 (int (i : Nat)), M⟩ ∧ okA z.data.toList (la.drop i) now ∧ i ≤ la.length ∧ m = la.length - i) la.length ?_ ?_
  · exact ⟨_, s, 0, St.mkT (kp (kp (kp rfl rfl) rfl) rfl).symm, h, by omega, rfl⟩
  rintro m S ⟨T, z, i, rfl, hz, hi, rfl⟩
  refine s_seq ?_
  refine s_seq ?_
  refine s_region ?_
  refine o_q (q_mv (v_raw rfl)) rfl rfl rfl ?_
  refine o_q (q_mv (v_sl rfl)) rfl rfl rfl ?_
  refine o_q (q_len rfl und93 rfl) rfl rfl rfl ?_
  refine o_q (q_lss rfl rfl) rfl rfl rfl ?_
  refine o_nil ?_
  refine s_cond rfl (fun h1 => ?_) (fun h1 => ?_)
  · have k1 := h1; try simp only [decide_eq_true_eq, decide_eq_false_iff_not, Bool.not_eq_true', Bool.not_eq_false', Bool.not_true, Bool.not_false, List.length_map, Decidable.not_not] at k1
    have hi2 : i < la.length := by omega
    rw [List.drop_eq_getElem_cons hi2] at hz
    obtain ⟨hz1, hz2, hz3⟩ := hz
    have hz4 := (okA_len hz3).1
    have hzs : z.data.toList.length = z.size := by simp
    refine s_skip ?_
    refine s_seq ?_
    refine s_block ?_
    refine s_seq ?_
    refine s_region ?_
    refine o_q (q_mv (v_sl rfl)) rfl rfl rfl ?_
    refine o_q (q_mv (v_raw rfl)) rfl rfl rfl ?_
    refine o_q (q_idx und93 sz111 rfl rfl (by omega) (gm i (by first | omega | simp)) rfl) rfl rfl rfl ?_
    refine o_q (q_f fo111_1 rfl) rfl rfl rfl ?_
    refine o_q (q_ld ag3 sz3 rfl (gm i (by first | omega | simp)) rfl (v_raw rfl)) rfl rfl rfl ?_
    refine o_q (q_lss rfl rfl) rfl rfl rfl ?_
    refine o_nil ?_
    refine s_cond rfl (fun h2 => ?_) (fun h2 => ?_)
    · have k2 := h2; try simp only [decide_eq_true_eq, decide_eq_false_iff_not, Bool.not_eq_true', Bool.not_eq_false', Bool.not_true, Bool.not_false, List.length_map, Decidable.not_not] at k2
      obtain ⟨tx, hx⟩ : ∃ tx, la[i] = .app tx := by
        cases e : la[i] with
        | app tx => exact ⟨tx, rfl⟩
        | cut n => rw [e] at k2; exact absurd k2 (by show ¬ ((n : Int) < 0); omega)
      have hus : la[i].us = tx := by rw [hx]; rfl
      have hrn : A.run z.data.toList la[i] la[i].units = z.data.toList ++ tx.data.toList := by rw [hx]; show _ ++ tx.data.toList.take tx.size = _; rw [List.take_of_length_le (by simp)]
      rw [hrn] at hz3 hz4
      have hts : tx.data.toList.length = tx.size := by simp
      rw [List.length_append] at hz4
      have hus2 : la[i].us.size = tx.size := by rw [hus]
      refine s_region ?_
      refine o_q (q_mv (v_raw rfl)) rfl rfl rfl ?_
      refine o_q (q_mv (v_sl rfl)) rfl rfl rfl ?_
      refine o_q (q_mv (v_raw rfl)) rfl rfl rfl ?_
      refine o_q (q_idx und93 sz111 rfl rfl (by omega) (gm i (by first | omega | simp)) rfl) rfl rfl rfl ?_
      refine o_q (q_f fo111_0 rfl) rfl rfl rfl ?_
      refine o_q (q_ld ag9 sz9 rfl (gm i (by first | omega | simp)) rfl (v_raw rfl)) rfl rfl rfl ?_
      refine o_q (q_sadd rfl rfl (by omega)) rfl rfl rfl ?_
      refine o_q (q_as (v_raw rfl)) rfl rfl rfl ?_
      refine o_nil ?_
      refine s_blk_normal ?_
      refine s_region ?_
      refine o_q (q_mv (v_raw rfl)) rfl rfl rfl ?_
      refine o_q (q_add rfl rfl (wrap64 (by omega) (by omega))) rfl rfl rfl ?_
      refine o_q (q_as (v_raw rfl)) rfl rfl rfl ?_
      refine o_nil ?_
      refine s_inv ?_
      exact ⟨la.length - (i + 1), by omega, _, z ++ la[i].us, i + 1, St.mkT (kp (kp (kp rfl rfl) rfl) rfl).symm, (by rw [hus]; simpa using hz3), by omega, rfl⟩
    · have k2 := h2; try simp only [decide_eq_true_eq, decide_eq_false_iff_not, Bool.not_eq_true', Bool.not_eq_false', Bool.not_true, Bool.not_false, List.length_map, Decidable.not_not] at k2
      obtain ⟨n, hx⟩ : ∃ n, la[i] = .cut n := by
        cases e : la[i] with
        | app tx => rw [e] at k2; exact absurd (show (-1 : Int) < 0 by decide) k2
        | cut n => exact ⟨n, rfl⟩
      have hun : la[i].un = (n : Int) := by rw [hx]; rfl
      have hnz : n ≤ z.size := by rw [hx] at hz2; rw [← hzs]; exact hz2
      have hrn : A.run z.data.toList la[i] la[i].units = z.data.toList.take n := by rw [hx]; rfl
      rw [hrn] at hz3
      refine s_region ?_
      refine o_q (q_mv (v_raw rfl)) rfl rfl rfl ?_
      refine o_q (q_mv (v_sl rfl)) rfl rfl rfl ?_
      refine o_q (q_mv (v_raw rfl)) rfl rfl rfl ?_
      refine o_q (q_idx und93 sz111 rfl rfl (by omega) (gm i (by first | omega | simp)) rfl) rfl rfl rfl ?_
      refine o_q (q_f fo111_1 rfl) rfl rfl rfl ?_
      refine o_q (q_ld ag3 sz3 rfl (gm i (by first | omega | simp)) rfl (v_raw rfl)) rfl rfl rfl ?_
      refine o_q (q_slstr (n := n) und9 rfl (by show some (some (Value.int .i64 la[i].un)) = _; rw [hun]) hnz) rfl rfl rfl ?_
      refine o_q (q_as (v_raw rfl)) rfl rfl rfl ?_
      refine o_nil ?_
      refine s_blk_normal ?_
      refine s_region ?_
      refine o_q (q_mv (v_raw rfl)) rfl rfl rfl ?_
      refine o_q (q_add rfl rfl (wrap64 (by omega) (by omega))) rfl rfl rfl ?_
      refine o_q (q_as (v_raw rfl)) rfl rfl rfl ?_
      refine o_nil ?_
      refine s_inv ?_
      exact ⟨la.length - (i + 1), by omega, _, z.extract 0 n, i + 1, St.mkT (kp (kp (kp rfl rfl) rfl) rfl).symm, (by rw [ext_list]; exact hz3), by omega, rfl⟩
  · have k1 := h1; try simp only [decide_eq_true_eq, decide_eq_false_iff_not, Bool.not_eq_true', Bool.not_eq_false', Bool.not_true, Bool.not_false, List.length_map, Decidable.not_not] at k1
    refine s_exit ?_
    refine s_code_exit ?_
    refine s_inv_exit ?_
    refine s_blk_here ?_
    refine s_seq ?_
    refine s_region ?_
    refine o_q (q_mv (v_raw rfl)) rfl rfl rfl ?_
    refine o_q (q_as (v_raw rfl)) rfl rfl rfl ?_
    refine o_nil ?_
    refine s_ret ?_
    refine s_end ?_
    have : z = ⟨now.toArray⟩ := by
      rw [List.drop_of_length_le (by omega)] at hz
      exact ba_ext (by rw [hz.1])
    exact ⟨congrArg str this, rfl⟩

def tk49 : Nat → Nat → Option Nat := fun _ _ => none
def pl49 : Nat → List PStep := fun _ => []
theorem cb49 : Try.f49.body.map (codeB Try.prog Try.f49.ntmps tk49 pl49) = some true := by kernel_rfl
theorem goes49 : goesB Try.prog 49 = true := by kernel_rfl
set_option maxHeartbeats 4000000 in
set_option maxRecDepth 20000 in
theorem snd49 (l : Dir) (own : Bool) (k : ByteArray) (M : Mem) (hl : l.length ≤ 2 ^ 41) : SoundCall Try.prog 49 [.sl (l.map encN) own, str k] M fun r M' => r = int (findI l k) ∧ M' = M := by
  have hml : (l.map encN).length = l.length := List.length_map _
  refine SoundCall.go tk49 pl49 mixed Try.func49 cb49 rfl (Nat.le_of_ble_eq_true rfl) ?_
  refine s_seq ?_
  refine s_region ?_
  refine o_q (q_as (v_raw rfl)) rfl rfl rfl ?_
  refine o_nil ?_
  refine s_seq ?_
  refine s_seq ?_
  refine s_region ?_
  refine o_q (q_as (v_raw rfl)) rfl rfl rfl ?_
  refine o_nil ?_
  refine s_block ?_
  refine s_loop (fun m S => ∃ T, ∃ i : Nat, S = ⟨setT (setT (setT T 0 (.sl (l.map encN) own)) 1 (str k)) 5 (int (i : Nat)), M⟩ ∧ (∀ j, ∀ h : j < l.length, j < i → l[j].1 ≠ k) ∧ i ≤ l.length ∧ m = l.length - i) l.length ?_ ?_
  · exact ⟨_, 0, St.mkT (kp (kp (kp rfl rfl) rfl) rfl).symm, (fun j h h2 => absurd h2 (Nat.not_lt_zero j)), by omega, rfl⟩
  rintro m S ⟨T, i, rfl, hlow, hi, rfl⟩
  refine s_seq ?_
  refine s_seq ?_
  refine s_region ?_
  refine o_q (q_mv (v_raw rfl)) rfl rfl rfl ?_
  refine o_q (q_mv (v_sl rfl)) rfl rfl rfl ?_
  refine o_q (q_len rfl und84 rfl) rfl rfl rfl ?_
  refine o_q (q_lss rfl rfl) rfl rfl rfl ?_
  refine o_nil ?_
  refine s_cond rfl (fun h1 => ?_) (fun h1 => ?_)
  · have k1 := h1; try simp only [decide_eq_true_eq, decide_eq_false_iff_not, Bool.not_eq_true', Bool.not_eq_false', Bool.not_true, Bool.not_false, List.length_map, Decidable.not_not] at k1
    have hi2 : i < l.length := by omega
    refine s_skip ?_
    refine s_seq ?_
    refine s_block ?_
    refine s_seq ?_
    refine s_region ?_
    refine o_q (q_mv (v_sl rfl)) rfl rfl rfl ?_
    refine o_q (q_mv (v_raw rfl)) rfl rfl rfl ?_
    refine o_q (q_idx und84 sz97 rfl rfl (by omega) (gm i (by first | omega | simp)) rfl) rfl rfl rfl ?_
    refine o_q (q_f fo97_0 rfl) rfl rfl rfl ?_
    refine o_q (q_ld ag9 sz9 rfl (gm i (by first | omega | simp)) rfl (v_raw rfl)) rfl rfl rfl ?_
    refine o_q (q_mv (v_raw rfl)) rfl rfl rfl ?_
    refine o_q (q_seql rfl rfl) rfl rfl rfl ?_
    refine o_nil ?_
    refine s_cond rfl (fun h2 => ?_) (fun h2 => ?_)
    · have k2 := h2; try simp only [decide_eq_true_eq, decide_eq_false_iff_not, Bool.not_eq_true', Bool.not_eq_false', Bool.not_true, Bool.not_false, List.length_map, Decidable.not_not] at k2
      refine s_seq ?_
      refine s_region ?_
      refine o_q (q_mv (v_sl rfl)) rfl rfl rfl ?_
      refine o_q (q_mv (v_raw rfl)) rfl rfl rfl ?_
      refine o_q (q_idx und84 sz97 rfl rfl (by omega) (gm i (by first | omega | simp)) rfl) rfl rfl rfl ?_
      refine o_q (q_f fo97_1 rfl) rfl rfl rfl ?_
      refine o_q (q_ld ag3 sz3 rfl (gm i (by first | omega | simp)) rfl (v_raw rfl)) rfl rfl rfl ?_
      refine o_q (q_as (v_raw rfl)) rfl rfl rfl ?_
      refine o_nil ?_
      refine s_ret ?_
      refine s_blk_ret ?_
      refine s_code_ret ?_
      refine s_inv_ret ?_
      refine s_blk_ret ?_
      refine s_code_ret ?_
      refine s_end ?_
      exact ⟨congrArg int (findI_at hi2 hlow k2).symm, rfl⟩
    · have k2 := h2; try simp only [decide_eq_true_eq, decide_eq_false_iff_not, Bool.not_eq_true', Bool.not_eq_false', Bool.not_true, Bool.not_false, List.length_map, Decidable.not_not] at k2
      refine s_skip ?_
      refine s_blk_normal ?_
      refine s_region ?_
      refine o_q (q_mv (v_raw rfl)) rfl rfl rfl ?_
      refine o_q (q_add rfl rfl (wrap64 (by omega) (by omega))) rfl rfl rfl ?_
      refine o_q (q_as (v_raw rfl)) rfl rfl rfl ?_
      refine o_nil ?_
      refine s_inv ?_
      exact ⟨l.length - (i + 1), by omega, _, i + 1, St.mkT (kp (kp (kp rfl rfl) rfl) rfl).symm, (fun j h h2 => (Nat.lt_succ_iff_lt_or_eq.1 h2).elim (fun h3 => hlow j h h3) fun e => by subst e; exact k2), by omega, rfl⟩
  · have k1 := h1; try simp only [decide_eq_true_eq, decide_eq_false_iff_not, Bool.not_eq_true', Bool.not_eq_false', Bool.not_true, Bool.not_false, List.length_map, Decidable.not_not] at k1
    refine s_exit ?_
    refine s_code_exit ?_
    refine s_inv_exit ?_
    refine s_blk_here ?_
    refine s_seq ?_
    refine s_region ?_
    refine o_q (q_as (v_raw rfl)) rfl rfl rfl ?_
    refine o_nil ?_
    refine s_ret ?_
    refine s_end ?_
    exact ⟨congrArg int (findI_no fun j h => hlow j h (by omega)).symm, rfl⟩
theorem find_no {l : Dir} {k : ByteArray} {own : Bool} {M : Mem} (hl : l.length ≤ 2 ^ 41) (h : gets l k = none) : SoundCall Try.prog 49 [.sl (l.map encN) own, str k] M fun r M' => r = int (-1) ∧ M' = M := by
  have := snd49 l own k M hl
  rwa [findI_none h] at this


def tk74 : Nat → Nat → Option Nat
  | 1, 0 => some 0
  | 6, 0 => some 0
  | 6, 7 => some 0
  | _, _ => none
def pl74 : Nat → List PStep := fun _ => []
theorem cb74 : Try.f74.body.map (codeB Try.prog Try.f74.ntmps tk74 pl74) = some true := by kernel_rfl
theorem goes74 : goesB Try.prog 74 = true := by kernel_rfl
set_option maxHeartbeats 4000000 in
set_option maxRecDepth 20000 in
theorem snd74 (l : Dir) (own : Bool) (k : ByteArray) (M : Mem) (hl : l.length ≤ 2 ^ 41) : SoundCall Try.prog 74 [.sl (l.map encN) own, str k] M fun r M' => r = .sl ((delS l k).map encN) false ∧ M' = M := by
  have hml : (l.map encN).length = l.length := List.length_map _
  refine SoundCall.go tk74 pl74 mixed Try.func74 cb74 rfl (Nat.le_of_ble_eq_true rfl) ?_
  refine s_seq ?_
  refine s_region ?_
  refine o_q (q_as (v_sl rfl)) rfl rfl rfl ?_
  refine o_nil ?_
  refine s_seq ?_
  refine s_region ?_
  refine o_q (q_as_const rfl) rfl rfl rfl ?_
  refine o_nil ?_
  refine s_seq ?_
  refine s_seq ?_
  refine s_region ?_
  refine o_q (q_as (v_raw rfl)) rfl rfl rfl ?_
  refine o_nil ?_
  refine s_block ?_
  refine s_loop (fun m S => ∃ T, ∃ i : Nat, S = ⟨setT (setT (setT (setT T 0 (.sl (l.map encN) own)) 1 (str k)) 5 (.sl ((delS (l.take i) k).map encN) true)) 6 (int (i : Nat)), M⟩ ∧ i ≤ l.length ∧ m = l.length - i) l.length ?_ ?_
  · exact ⟨_, 0, St.mkT (kp (kp (kp (kp rfl rfl) rfl) rfl) rfl).symm, by omega, rfl⟩
  rintro m S ⟨T, i, rfl, hi, rfl⟩
  have hdl : (delS (l.take i) k).length ≤ (l.take i).length := List.length_filter_le _ _
  rw [List.length_take] at hdl
  refine s_seq ?_
  refine s_seq ?_
  refine s_region ?_
  refine o_q (q_mv (v_raw rfl)) rfl rfl rfl ?_
  refine o_q (q_mv (v_sl rfl)) rfl rfl rfl ?_
  refine o_q (q_len rfl und84 rfl) rfl rfl rfl ?_
  refine o_q (q_lss rfl rfl) rfl rfl rfl ?_
  refine o_nil ?_
  refine s_cond rfl (fun h1 => ?_) (fun h1 => ?_)
  · have k1 := h1; try simp only [decide_eq_true_eq, decide_eq_false_iff_not, Bool.not_eq_true', Bool.not_eq_false', Bool.not_true, Bool.not_false, List.length_map, Decidable.not_not] at k1
    have hi2 : i < l.length := by omega
    refine s_skip ?_
    refine s_seq ?_
    refine s_block ?_
    refine s_seq ?_
    refine s_region ?_
    refine o_q (q_mv (v_sl rfl)) rfl rfl rfl ?_
    refine o_q (q_mv (v_raw rfl)) rfl rfl rfl ?_
    refine o_q (q_idx und84 sz97 rfl rfl (by omega) (gm i (by first | omega | simp)) rfl) rfl rfl rfl ?_
    refine o_q (q_f fo97_0 rfl) rfl rfl rfl ?_
    refine o_q (q_ld ag9 sz9 rfl (gm i (by first | omega | simp)) rfl (v_raw rfl)) rfl rfl rfl ?_
    refine o_q (q_mv (v_raw rfl)) rfl rfl rfl ?_
    refine o_q (q_sneq rfl rfl) rfl rfl rfl ?_
    refine o_nil ?_
    refine s_cond rfl (fun h2 => ?_) (fun h2 => ?_)
    · have k2 := h2; try simp only [decide_eq_true_eq, decide_eq_false_iff_not, Bool.not_eq_true', Bool.not_eq_false', Bool.not_true, Bool.not_false, List.length_map, Decidable.not_not] at k2
      refine s_region ?_
      refine o_qs (q_mv_own rfl) rfl rfl rfl rfl ?_
      refine o_q (q_mv (v_sl rfl)) rfl rfl rfl ?_
      refine o_q (q_mv (v_raw rfl)) rfl rfl rfl ?_
      refine o_q (q_idx und84 sz97 rfl rfl (by omega) (gm i (by first | omega | simp)) rfl) rfl rfl rfl ?_
      refine o_q (q_lde ag97 sz97 rfl (gm i (by first | omega | simp)) rfl rfl) rfl rfl rfl ?_
      refine o_q (q_bs slt84 (pc (v_agg rfl) pn) rfl (Els.cons rfl rfl Els.nil) (by decide)) rfl rfl rfl ?_
      refine o_qs (q_app slt84 rfl rfl rfl rfl elsN (by first | exact elsN | exact Els.cons rfl rfl Els.nil) (by simp; omega)) rfl rfl rfl rfl ?_
      refine o_qs (q_as_own rfl) rfl rfl rfl rfl ?_
      refine o_nil ?_
      refine s_blk_normal ?_
      refine s_region ?_
      refine o_q (q_mv (v_raw rfl)) rfl rfl rfl ?_
      refine o_q (q_add rfl rfl (wrap64 (by omega) (by omega))) rfl rfl rfl ?_
      refine o_q (q_as (v_raw rfl)) rfl rfl rfl ?_
      refine o_nil ?_
      refine s_inv ?_
      exact ⟨l.length - (i + 1), by omega, _, i + 1, St.mkT (kp (kp (kp (kp rfl rfl) rfl) (congrArg (fun q => AVal.sl q true) (by rw [delS_add hi2, if_neg k2, List.map_append]; rfl))) rfl).symm, by omega, rfl⟩
    · have k2 := h2; try simp only [decide_eq_true_eq, decide_eq_false_iff_not, Bool.not_eq_true', Bool.not_eq_false', Bool.not_true, Bool.not_false, List.length_map, Decidable.not_not] at k2
      refine s_skip ?_
      refine s_blk_normal ?_
      refine s_region ?_
      refine o_q (q_mv (v_raw rfl)) rfl rfl rfl ?_
      refine o_q (q_add rfl rfl (wrap64 (by omega) (by omega))) rfl rfl rfl ?_
      refine o_q (q_as (v_raw rfl)) rfl rfl rfl ?_
      refine o_nil ?_
      refine s_inv ?_
      exact ⟨l.length - (i + 1), by omega, _, i + 1, St.mkT (kp (kp (kp (kp rfl rfl) rfl) (congrArg (fun q => AVal.sl q true) (by rw [delS_add hi2, if_pos k2, List.append_nil]))) rfl).symm, by omega, rfl⟩
  · have k1 := h1; try simp only [decide_eq_true_eq, decide_eq_false_iff_not, Bool.not_eq_true', Bool.not_eq_false', Bool.not_true, Bool.not_false, List.length_map, Decidable.not_not] at k1
    refine s_exit ?_
    refine s_code_exit ?_
    refine s_inv_exit ?_
    refine s_blk_here ?_
    refine s_seq ?_
    refine s_region ?_
    refine o_q (q_mv (v_sl rfl)) rfl rfl rfl ?_
    refine o_q (q_as (v_sl rfl)) rfl rfl rfl ?_
    refine o_nil ?_
    refine s_ret ?_
    refine s_end ?_
    exact ⟨by rw [List.take_of_length_le (by omega)]; rfl, rfl⟩

def tk73 : Nat → Nat → Option Nat
  | 5, 0 => some 0
  | 6, 0 => some 0
  | 6, 5 => some 0
  | 7, 0 => some 0
  | 7, 6 => some 0
  | 8, 0 => some 0
  | _, _ => none
def pl73 : Nat → List PStep := fun _ => []
theorem cb73 : Try.f73.body.map (codeB Try.prog Try.f73.ntmps tk73 pl73) = some true := by kernel_rfl
theorem goes73 : goesB Try.prog 73 = true := by kernel_rfl
set_option maxHeartbeats 4000000 in
set_option maxRecDepth 20000 in
theorem snd73 (l : Dir) (own : Bool) (k : ByteArray) (v : Nat) (M : Mem) (hl : l.length ≤ 2 ^ 41) : SoundCall Try.prog 73 [.sl (l.map encN) own, str k, int (v : Nat)] M fun r M' => r = .sl ((insS l k v).map encN) false ∧ M' = M := by
  have hml : ((delS l k).map encN).length = (delS l k).length := List.length_map _
  have hdl : (delS l k).length ≤ l.length := List.length_filter_le _ _
  refine SoundCall.go tk73 pl73 mixed Try.func73 cb73 rfl (Nat.le_of_ble_eq_true rfl) ?_
  refine s_seq ?_
  refine s_region ?_
  refine o_q (q_as (v_sl rfl)) rfl rfl rfl ?_
  refine o_nil ?_
  refine s_seq ?_
  refine s_region ?_
  refine o_q (q_mv (v_sl rfl)) rfl rfl rfl ?_
  refine o_q (q_mv (v_raw rfl)) rfl rfl rfl ?_
  refine o_call ((snd74 l false k _ hl)) goes74 (ac (v_sl rfl) (ac (v_raw rfl) ac_nil)) rfl ?_
  refine o_q (q_as (v_sl rfl)) rfl rfl rfl ?_
  refine o_nil ?_
  refine s_seq ?_
  refine s_region ?_
  refine o_q (q_as (v_raw rfl)) rfl rfl rfl ?_
  refine o_nil ?_
  refine s_seq ?_
  refine s_block ?_
  refine s_loop (fun m S => ∃ T, ∃ i : Nat, S = ⟨setT (setT (setT (setT (setT T 0 (.sl (l.map encN) own)) 1 (str k)) 2 (int (v : Nat))) 7 (.sl ((delS l k).map encN) false)) 8 (int (i : Nat)), M⟩ ∧ (∀ q, ∀ h : q < (delS l k).length, q < i → bLt (delS l k)[q].1 k) ∧ i ≤ (delS l k).length ∧ m = (delS l k).length - i) (delS l k).length ?_ ?_
  · exact ⟨_, 0, St.mkT (kp (kp (kp (kp (kp rfl rfl) rfl) rfl) rfl) rfl).symm, (fun j h h2 => absurd h2 (Nat.not_lt_zero j)), by omega, rfl⟩
  rintro m S ⟨T, i, rfl, hlow, hi, rfl⟩
  refine s_seq ?_
  refine s_seq ?_
  refine s_region ?_
  refine o_q (q_mv (v_raw rfl)) rfl rfl rfl ?_
  refine o_q (q_mv (v_sl rfl)) rfl rfl rfl ?_
  refine o_q (q_len rfl und84 rfl) rfl rfl rfl ?_
  refine o_q (q_lss rfl rfl) rfl rfl rfl ?_
  refine o_q (q_mv (v_raw rfl)) rfl rfl rfl ?_
  refine o_cases (want := true) (j := 4) rfl rfl (fun h1 => ?_) (fun h1 => ?_)
  · have k1 := h1; try simp only [decide_eq_true_eq, decide_eq_false_iff_not, Bool.not_eq_true', Bool.not_eq_false', Bool.not_true, Bool.not_false, List.length_map, Decidable.not_not] at k1
    have hi2 : i < (delS l k).length := by omega
    refine o_yes rfl rfl rfl h1 ?_
    refine o_q (q_mv (v_sl rfl)) rfl rfl rfl ?_
    refine o_yes rfl rfl rfl h1 ?_
    refine o_q (q_mv (v_raw rfl)) rfl rfl rfl ?_
    refine o_yes rfl rfl rfl h1 ?_
    refine o_q (q_idx und84 sz97 rfl rfl (by omega) (gm i (by first | omega | simp)) rfl) rfl rfl rfl ?_
    refine o_yes rfl rfl rfl h1 ?_
    refine o_q (q_f fo97_0 rfl) rfl rfl rfl ?_
    refine o_yes rfl rfl rfl h1 ?_
    refine o_q (q_ld ag9 sz9 rfl (gm i (by first | omega | simp)) rfl (v_raw rfl)) rfl rfl rfl ?_
    refine o_yes rfl rfl rfl h1 ?_
    refine o_q (q_mv (v_raw rfl)) rfl rfl rfl ?_
    refine o_yes rfl rfl rfl h1 ?_
    refine o_q (q_slss rfl rfl) rfl rfl rfl ?_
    refine o_q (q_pick_c (t := true) rfl h1 (v_raw rfl)) rfl rfl rfl ?_
    refine o_nil ?_
    refine s_cond rfl (fun h2 => ?_) (fun h2 => ?_)
    · have k2 := h2; try simp only [decide_eq_true_eq, decide_eq_false_iff_not, Bool.not_eq_true', Bool.not_eq_false', Bool.not_true, Bool.not_false, List.length_map, Decidable.not_not] at k2
      refine s_skip ?_
      refine s_block ?_
      refine s_region ?_
      refine o_q (q_mv (v_raw rfl)) rfl rfl rfl ?_
      refine o_q (q_add rfl rfl (wrap64 (by omega) (by omega))) rfl rfl rfl ?_
      refine o_q (q_as (v_raw rfl)) rfl rfl rfl ?_
      refine o_nil ?_
      refine s_blk_normal ?_
      refine s_inv ?_
      exact ⟨(delS l k).length - (i + 1), by omega, _, i + 1, St.mkT (kp (kp (kp (kp (kp rfl rfl) rfl) rfl) rfl) rfl).symm, (fun j h h3 => (Nat.lt_succ_iff_lt_or_eq.1 h3).elim (fun h4 => hlow j h h4) fun e => by subst e; exact k2), by omega, rfl⟩
    · have k2 := h2; try simp only [decide_eq_true_eq, decide_eq_false_iff_not, Bool.not_eq_true', Bool.not_eq_false', Bool.not_true, Bool.not_false, List.length_map, Decidable.not_not] at k2
      refine s_exit ?_
      refine s_code_exit ?_
      refine s_inv_exit ?_
      refine s_blk_here ?_
      refine s_seq ?_
      refine s_region ?_
      refine o_q (q_as_const rfl) rfl rfl rfl ?_
      refine o_nil ?_
      refine s_seq ?_
      refine s_region ?_
      refine o_qs (q_mv_own rfl) rfl rfl rfl rfl ?_
      refine o_q (q_mv (v_sl rfl)) rfl rfl rfl ?_
      refine o_q (q_mv (v_raw rfl)) rfl rfl rfl ?_
      refine o_q (q_slice und84 sz97 rfl (by repeat first | exact elsN | exact Els.nil | exact Els.cons rfl rfl Els.nil | refine Els.append ?_ ?_ | refine Els.drop ?_ _ | refine Els.take ?_ _) ab_none (ab rfl rfl) (by omega) (by first | omega | (simp; omega))) rfl rfl rfl ?_
      refine o_qs (q_app slt84 rfl rfl rfl rfl (by repeat first | exact elsN | exact Els.nil | exact Els.cons rfl rfl Els.nil | refine Els.append ?_ ?_ | refine Els.drop ?_ _ | refine Els.take ?_ _) (by first | exact (by repeat first | exact elsN | exact Els.nil | exact Els.cons rfl rfl Els.nil | refine Els.append ?_ ?_ | refine Els.drop ?_ _ | refine Els.take ?_ _) | exact Els.cons rfl rfl Els.nil) (by simp; omega)) rfl rfl rfl rfl ?_
      refine o_qs (q_as_own rfl) rfl rfl rfl rfl ?_
      refine o_nil ?_
      refine s_seq ?_
      refine s_region ?_
      refine o_qs (q_mv_own rfl) rfl rfl rfl rfl ?_
      refine o_q (q_mv (v_raw rfl)) rfl rfl rfl ?_
      refine o_q (q_mv (v_raw rfl)) rfl rfl rfl ?_
      refine o_q (q_b (cs := [_, _]) bz97 bp97 (bf fo97_0 (e_raw rfl) rfl rfl (Nat.le_of_ble_eq_true rfl) rfl (bf fo97_1 (e_raw rfl) rfl rfl (Nat.le_of_ble_eq_true rfl) rfl bf_nil))) rfl rfl rfl ?_
      refine o_q (q_bs slt84 (pc (v_agg rfl) pn) rfl (Els.cons rfl rfl Els.nil) (by decide)) rfl rfl rfl ?_
      refine o_qs (q_app slt84 rfl rfl rfl rfl (by repeat first | exact elsN | exact Els.nil | exact Els.cons rfl rfl Els.nil | refine Els.append ?_ ?_ | refine Els.drop ?_ _ | refine Els.take ?_ _) (by first | exact (by repeat first | exact elsN | exact Els.nil | exact Els.cons rfl rfl Els.nil | refine Els.append ?_ ?_ | refine Els.drop ?_ _ | refine Els.take ?_ _) | exact Els.cons rfl rfl Els.nil) (by simp; omega)) rfl rfl rfl rfl ?_
      refine o_qs (q_as_own rfl) rfl rfl rfl rfl ?_
      refine o_nil ?_
      refine s_seq ?_
      refine s_region ?_
      refine o_qs (q_mv_own rfl) rfl rfl rfl rfl ?_
      refine o_q (q_mv (v_sl rfl)) rfl rfl rfl ?_
      refine o_q (q_mv (v_raw rfl)) rfl rfl rfl ?_
      refine o_q (q_slice und84 sz97 rfl (by repeat first | exact elsN | exact Els.nil | exact Els.cons rfl rfl Els.nil | refine Els.append ?_ ?_ | refine Els.drop ?_ _ | refine Els.take ?_ _) (ab rfl rfl) ab_none (by omega) (by first | omega | (simp; omega))) rfl rfl rfl ?_
      refine o_qs (q_app slt84 rfl rfl rfl rfl (by repeat first | exact elsN | exact Els.nil | exact Els.cons rfl rfl Els.nil | refine Els.append ?_ ?_ | refine Els.drop ?_ _ | refine Els.take ?_ _) (by first | exact (by repeat first | exact elsN | exact Els.nil | exact Els.cons rfl rfl Els.nil | refine Els.append ?_ ?_ | refine Els.drop ?_ _ | refine Els.take ?_ _) | exact Els.cons rfl rfl Els.nil) (by simp; omega)) rfl rfl rfl rfl ?_
      refine o_q (q_as (v_sl rfl)) rfl rfl rfl ?_
      refine o_nil ?_
      refine s_ret ?_
      refine s_end ?_
      exact ⟨congrArg (fun q => AVal.sl q false) (by rw [insS_at (by omega) hlow (fun h => k2)]; simp [List.map_take, List.map_drop, encN, List.take_of_length_le, int, str]), rfl⟩
  · have k1 := h1; try simp only [decide_eq_true_eq, decide_eq_false_iff_not, Bool.not_eq_true', Bool.not_eq_false', Bool.not_true, Bool.not_false, List.length_map, Decidable.not_not] at k1
    refine o_no rfl rfl rfl rfl h1 ?_
    refine o_no rfl rfl rfl rfl h1 ?_
    refine o_no rfl rfl rfl rfl h1 ?_
    refine o_no rfl rfl rfl rfl h1 ?_
    refine o_no rfl rfl rfl rfl h1 ?_
    refine o_no rfl rfl rfl rfl h1 ?_
    refine o_no rfl rfl rfl rfl h1 ?_
    refine o_q (q_pick_c (t := false) rfl h1 (v_raw rfl)) rfl rfl rfl ?_
    refine o_nil ?_
    refine s_else rfl rfl ?_
    refine s_exit ?_
    refine s_code_exit ?_
    refine s_inv_exit ?_
    refine s_blk_here ?_
    refine s_seq ?_
    refine s_region ?_
    refine o_q (q_as_const rfl) rfl rfl rfl ?_
    refine o_nil ?_
    refine s_seq ?_
    refine s_region ?_
    refine o_qs (q_mv_own rfl) rfl rfl rfl rfl ?_
    refine o_q (q_mv (v_sl rfl)) rfl rfl rfl ?_
    refine o_q (q_mv (v_raw rfl)) rfl rfl rfl ?_
    refine o_q (q_slice und84 sz97 rfl (by repeat first | exact elsN | exact Els.nil | exact Els.cons rfl rfl Els.nil | refine Els.append ?_ ?_ | refine Els.drop ?_ _ | refine Els.take ?_ _) ab_none (ab rfl rfl) (by omega) (by first | omega | (simp; omega))) rfl rfl rfl ?_
    refine o_qs (q_app slt84 rfl rfl rfl rfl (by repeat first | exact elsN | exact Els.nil | exact Els.cons rfl rfl Els.nil | refine Els.append ?_ ?_ | refine Els.drop ?_ _ | refine Els.take ?_ _) (by first | exact (by repeat first | exact elsN | exact Els.nil | exact Els.cons rfl rfl Els.nil | refine Els.append ?_ ?_ | refine Els.drop ?_ _ | refine Els.take ?_ _) | exact Els.cons rfl rfl Els.nil) (by simp; omega)) rfl rfl rfl rfl ?_
    refine o_qs (q_as_own rfl) rfl rfl rfl rfl ?_
    refine o_nil ?_
    refine s_seq ?_
    refine s_region ?_
    refine o_qs (q_mv_own rfl) rfl rfl rfl rfl ?_
    refine o_q (q_mv (v_raw rfl)) rfl rfl rfl ?_
    refine o_q (q_mv (v_raw rfl)) rfl rfl rfl ?_
    refine o_q (q_b (cs := [_, _]) bz97 bp97 (bf fo97_0 (e_raw rfl) rfl rfl (Nat.le_of_ble_eq_true rfl) rfl (bf fo97_1 (e_raw rfl) rfl rfl (Nat.le_of_ble_eq_true rfl) rfl bf_nil))) rfl rfl rfl ?_
    refine o_q (q_bs slt84 (pc (v_agg rfl) pn) rfl (Els.cons rfl rfl Els.nil) (by decide)) rfl rfl rfl ?_
    refine o_qs (q_app slt84 rfl rfl rfl rfl (by repeat first | exact elsN | exact Els.nil | exact Els.cons rfl rfl Els.nil | refine Els.append ?_ ?_ | refine Els.drop ?_ _ | refine Els.take ?_ _) (by first | exact (by repeat first | exact elsN | exact Els.nil | exact Els.cons rfl rfl Els.nil | refine Els.append ?_ ?_ | refine Els.drop ?_ _ | refine Els.take ?_ _) | exact Els.cons rfl rfl Els.nil) (by simp; omega)) rfl rfl rfl rfl ?_
    refine o_qs (q_as_own rfl) rfl rfl rfl rfl ?_
    refine o_nil ?_
    refine s_seq ?_
    refine s_region ?_
    refine o_qs (q_mv_own rfl) rfl rfl rfl rfl ?_
    refine o_q (q_mv (v_sl rfl)) rfl rfl rfl ?_
    refine o_q (q_mv (v_raw rfl)) rfl rfl rfl ?_
    refine o_q (q_slice und84 sz97 rfl (by repeat first | exact elsN | exact Els.nil | exact Els.cons rfl rfl Els.nil | refine Els.append ?_ ?_ | refine Els.drop ?_ _ | refine Els.take ?_ _) (ab rfl rfl) ab_none (by omega) (by first | omega | (simp; omega))) rfl rfl rfl ?_
    refine o_qs (q_app slt84 rfl rfl rfl rfl (by repeat first | exact elsN | exact Els.nil | exact Els.cons rfl rfl Els.nil | refine Els.append ?_ ?_ | refine Els.drop ?_ _ | refine Els.take ?_ _) (by first | exact (by repeat first | exact elsN | exact Els.nil | exact Els.cons rfl rfl Els.nil | refine Els.append ?_ ?_ | refine Els.drop ?_ _ | refine Els.take ?_ _) | exact Els.cons rfl rfl Els.nil) (by simp; omega)) rfl rfl rfl rfl ?_
    refine o_q (q_as (v_sl rfl)) rfl rfl rfl ?_
    refine o_nil ?_
    refine s_ret ?_
    refine s_end ?_
    exact ⟨congrArg (fun q => AVal.sl q false) (by rw [insS_at (by omega) hlow (fun h => absurd h (by omega))]; simp [List.map_take, List.map_drop, encN, List.take_of_length_le, int, str]), rfl⟩

def tk51 : Nat → Nat → Option Nat := fun _ _ => none
def pl51 : Nat → List PStep
  | 6 => [.q 0, .q 1, .q 2, .q 4, .q 5, .q 6, .s 3 [6, 5, 4, 1], .s 7 [4, 2, 1, 0], .q 8]
  | _ => []
theorem cb51 : Try.f51.body.map (codeB Try.prog Try.f51.ntmps tk51 pl51) = some true := by kernel_rfl
theorem goes51 : goesB Try.prog 51 = true := by kernel_rfl
theorem run_mv {l : Dir} {a b : ByteArray} {i : Nat} (h : gets l a = some i) : (Dc.mv a b).run l = insS (delS l a) b i := by
  show insS _ _ _ = _
  rw [h]; rfl
theorem find_at {l : Dir} {k : ByteArray} {i : Nat} {own : Bool} {M : Mem} (hl : l.length ≤ 2 ^ 41) (h : gets l k = some i) : SoundCall Try.prog 49 [.sl (l.map encN) own, str k] M fun r M' => r = int (i : Nat) ∧ M' = M := by
  have := snd49 l own k M hl
  rwa [findI_some h] at this
set_option maxHeartbeats 4000000 in
set_option maxRecDepth 20000 in
theorem snd51 (l : Dir) (own : Bool) (c : Dc) (M : Mem) (hl : l.length ≤ 2 ^ 41) (ho : c.ok l) : SoundCall Try.prog 51 [.sl (l.map encN) own, encS c] M fun r M' => r = .sl ((c.run l).map encN) false ∧ M.le M' := by
  refine SoundCall.go tk51 pl51 mixed Try.func51 cb51 rfl (Nat.le_of_ble_eq_true rfl) ?_
  refine s_seq ?_
  refine s_region ?_
  refine o_box (by first | exact e_raw rfl | exact e_agg rfl | exact e_sl rfl) rfl rfl (fun B1 hB1 => ?_)
  refine o_q (q_as (v_sl rfl)) rfl rfl rfl ?_
  refine o_nil ?_
  refine s_seq ?_
  refine s_seq ?_
  refine s_region ?_
  refine o_q (q_fr fo92_0 rfl) rfl rfl rfl ?_
  refine o_q (q_ldm ag3 sz3 rfl (by repeat first | exact Mem.upd_self _ _ _ | assumption | refine Mem.upd_ne (by assumption) ?_) rfl (v_raw rfl)) rfl rfl rfl ?_
  refine o_nil ?_
  refine s_block ?_
  refine s_seq ?_
  refine s_region ?_
  refine o_q (q_eql rfl rfl) rfl rfl rfl ?_
  refine o_q (q_as (v_raw rfl)) rfl rfl rfl ?_
  refine o_nil ?_
  refine s_cond rfl (fun h1 => ?_) (fun h1 => ?_)
  · have k1 := h1; try simp only [decide_eq_true_eq, decide_eq_false_iff_not, Bool.not_eq_true', Bool.not_eq_false', Bool.not_true, Bool.not_false, List.length_map, Decidable.not_not] at k1
    refine s_seq ?_
    refine s_region ?_
    refine o_q (q_mv (v_sl rfl)) rfl rfl rfl ?_
    refine o_q (q_fr fo92_1 rfl) rfl rfl rfl ?_
    refine o_q (q_ldm ag9 sz9 rfl (by repeat first | exact Mem.upd_self _ _ _ | assumption | refine Mem.upd_ne (by assumption) ?_) rfl (v_raw rfl)) rfl rfl rfl ?_
    refine o_q (q_fr fo92_3 rfl) rfl rfl rfl ?_
    refine o_q (q_ldm ag3 sz3 rfl (by repeat first | exact Mem.upd_self _ _ _ | assumption | refine Mem.upd_ne (by assumption) ?_) rfl (v_raw rfl)) rfl rfl rfl ?_
    refine o_call ((snd73 l false c.sa c.si _ hl)) goes73 (ac (v_sl rfl) (ac (v_raw rfl) (ac (v_raw rfl) ac_nil))) rfl ?_
    refine o_q (q_as (v_sl rfl)) rfl rfl rfl ?_
    refine o_nil ?_
    refine s_ret ?_
    refine s_blk_ret ?_
    refine s_code_ret ?_
    refine s_end ?_
    cases c with
    | mk s i => exact ⟨rfl, Mem.le_upd (Mem.le_refl M) hB1⟩
    | mv a b => cases k1
    | rm a => cases k1
  · have k1 := h1; try simp only [decide_eq_true_eq, decide_eq_false_iff_not, Bool.not_eq_true', Bool.not_eq_false', Bool.not_true, Bool.not_false, List.length_map, Decidable.not_not] at k1
    refine s_seq ?_
    refine s_region ?_
    refine o_q (q_eql rfl rfl) rfl rfl rfl ?_
    refine o_q (q_as (v_raw rfl)) rfl rfl rfl ?_
    refine o_nil ?_
    refine s_cond rfl (fun h2 => ?_) (fun h2 => ?_)
    · have k2 := h2; try simp only [decide_eq_true_eq, decide_eq_false_iff_not, Bool.not_eq_true', Bool.not_eq_false', Bool.not_true, Bool.not_false, List.length_map, Decidable.not_not] at k2
      obtain ⟨a, b, rfl⟩ : ∃ a b, c = .mv a b := by
        cases c with
        | mk s i => cases k2
        | mv a b => exact ⟨a, b, rfl⟩
        | rm a => cases k2
      obtain ⟨i, hg⟩ := Option.isSome_iff_exists.1 ho
      have hdl : (delS l a).length ≤ 2 ^ 41 := Nat.le_trans (List.length_filter_le _ _) hl
      refine s_seq ?_
      refine s_region ?_
      refine o_q (q_mv (v_sl rfl)) rfl rfl rfl ?_
      refine o_q (q_fr fo92_1 rfl) rfl rfl rfl ?_
      refine o_q (q_ldm ag9 sz9 rfl (by repeat first | exact Mem.upd_self _ _ _ | assumption | refine Mem.upd_ne (by assumption) ?_) rfl (v_raw rfl)) rfl rfl rfl ?_
      refine o_call ((find_at hl hg)) goes49 (ac (v_sl rfl) (ac (v_raw rfl) ac_nil)) rfl ?_
      refine o_q (q_as (v_raw rfl)) rfl rfl rfl ?_
      refine o_nil ?_
      refine s_seq ?_
      refine s_draw rfl ?_
      refine d_q rfl (q_mv (v_sl rfl)) rfl rfl rfl ?_
      refine d_q rfl (q_fr fo92_1 rfl) rfl rfl rfl ?_
      refine d_q rfl (q_ldm ag9 sz9 rfl (by repeat first | exact Mem.upd_self _ _ _ | assumption | refine Mem.upd_ne (by assumption) ?_) rfl (v_raw rfl)) rfl rfl rfl ?_
      refine d_q rfl (q_fr fo92_2 rfl) rfl rfl rfl ?_
      refine d_q rfl (q_ldm ag9 sz9 rfl (by repeat first | exact Mem.upd_self _ _ _ | assumption | refine Mem.upd_ne (by assumption) ?_) rfl (v_raw rfl)) rfl rfl rfl ?_
      refine d_q rfl (q_mv (v_raw rfl)) rfl rfl rfl ?_
      refine d_s rfl ?_
      refine o_call ((snd74 l false a _ hl)) goes74 (ac (v_sl rfl) (ac (v_raw rfl) ac_nil)) rfl ?_
      refine o_nil ⟨(by simp [Mem.upd, *]), ?_⟩
      refine d_s rfl ?_
      refine o_call ((snd73 (delS l a) false b i _ hdl)) goes73 (ac (v_sl rfl) (ac (v_raw rfl) (ac (v_raw rfl) ac_nil))) rfl ?_
      refine o_nil ⟨(by simp [Mem.upd, *]), ?_⟩
      refine d_q rfl (q_as (v_sl rfl)) rfl rfl rfl ?_
      refine d_nil ?_
      refine s_ret ?_
      refine s_blk_ret ?_
      refine s_code_ret ?_
      refine s_end ?_
      exact ⟨congrArg (fun q : Dir => AVal.sl (q.map encN) false) (run_mv hg).symm, Mem.le_upd (Mem.le_refl M) hB1⟩
    · have k2 := h2; try simp only [decide_eq_true_eq, decide_eq_false_iff_not, Bool.not_eq_true', Bool.not_eq_false', Bool.not_true, Bool.not_false, List.length_map, Decidable.not_not] at k2
      refine s_skip ?_
      refine s_blk_normal ?_
      refine s_seq ?_
      refine s_region ?_
      refine o_q (q_mv (v_sl rfl)) rfl rfl rfl ?_
      refine o_q (q_fr fo92_1 rfl) rfl rfl rfl ?_
      refine o_q (q_ldm ag9 sz9 rfl (by repeat first | exact Mem.upd_self _ _ _ | assumption | refine Mem.upd_ne (by assumption) ?_) rfl (v_raw rfl)) rfl rfl rfl ?_
      refine o_call ((snd74 l false c.sa _ hl)) goes74 (ac (v_sl rfl) (ac (v_raw rfl) ac_nil)) rfl ?_
      refine o_q (q_as (v_sl rfl)) rfl rfl rfl ?_
      refine o_nil ?_
      refine s_ret ?_
      refine s_end ?_
      cases c with
      | mk s i => exact absurd rfl k1
      | mv a b => exact absurd rfl k2
      | rm a => exact ⟨rfl, Mem.le_upd (Mem.le_refl M) hB1⟩

def tk75 : Nat → Nat → Option Nat := fun _ _ => none
def pl75 : Nat → List PStep := fun _ => []
theorem cb75 : Try.f75.body.map (codeB Try.prog Try.f75.ntmps tk75 pl75) = some true := by kernel_rfl
theorem goes75 : goesB Try.prog 75 = true := by kernel_rfl
theorem ba_ne {s : ByteArray} (h : (1 : Int) ≤ (s.size : Nat)) : s ≠ ⟨#[]⟩ := fun e => by rw [e] at h; exact absurd h (by decide)
theorem ba_nil {s : ByteArray} (h : ¬ (1 : Int) ≤ (s.size : Nat)) : s = ⟨#[]⟩ := ba_ext (by
  have h1 : s.data.toList.length = s.size := by simp
  exact List.eq_nil_of_length_eq_zero (by omega))
set_option maxHeartbeats 4000000 in
set_option maxRecDepth 20000 in
theorem snd75 (s : ByteArray) (M : Mem) : SoundCall Try.prog 75 [str s] M fun r M' => r = bool (okN s) ∧ M' = M := by
  refine SoundCall.go tk75 pl75 mixed Try.func75 cb75 rfl (Nat.le_of_ble_eq_true rfl) ?_
  refine s_seq ?_
  refine s_region ?_
  refine o_q (q_as (v_raw rfl)) rfl rfl rfl ?_
  refine o_nil ?_
  refine s_seq ?_
  refine s_region ?_
  refine o_q (q_mv (v_raw rfl)) rfl rfl rfl ?_
  refine o_q (q_lens rfl und9 rfl) rfl rfl rfl ?_
  refine o_q (q_geq rfl rfl) rfl rfl rfl ?_
  refine o_q (q_mv (v_raw rfl)) rfl rfl rfl ?_
  refine o_cases (want := true) (j := 3) rfl rfl (fun h1 => ?_) (fun h1 => ?_)
  · have k1 := h1; try simp only [decide_eq_true_eq, decide_eq_false_iff_not, Bool.not_eq_true', Bool.not_eq_false', Bool.not_true, Bool.not_false, List.length_map, Decidable.not_not] at k1
    refine o_yes rfl rfl rfl h1 ?_
    refine o_q (q_mv (v_raw rfl)) rfl rfl rfl ?_
    refine o_yes rfl rfl rfl h1 ?_
    refine o_q (q_lens rfl und9 rfl) rfl rfl rfl ?_
    refine o_yes rfl rfl rfl h1 ?_
    refine o_q (q_leq rfl rfl) rfl rfl rfl ?_
    refine o_q (q_pick_c (t := true) rfl h1 (v_raw rfl)) rfl rfl rfl ?_
    refine o_q (q_as (v_raw rfl)) rfl rfl rfl ?_
    refine o_nil ?_
    refine s_ret ?_
    refine s_end ?_
    exact ⟨congrArg bool (by have := ba_ne k1; unfold okN; simp [this]), rfl⟩
  · have k1 := h1; try simp only [decide_eq_true_eq, decide_eq_false_iff_not, Bool.not_eq_true', Bool.not_eq_false', Bool.not_true, Bool.not_false, List.length_map, Decidable.not_not] at k1
    refine o_no rfl rfl rfl rfl h1 ?_
    refine o_no rfl rfl rfl rfl h1 ?_
    refine o_no rfl rfl rfl rfl h1 ?_
    refine o_q (q_pick_c (t := false) rfl h1 (v_raw rfl)) rfl rfl rfl ?_
    refine o_q (q_as (v_raw rfl)) rfl rfl rfl ?_
    refine o_nil ?_
    refine s_ret ?_
    refine s_end ?_
    exact ⟨congrArg bool (by have := ba_nil k1; unfold okN; simp [this]), rfl⟩

def tk20 : Nat → Nat → Option Nat := fun _ _ => none
def pl20 : Nat → List PStep := fun _ => []
theorem cb20 : Try.f20.body.map (codeB Try.prog Try.f20.ntmps tk20 pl20) = some true := by kernel_rfl
theorem goes20 : goesB Try.prog 20 = true := by kernel_rfl
set_option maxHeartbeats 4000000 in
set_option maxRecDepth 20000 in
theorem snd20 (room : Int) (M : Mem) : SoundCall Try.prog 20 [int room] M fun r M' => ((room < 0 ∨ 1000000000 < room) ∧ r = .raw (.pointer none) ∧ M' = M) ∨ (0 ≤ room ∧ room ≤ 1000000000 ∧ ∃ x, M x = none ∧ r = ptr x ∧ M' = M.upd x (.cells [int room, .raw (.slice none 0 0), .raw (.slice none 0 0), .raw (.slice none 0 0), .raw (.slice none 0 0), int (-1), bool false])) := by
  refine SoundCall.go tk20 pl20 mixed Try.func20 cb20 rfl (Nat.le_of_ble_eq_true rfl) ?_
  refine s_seq ?_
  refine s_region ?_
  refine o_q (q_as ((by first | exact v_raw rfl | exact v_sptr rfl))) rfl rfl rfl ?_
  refine o_nil ?_
  refine s_seq ?_
  refine s_seq ?_
  refine s_region ?_
  refine o_q (q_mv (v_raw rfl)) rfl rfl rfl ?_
  refine o_q (q_lss rfl rfl) rfl rfl rfl ?_
  refine o_q (q_mv (v_raw rfl)) rfl rfl rfl ?_
  refine o_cases (want := false) (j := 2) rfl rfl (fun h1 => ?_) (fun h1 => ?_)
  · have k1 := h1; try simp only [decide_eq_true_eq, decide_eq_false_iff_not, Bool.not_eq_true', Bool.not_eq_false', Bool.not_true, Bool.not_false, List.length_map, Decidable.not_not] at k1
    refine o_yes rfl rfl rfl h1 ?_
    refine o_q (q_mv (v_raw rfl)) rfl rfl rfl ?_
    refine o_yes rfl rfl rfl h1 ?_
    refine o_q (q_gtr rfl rfl) rfl rfl rfl ?_
    refine o_q (q_pick_c (t := false) rfl h1 (v_raw rfl)) rfl rfl rfl ?_
    refine o_nil ?_
    refine s_cond rfl (fun h2 => ?_) (fun h2 => ?_)
    · have k2 := h2; try simp only [decide_eq_true_eq, decide_eq_false_iff_not, Bool.not_eq_true', Bool.not_eq_false', Bool.not_true, Bool.not_false, List.length_map, Decidable.not_not] at k2
      refine s_seq ?_
      refine s_region ?_
      refine o_q (q_as ((by first | exact v_raw rfl | exact v_sptr rfl))) rfl rfl rfl ?_
      refine o_nil ?_
      refine s_ret ?_
      refine s_code_ret ?_
      refine s_end ?_
      first | exact .inl ⟨by omega, rfl, rfl⟩ | exact .inr ⟨by omega, by omega, B1, hB1, rfl, rfl⟩
    · have k2 := h2; try simp only [decide_eq_true_eq, decide_eq_false_iff_not, Bool.not_eq_true', Bool.not_eq_false', Bool.not_true, Bool.not_false, List.length_map, Decidable.not_not] at k2
      refine s_skip ?_
      refine s_seq ?_
      refine s_region ?_
      refine o_q (q_mv (v_raw rfl)) rfl rfl rfl ?_
      refine o_q (q_b (cs := [_, .raw (.slice none 0 0), .raw (.slice none 0 0), .raw (.slice none 0 0), .raw (.slice none 0 0), _, .raw (.bool false)]) bz87 bp87 (bf fo87_0 (e_raw rfl) rfl rfl (Nat.le_of_ble_eq_true rfl) rfl (bf fo87_5 (e_raw rfl) rfl rfl (Nat.le_of_ble_eq_true rfl) rfl bf_nil))) rfl rfl rfl ?_
      refine o_box (by first | exact e_raw rfl | exact e_agg rfl | exact e_sl rfl) rfl rfl (fun B1 hB1 => ?_)
      skip
      refine o_q (q_as ((by first | exact v_raw rfl | exact v_sptr rfl))) rfl rfl rfl ?_
      refine o_nil ?_
      refine s_ret ?_
      refine s_end ?_
      first | exact .inl ⟨by omega, rfl, rfl⟩ | exact .inr ⟨by omega, by omega, B1, hB1, rfl, rfl⟩
  · have k1 := h1; try simp only [decide_eq_true_eq, decide_eq_false_iff_not, Bool.not_eq_true', Bool.not_eq_false', Bool.not_true, Bool.not_false, List.length_map, Decidable.not_not] at k1
    refine o_no rfl rfl rfl rfl h1 ?_
    refine o_no rfl rfl rfl rfl h1 ?_
    refine o_q (q_pick_c (t := true) rfl h1 (v_raw rfl)) rfl rfl rfl ?_
    refine o_nil ?_
    refine s_then rfl rfl ?_
    refine s_seq ?_
    refine s_region ?_
    refine o_q (q_as ((by first | exact v_raw rfl | exact v_sptr rfl))) rfl rfl rfl ?_
    refine o_nil ?_
    refine s_ret ?_
    refine s_code_ret ?_
    refine s_end ?_
    first | exact .inl ⟨by omega, rfl, rfl⟩ | exact .inr ⟨by omega, by omega, B1, hB1, rfl, rfl⟩

theorem goes53 : goesB Try.prog 53 = true := by kernel_rfl
theorem leU2 {M M' : Mem} {B : Nat} {o o1 o2 : AObj} (h : M.le M') (hB : M' B = none) : M.le (((M'.upd B o1).upd B o2).upd B o) := fun c x hx => by
  have e : c ≠ B := fun e => by rw [e] at hx; rw [h B x hx] at hB; cases hB
  exact ((upd_other e).trans ((upd_other e).trans (upd_other e))).trans (h c x hx)
theorem leU1 {M M' : Mem} {B : Nat} {o o1 : AObj} (h : M.le M') (hB : M' B = none) : M.le ((M'.upd B o1).upd B o) := fun c x hx => by
  have e : c ≠ B := fun e => by rw [e] at hx; rw [h B x hx] at hB; cases hB
  exact ((upd_other e).trans (upd_other e)).trans (h c x hx)
end C04
