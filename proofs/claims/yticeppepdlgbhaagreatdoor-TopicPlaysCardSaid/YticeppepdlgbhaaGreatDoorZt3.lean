import Derived.Test.YticeppepdlgbhaaGreatDoorZt2
/-! Chapter 15: bytes that are a topic: what the functions compute. -/
open Go Go.Proofs Go.Am
set_option linter.unusedVariables false
set_option linter.unusedSimpArgs false
set_option autoImplicit false
namespace C17

def tk59 : Nat → Nat → Option Nat := fun _ _ => none
def pl59 : Nat → List PStep := fun _ => []
theorem cb59 : Tryz.f59.body.map (codeB Tryz.prog Tryz.f59.ntmps tk59 pl59) = some true := by kernel_rfl
theorem goes59 : goesB Tryz.prog 59 = true := by kernel_rfl
theorem goes107 : goesB Tryz.prog 107 = true := by kernel_rfl
set_option maxHeartbeats 4000000 in
set_option maxRecDepth 20000 in
theorem snd59 (s : ByteArray) (ge : TypeId) (gf : Nat × Nat) (M : Mem) (hG : M 0 = some (szO ge gf)) (hs : s.size < 2 ^ 62) (h4 : ∀ n, (decF (shN n) s).2 = 0 → 4 ≤ (decF (shN n) s).1.length) : SoundCall Tryz.prog 59 [str s] M fun r M' => ((∃ n, n ≤ 333 ∧ hit s n ∧ (∀ j, j < n → ¬ hit s j) ∧ ∃ o, r = .tup [.sl ((decF (shN n) s).1.map encIt) o, int (n : Nat), bool true]) ∨ ((∀ j, j ≤ 333 → ¬ hit s j) ∧ ∃ o, r = .tup [.sl [] o, int 0, bool false])) ∧ M.le M' := by
 refine SoundCall.go tk59 pl59 mixed Tryz.func59 cb59 rfl (Nat.le_of_ble_eq_true rfl) ?_
 refine s_seq ?_
 refine s_region ?_
 refine o_q (q_as (v_sl rfl)) rfl rfl rfl ?_
 refine o_q (q_as (v_raw rfl)) rfl rfl rfl ?_
 refine o_q (q_as (v_raw rfl)) rfl rfl rfl ?_
 refine o_nil ?_
 refine s_seq ?_
 refine s_seq ?_
 refine s_region ?_
 refine o_q (q_as (v_raw rfl)) rfl rfl rfl ?_
 refine o_nil ?_
 refine s_block ?_
 refine s_loop (fun m S => ∃ T, ∃ M' : Mem, ∃ i : Nat, S = ⟨setT (setT T 0 (str s)) 5 (int (i : Nat)), M'⟩ ∧ M.le M' ∧ (∀ j, j < i → ¬ hit s j) ∧ i ≤ 334 ∧ m = 334 - i) 334 ?_ ?_
 ·exact ⟨_, _, 0, St.mkT (kp (kp rfl rfl) rfl).symm, Mem.le_refl M, (fun j hj => absurd hj (Nat.not_lt_zero j)), by omega, rfl⟩
 rintro m S ⟨T, M', i, rfl, hle', hno, hi, rfl⟩
 refine s_seq ?_
 refine s_seq ?_
 refine s_region ?_
 refine o_q (q_mv (v_raw rfl)) rfl rfl rfl ?_
 refine o_q (q_leq rfl rfl) rfl rfl rfl ?_
 refine o_nil ?_
 refine s_cond rfl (fun h1 => ?_) (fun h1 => ?_)
 ·have k1 := h1; try simp only [decide_eq_true_eq, decide_eq_false_iff_not, Bool.not_eq_true', Bool.not_eq_false', Bool.not_true, Bool.not_false, List.length_map, Decidable.not_not] at k1
  have hsz := shN_size i
  have z1 : ({ data := #[116, 108, 108, 108] } : ByteArray).size = 4 := rfl
  have z2 : ({ data := (Go.Lib.repeatL sT3.data.toList i).toArray } : ByteArray).size = 3 * i := by
   show (Go.Lib.repeatL sT3.data.toList i).toArray.size = _
   rw [List.size_toArray, rep_len]; rfl
  have z3 : ({ data := #[42, 108, 116, 108, 116, 116] } : ByteArray).size = 6 := rfl
  have z4 : (({ data := #[116, 108, 108, 108] } : ByteArray) ++ ({ data := (Go.Lib.repeatL sT3.data.toList i).toArray } : ByteArray)).size = 4 + 3 * i := by rw [ByteArray.size_append, z1, z2]
  refine s_skip ?_
  refine s_seq ?_
  refine s_block ?_
  refine s_seq ?_
  refine s_region ?_
  refine o_q (q_mv (v_raw rfl)) rfl rfl rfl ?_
  refine o_call ((C17k.repeat46 sT3 i _ (by omega) (by decide))) goes107 (ac (v_raw rfl) (ac (v_raw rfl) ac_nil)) rfl ?_
  refine o_q (q_sadd rfl rfl (by omega)) rfl rfl rfl ?_
  refine o_q (q_sadd rfl rfl (by omega)) rfl rfl rfl ?_
  refine o_q (q_mv (v_raw rfl)) rfl rfl rfl ?_
  refine o_callx ((snd92 (shN i) s ge gf _ (hle' 0 _ hG) (by omega) hs)) goes92 (ac (v_raw rfl) (ac (v_raw rfl) ac_nil)) rfl ?_
  rintro r M2 ⟨⟨o, rfl⟩, hle2⟩
  refine o_q (q_mv (v_tup rfl)) rfl rfl rfl ?_
  refine o_q (q_ext rfl rfl (v_sl rfl)) rfl rfl rfl ?_
  refine o_q (q_ext rfl rfl (v_raw rfl)) rfl rfl rfl ?_
  refine o_q (q_as (v_sl rfl)) rfl rfl rfl ?_
  refine o_q (q_as (v_raw rfl)) rfl rfl rfl ?_
  refine o_nil ?_
  refine s_seq ?_
  refine s_region ?_
  refine o_q (q_mv (v_raw rfl)) rfl rfl rfl ?_
  refine o_q (q_eql rfl rfl) rfl rfl rfl ?_
  refine o_q (q_mv (v_raw rfl)) rfl rfl rfl ?_
  refine o_cases (want := true) (j := 2) rfl rfl (fun h2 => ?_) (fun h2 => ?_)
  ·have k2 := h2; try simp only [decide_eq_true_eq, decide_eq_false_iff_not, Bool.not_eq_true', Bool.not_eq_false', Bool.not_true, Bool.not_false, List.length_map, Decidable.not_not] at k2
   have he0 : (decF (shN i) s).2 = 0 := by simpa using h2
   have h44 : 3 < (decF (shN i) s).1.length := h4 i he0
   have hml : ((decF (shN i) s).1.map encIt).length = (decF (shN i) s).1.length := List.length_map _
   refine o_yes rfl rfl rfl h2 ?_
   refine o_q (q_mv (v_sl rfl)) rfl rfl rfl ?_
   refine o_yes rfl rfl rfl h2 ?_
   refine o_q (q_idx und105 sz102 rfl rfl (by omega) (gm 3 (by first | omega | simp)) rfl) rfl rfl rfl ?_
   refine o_yes rfl rfl rfl h2 ?_
   refine o_q (q_f fo102_1 rfl) rfl rfl rfl ?_
   refine o_yes rfl rfl rfl h2 ?_
   refine o_q (q_ld ag100 sz100 rfl (gm 3 (by first | omega | simp)) rfl (v_raw rfl)) rfl rfl rfl ?_
   refine o_yes rfl rfl rfl h2 ?_
   refine o_q (q_mv (v_raw rfl)) rfl rfl rfl ?_
   refine o_yes rfl rfl rfl h2 ?_
   refine o_q (q_i2i und3 und100 rfl (u64_wrap (by omega) (by omega))) rfl rfl rfl ?_
   refine o_yes rfl rfl rfl h2 ?_
   refine o_q (q_eql rfl rfl) rfl rfl rfl ?_
   refine o_q (q_pick_c (t := true) rfl h2 (v_raw rfl)) rfl rfl rfl ?_
   refine o_nil ?_
   refine s_cond rfl (fun h3 => ?_) (fun h3 => ?_)
   ·have k3 := h3; try simp only [decide_eq_true_eq, decide_eq_false_iff_not, Bool.not_eq_true', Bool.not_eq_false', Bool.not_true, Bool.not_false, List.length_map, Decidable.not_not] at k3
    have e3 : (decF (shN i) s).1[3].n = i := by
     have := of_decide_eq_true h3
     omega
    refine s_seq ?_
    refine s_region ?_
    refine o_q (q_mv (v_sl rfl)) rfl rfl rfl ?_
    refine o_q (q_mv (v_raw rfl)) rfl rfl rfl ?_
    refine o_q (q_as (v_sl rfl)) rfl rfl rfl ?_
    refine o_q (q_as (v_raw rfl)) rfl rfl rfl ?_
    refine o_q (q_as (v_raw rfl)) rfl rfl rfl ?_
    refine o_nil ?_
    refine s_ret ?_
    refine s_blk_ret ?_
    refine s_code_ret ?_
    refine s_inv_ret ?_
    refine s_blk_ret ?_
    refine s_code_ret ?_
    refine s_end ?_
    exact ret_many (.inl rfl) rfl (rl_t rfl (rl_t rfl (rl_t rfl rl_nil))) rfl ⟨.inl ⟨i, by omega, ⟨he0, by rw [List.getElem?_eq_getElem h44, Option.map_some, e3]⟩, hno, _, rfl⟩, fun b o h => hle2 b o (hle' b o h)⟩
   ·have k3 := h3; try simp only [decide_eq_true_eq, decide_eq_false_iff_not, Bool.not_eq_true', Bool.not_eq_false', Bool.not_true, Bool.not_false, List.length_map, Decidable.not_not] at k3
    have hnh : ¬ hit s i := fun hh => by
     have e2 := hh.2
     rw [List.getElem?_eq_getElem h44] at e2
     have e3 : (decF (shN i) s).1[3].n = i := by simpa using e2
     have := of_decide_eq_false h3
     omega
    refine s_skip ?_
    refine s_blk_normal ?_
    refine s_region ?_
    refine o_q (q_mv (v_raw rfl)) rfl rfl rfl ?_
    refine o_q (q_add rfl rfl (wrap64 (by omega) (by omega))) rfl rfl rfl ?_
    refine o_q (q_as (v_raw rfl)) rfl rfl rfl ?_
    refine o_nil ?_
    refine s_inv ?_
    exact ⟨334 - (i + 1), by omega, _, _, i + 1, St.mkT (kp (kp rfl rfl) rfl).symm, (fun b o h => hle2 b o (hle' b o h)), (fun j hj => by
     rcases Nat.lt_or_ge j i with h | h
     ·exact hno j h
     ·obtain rfl : j = i := by omega
      exact hnh), by omega, rfl⟩
  ·have k2 := h2; try simp only [decide_eq_true_eq, decide_eq_false_iff_not, Bool.not_eq_true', Bool.not_eq_false', Bool.not_true, Bool.not_false, List.length_map, Decidable.not_not] at k2
   have hnh : ¬ hit s i := fun hh => by simp [hh.1] at h2
   refine o_no rfl rfl rfl rfl h2 ?_
   refine o_no rfl rfl rfl rfl h2 ?_
   refine o_no rfl rfl rfl rfl h2 ?_
   refine o_no rfl rfl rfl rfl h2 ?_
   refine o_no rfl rfl rfl rfl h2 ?_
   refine o_no rfl rfl rfl rfl h2 ?_
   refine o_no rfl rfl rfl rfl h2 ?_
   refine o_q (q_pick_c (t := false) rfl h2 (v_raw rfl)) rfl rfl rfl ?_
   refine o_nil ?_
   refine s_else rfl rfl ?_
   refine s_skip ?_
   refine s_blk_normal ?_
   refine s_region ?_
   refine o_q (q_mv (v_raw rfl)) rfl rfl rfl ?_
   refine o_q (q_add rfl rfl (wrap64 (by omega) (by omega))) rfl rfl rfl ?_
   refine o_q (q_as (v_raw rfl)) rfl rfl rfl ?_
   refine o_nil ?_
   refine s_inv ?_
   exact ⟨334 - (i + 1), by omega, _, _, i + 1, St.mkT (kp (kp rfl rfl) rfl).symm, (fun b o h => hle2 b o (hle' b o h)), (fun j hj => by
    rcases Nat.lt_or_ge j i with h | h
    ·exact hno j h
    ·obtain rfl : j = i := by omega
     exact hnh), by omega, rfl⟩
 ·have k1 := h1; try simp only [decide_eq_true_eq, decide_eq_false_iff_not, Bool.not_eq_true', Bool.not_eq_false', Bool.not_true, Bool.not_false, List.length_map, Decidable.not_not] at k1
  refine s_exit ?_
  refine s_code_exit ?_
  refine s_inv_exit ?_
  refine s_blk_here ?_
  refine s_seq ?_
  refine s_region ?_
  refine o_q (q_as (v_sl rfl)) rfl rfl rfl ?_
  refine o_q (q_as (v_raw rfl)) rfl rfl rfl ?_
  refine o_q (q_as (v_raw rfl)) rfl rfl rfl ?_
  refine o_nil ?_
  refine s_ret ?_
  refine s_end ?_
  exact ret_many (.inl rfl) rfl (rl_t rfl (rl_t rfl (rl_t rfl rl_nil))) rfl ⟨.inr ⟨fun j hj => hno j (by omega), _, rfl⟩, hle'⟩
end C17
