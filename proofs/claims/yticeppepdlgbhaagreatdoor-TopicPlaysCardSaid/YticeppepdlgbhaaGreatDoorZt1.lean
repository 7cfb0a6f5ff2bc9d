import Derived.Test.YticeppepdlgbhaaGreatDoorZt0
/-! Chapter 15: a topic as bytes: what the functions compute. -/
open Go Go.Proofs Go.Am
set_option linter.unusedVariables false
set_option linter.unusedSimpArgs false
set_option autoImplicit false
namespace C17
theorem slt181 : SlT Tryz.prog 181 5 1 1 := ⟨by kernel_rfl, by kernel_rfl, by kernel_rfl, by kernel_rfl, by decide⟩
theorem und62 : Tryz.prog.underlying 62 = some (.slice 9) := by kernel_rfl
def tk106 : Nat → Nat → Option Nat := fun _ _ => none
def pl106 : Nat → List PStep := fun _ => []
theorem cb106 : Tryz.f106.body.map (codeB Tryz.prog Tryz.f106.ntmps tk106 pl106) = some true := by kernel_rfl
theorem goes106 : goesB Tryz.prog 106 = true := by kernel_rfl
set_option maxHeartbeats 4000000 in
set_option maxRecDepth 20000 in
theorem snd106 (M0 M : Mem) (v : Value) (l : List UInt8) (hB : Bs M v l) (hle : M0.le M) (hfr : Own1 M0 M v) (n size : Nat) (hn : n < 2 ^ 64) (hs : size ≤ 8) (hl : l.length ≤ 2 ^ 40) : SoundCall Tryz.prog 106 [.raw v, u64 n, int (size : Nat)] M fun r' M' => ∃ v', r' = .raw v' ∧ Bs M' v' (l ++ lowB n size) ∧ M0.le M' ∧ Own1 M0 M' v' := by
 have hlo := lowB_len n size
 obtain ⟨base, c, hv⟩ := hB.len
 subst hv
 refine SoundCall.go tk106 pl106 mixed Tryz.func106 cb106 rfl (Nat.le_of_ble_eq_true rfl) ?_
 refine s_seq ?_
 refine s_region ?_
 refine o_q (q_as ((by first | exact v_raw rfl | exact v_sl rfl))) rfl rfl rfl ?_
 refine o_nil ?_
 refine s_seq ?_
 refine s_seq ?_
 refine s_region ?_
 refine o_q (q_mv (v_raw rfl)) rfl rfl rfl ?_
 refine o_q (q_sub rfl rfl (wrap64 (by omega) (by omega))) rfl rfl rfl ?_
 refine o_q (q_mul rfl rfl (wrap64 (by omega) (by omega))) rfl rfl rfl ?_
 refine o_q (q_as (v_raw rfl)) rfl rfl rfl ?_
 refine o_nil ?_
 refine s_block ?_
 refine s_loop (fun m S => ∃ T, ∃ M' : Mem, ∃ v : Value, ∃ l' : List UInt8, ∃ i : Nat, S = ⟨setT (setT (setT (setT T 0 (.raw v)) 1 (u64 n)) 2 (int (size : Nat))) 7 (int (8 * ((i : Nat) : Int) - 8)), M'⟩ ∧ Bs M' v l' ∧ M0.le M' ∧ Own1 M0 M' v ∧ l' ++ lowB n i = l ++ lowB n size ∧ i ≤ size ∧ m = i + 0) size ?_ ?_
 ·exact ⟨_, _, _, l, size, St.mkT (kp (kp (kp (kp rfl rfl) rfl) rfl) (congrArg int (by omega))).symm, hB, hle, hfr, rfl, Nat.le_refl _, rfl⟩
 rintro m S ⟨T, M', v, l', i, rfl, hB', hle', hfr', hll, hi, hmi⟩
 have hln := congrArg List.length hll
 rw [List.length_append, List.length_append, lowB_len, lowB_len] at hln
 obtain ⟨base', c', hv'⟩ := hB'.len
 subst hv'
 refine s_seq ?_
 refine s_seq ?_
 refine s_region ?_
 refine o_q (q_mv (v_raw rfl)) rfl rfl rfl ?_
 refine o_q (q_geq rfl rfl) rfl rfl rfl ?_
 refine o_nil ?_
 refine s_cond rfl (fun h1 => ?_) (fun h1 => ?_)
 ·have k1 := h1; try simp only [decide_eq_true_eq, decide_eq_false_iff_not, Bool.not_eq_true', Bool.not_eq_false', Bool.not_true, Bool.not_false, List.length_map, Decidable.not_not] at k1
  obtain ⟨j, rfl⟩ : ∃ j, i = j + 1 := ⟨i - 1, by omega⟩
  have hlj := lowB_len n (j + 1)
  refine s_skip ?_
  refine s_seq ?_
  refine s_block ?_
  refine s_region ?_
  refine o_q (q_mv (v_raw rfl)) rfl rfl rfl ?_
  refine o_q (q_mv (v_raw rfl)) rfl rfl rfl ?_
  refine o_q (q_mv (v_raw rfl)) rfl rfl rfl ?_
  refine o_q (q_shru (n := 8 * j) rfl (show int (8 * ((j + 1 : Nat) : Int) - 8) = int ((8 * j : Nat) : Int) from congrArg int (by omega)) (by omega)) rfl rfl rfl ?_
  refine o_q (q_i2iw und100 und5 rfl (u8_wrapm _)) rfl rfl rfl ?_
  refine o_q (q_bs slt181 (pc (v_raw rfl) pn) rfl (Els.cons rfl rfl Els.nil) (by decide)) rfl rfl rfl ?_
  refine o_appb (l := l') (m := [UInt8.ofNat (n / 256 ^ j % 256)]) (M0 := M0) slt181 rfl zc5 rfl hB' hle' hfr' (srcb_sl slt181 rfl rfl (show AVal.sl [AVal.raw (.int .u8 ((n / 2 ^ (8 * j) % 256 : Nat) : Int))] _ = _ by rw [shl8, ← ofNat_toNat]; rfl)) (by simp; omega) (fun v2 M2 hB2 hle2 hfr2 => ?_)
  refine o_q (q_as (v_raw rfl)) rfl rfl rfl ?_
  refine o_nil ?_
  refine s_blk_normal ?_
  refine s_region ?_
  refine o_q (q_mv (v_raw rfl)) rfl rfl rfl ?_
  refine o_q (q_sub rfl rfl (wrap64 (by omega) (by omega))) rfl rfl rfl ?_
  refine o_q (q_as (v_raw rfl)) rfl rfl rfl ?_
  refine o_nil ?_
  refine s_inv ?_
  exact ⟨j, (by omega), _, _, v2, _, j, St.mkT (kp (kp (kp (kp rfl rfl) rfl) rfl) (congrArg int (by omega))).symm, hB2, hle2, hfr2, (lowB_one n j l').trans hll, by omega, rfl⟩
 ·have k1 := h1; try simp only [decide_eq_true_eq, decide_eq_false_iff_not, Bool.not_eq_true', Bool.not_eq_false', Bool.not_true, Bool.not_false, List.length_map, Decidable.not_not] at k1
  obtain rfl : i = 0 := by omega
  refine s_exit ?_
  refine s_code_exit ?_
  refine s_inv_exit ?_
  refine s_blk_here ?_
  refine s_seq ?_
  refine s_region ?_
  refine o_q (q_mv (v_raw rfl)) rfl rfl rfl ?_
  refine o_q (q_as (v_raw rfl)) rfl rfl rfl ?_
  refine o_nil ?_
  refine s_ret ?_
  refine s_end ?_
  exact ⟨_, rfl, (by rw [← hll]; show Bs M' _ (l' ++ []); rw [List.append_nil]; exact hB'), hle', hfr'⟩

def tk58 : Nat → Nat → Option Nat := fun _ _ => none
def pl58 : Nat → List PStep
 | 14 => [.q 0, .q 1, .q 2, .q 3, .q 4, .q 6, .q 7, .s 5 [0, 1, 2, 3, 4, 6, 7], .s 8 [0, 1, 2, 3, 4, 6, 7], .q 9]
 | _ => []
theorem cb58 : Tryz.f58.body.map (codeB Tryz.prog Tryz.f58.ntmps tk58 pl58) = some true := by kernel_rfl
theorem goes58 : goesB Tryz.prog 58 = true := by kernel_rfl
set_option maxHeartbeats 4000000 in
set_option maxRecDepth 20000 in
theorem snd58 (l : List Itm) (o : Bool) (ge : TypeId) (gf : Nat × Nat) (M : Mem) (hG : M 0 = some (szO ge gf)) (hl : l.length ≤ 1000) (h : ∀ x ∈ l, okI x) : SoundCall Tryz.prog 58 [.sl (l.map encIt) o] M fun r M' => r = .tup [str (encAll l), int 0] ∧ M.le M' := by
 have hlw : (l.map encIt).length = l.length := List.length_map _
 refine SoundCall.go tk58 pl58 mixed Tryz.func58 cb58 rfl (Nat.le_of_ble_eq_true rfl) ?_
 refine s_seq ?_
 refine s_region ?_
 refine o_q (q_as (v_raw rfl)) rfl rfl rfl ?_
 refine o_q (q_as (v_raw rfl)) rfl rfl rfl ?_
 refine o_nil ?_
 refine s_seq ?_
 refine s_seq ?_
 refine s_region ?_
 refine o_q (q_mv (v_sl rfl)) rfl rfl rfl ?_
 refine o_q (q_len rfl und105 rfl) rfl rfl rfl ?_
 refine o_q (q_gtr rfl rfl) rfl rfl rfl ?_
 refine o_nil ?_
 refine s_else rfl (decide_eq_false (by omega)) ?_
 refine s_skip ?_
 refine s_seq ?_
 refine s_region ?_
 refine o_asnil ?_
 refine o_nil ?_
 refine s_seq ?_
 refine s_seq ?_
 refine s_region ?_
 refine o_q (q_mv (v_sl rfl)) rfl rfl rfl ?_
 refine o_q (q_len rfl und105 rfl) rfl rfl rfl ?_
 refine o_q (q_mv (v_raw rfl)) rfl rfl rfl ?_
 refine o_nil ?_
 refine s_block ?_
 refine s_loop (fun m S => ∃ T, ∃ M' : Mem, ∃ v : Value, ∃ i : Nat, S = ⟨setT (setT (setT (setT T 4 (.raw v)) 11 (.sl (l.map encIt) false)) 12 (int (l.length : Nat))) 13 (int (i : Nat)), M'⟩ ∧ M.le M' ∧ Bs M' v (encAll (l.take i)).data.toList ∧ Own1 M M' v ∧ i ≤ l.length ∧ m = l.length - i) l.length ?_ ?_
 ·exact ⟨_, _, .slice none 0 0, 0, St.mkT (kp (kp (kp (kp rfl rfl) rfl) (congrArg (fun n : Nat => int (n : Int)) hlw)) rfl).symm, Mem.le_refl M, .inl ⟨none, rfl, .inl rfl, rfl⟩, (fun b ⟨n, c, e, _, _⟩ => by cases e), Nat.zero_le _, rfl⟩
 rintro m S ⟨T, M', v, i, rfl, hle', hB', hfr', hi, rfl⟩
 obtain ⟨base', c', hv'⟩ := hB'.len
 subst hv'
 refine s_seq ?_
 refine s_region ?_
 refine o_q (q_lss rfl rfl) rfl rfl rfl ?_
 refine o_nil ?_
 refine s_seq ?_
 refine s_cond rfl (fun h1 => ?_) (fun h1 => ?_)
 ·have k1 := h1; try simp only [decide_eq_true_eq, decide_eq_false_iff_not, Bool.not_eq_true', Bool.not_eq_false', Bool.not_true, Bool.not_false, List.length_map, Decidable.not_not] at k1
  have hi2 : i < l.length := by omega
  have ho := h l[i] (List.getElem_mem hi2)
  have hk := okI_kind ho
  have hsz := encAll_size l h i hi
  have hsz2 : (encAll (l.take i)).data.toList.length = (encAll (l.take i)).size := rfl
  refine s_skip ?_
  refine s_seq ?_
  refine s_block ?_
  refine s_seq ?_
  refine s_region ?_
  refine o_q (q_idx und105 sz102 rfl rfl (by omega) (gm i (by first | omega | simp)) rfl) rfl rfl rfl ?_
  refine o_q (q_lde ag102 sz102 rfl (gm i (by first | omega | simp)) rfl rfl) rfl rfl rfl ?_
  refine o_alloc zc102 (fun B1 hB1 => ?_)
  have hu := put_up (B := B1) (o := .cells [int l[i].kind, u64 l[i].n, str l[i].s]) (o1 := .cells [int 0, u64 0, str emp]) hB' hle' hfr' hB1
  refine o_storew rfl mmQ mfQ rfl sz102 rfl rfl rfl rfl ?_
  refine o_nil ?_
  refine s_seq ?_
  refine s_seq ?_
  refine s_region ?_
  refine o_q (q_fr fo102_0 rfl) rfl rfl rfl ?_
  refine o_q (q_ldm ag3 sz3 rfl mmQ rfl (v_raw rfl)) rfl rfl rfl ?_
  refine o_q (q_lss rfl rfl) rfl rfl rfl ?_
  refine o_q (q_mv (v_raw rfl)) rfl rfl rfl ?_
  refine o_g (G := true) rfl rfl rfl rfl rfl (fun hG hc => (q_fr fo102_0 rfl)) ?_
  refine o_g (G := true) rfl rfl rfl rfl rfl (fun hG hc => (q_ldm ag3 sz3 (gv_on (gv_and hG hc) rfl) mmQ rfl (v_raw rfl))) ?_
  refine o_g (G := true) rfl rfl rfl rfl rfl (fun hG hc => (q_gtr (gv_on (gv_and hG hc) rfl) rfl)) ?_
  refine o_q (q_por (c := _) (b := _) rfl rfl rfl) rfl rfl rfl ?_
  refine o_nil ?_
  refine s_cond rfl (fun h2 => ?_) (fun h2 => ?_)
  ·have k2 := h2; try simp only [decide_eq_true_eq, decide_eq_false_iff_not, Bool.not_eq_true', Bool.not_eq_false', Bool.not_true, Bool.not_false, List.length_map, Decidable.not_not] at k2
   exfalso
   simp at h2
   omega
  ·have k2 := h2; try simp only [decide_eq_true_eq, decide_eq_false_iff_not, Bool.not_eq_true', Bool.not_eq_false', Bool.not_true, Bool.not_false, List.length_map, Decidable.not_not] at k2
   refine s_skip ?_
   refine s_seq ?_
   refine s_seq ?_
   refine s_region ?_
   refine o_q (q_fr fo102_0 rfl) rfl rfl rfl ?_
   refine o_q (q_ldm ag3 sz3 rfl mmQ rfl (v_raw rfl)) rfl rfl rfl ?_
   refine o_q (q_eql rfl rfl) rfl rfl rfl ?_
   refine o_nil ?_
   refine s_cond rfl (fun h3 => ?_) (fun h3 => ?_)
   ·have k3 := h3; try simp only [decide_eq_true_eq, decide_eq_false_iff_not, Bool.not_eq_true', Bool.not_eq_false', Bool.not_true, Bool.not_false, List.length_map, Decidable.not_not] at k3
    have ht := okI_text ho (by simpa using h3)
    have hk4 : l[i].kind = 4 := by simpa using h3
    refine s_seq ?_
    refine s_seq ?_
    refine s_region ?_
    refine o_q (q_fr fo102_1 rfl) rfl rfl rfl ?_
    refine o_q (q_ldm ag100 sz100 rfl mmQ rfl (v_raw rfl)) rfl rfl rfl ?_
    refine o_q (q_neq rfl rfl) rfl rfl rfl ?_
    refine o_nil ?_
    refine s_cond rfl (fun h4 => ?_) (fun h4 => ?_)
    ·have k4 := h4; try simp only [decide_eq_true_eq, decide_eq_false_iff_not, Bool.not_eq_true', Bool.not_eq_false', Bool.not_true, Bool.not_false, List.length_map, Decidable.not_not] at k4
     exfalso
     simp [ht.1] at h4
    ·have k4 := h4; try simp only [decide_eq_true_eq, decide_eq_false_iff_not, Bool.not_eq_true', Bool.not_eq_false', Bool.not_true, Bool.not_false, List.length_map, Decidable.not_not] at k4
     refine s_skip ?_
     refine s_seq ?_
     refine s_seq ?_
     refine s_region ?_
     refine o_q (q_fr fo102_2 rfl) rfl rfl rfl ?_
     refine o_q (q_ldm ag9 sz9 rfl mmQ rfl (v_raw rfl)) rfl rfl rfl ?_
     refine o_q (q_lens rfl und9 rfl) rfl rfl rfl ?_
     refine o_q (q_gtr rfl rfl) rfl rfl rfl ?_
     refine o_nil ?_
     refine s_cond rfl (fun h5 => ?_) (fun h5 => ?_)
     ·have k5 := h5; try simp only [decide_eq_true_eq, decide_eq_false_iff_not, Bool.not_eq_true', Bool.not_eq_false', Bool.not_true, Bool.not_false, List.length_map, Decidable.not_not] at k5
      exfalso
      simp at h5
      omega
     ·have k5 := h5; try simp only [decide_eq_true_eq, decide_eq_false_iff_not, Bool.not_eq_true', Bool.not_eq_false', Bool.not_true, Bool.not_false, List.length_map, Decidable.not_not] at k5
      refine s_skip ?_
      refine s_seq ?_
      refine s_draw rfl ?_
      refine d_q rfl (q_mv (v_raw rfl)) rfl rfl rfl ?_
      refine d_q rfl (q_fr fo102_2 rfl) rfl rfl rfl ?_
      refine d_q rfl (q_ldm ag9 sz9 rfl mmQ rfl (v_raw rfl)) rfl rfl rfl ?_
      refine d_q rfl (q_lens rfl und9 rfl) rfl rfl rfl ?_
      refine d_q rfl (q_i2i und3 und100 rfl (u64_wrap (by omega) (by omega))) rfl rfl rfl ?_
      refine d_q rfl (q_fr fo102_2 rfl) rfl rfl rfl ?_
      refine d_q rfl (q_ldm ag9 sz9 rfl mmQ rfl (v_raw rfl)) rfl rfl rfl ?_
      refine d_s rfl ?_
      refine o_callx ((snd106 (M.upd B1 (.cells [int l[i].kind, u64 l[i].n, str l[i].s])) _ _ _ hu.1 hu.2.1 hu.2.2 l[i].s.size 4 (by omega) (by omega) (by omega))) goes106 (ac (v_raw rfl) (ac (v_raw rfl) (ac (v_raw rfl) ac_nil))) rfl ?_
      rintro r M3 ⟨v3, rfl, hB3, hle3, hfr3⟩
      have hd := put_down (Mem.none_of_le hle' hB1) hle3 hfr3
      have hb1 := hd.2.2
      have hln3 := hB3.len
      refine o_nil ⟨(by simp [Mem.upd, *]; try rfl), ?_⟩
      refine d_s rfl ?_
      refine o_appb (l := (encAll (l.take i)).data.toList ++ lowB l[i].s.size 4) (m := l[i].s.data.toList) (M0 := M.upd B1 (.cells [int l[i].kind, u64 l[i].n, str l[i].s])) slt181 rfl zc5 rfl hB3 hle3 hfr3 (srcb_str slt181 rfl rfl und9 rfl) (by rw [List.length_append, lowB_len]; show _ + l[i].s.size ≤ _; omega) (fun v4 M4 hB4 hle4 hfr4 => ?_)
      have hd4 := put_down (Mem.none_of_le hle' hB1) hle4 hfr4
      have hb4 := hd4.2.2
      refine o_nil ⟨(by simp [Mem.upd, *]; try rfl), ?_⟩
      refine d_q rfl (q_as (v_raw rfl)) rfl rfl rfl ?_
      refine d_nil ?_
      refine s_exit ?_
      refine s_code_exit ?_
      refine s_blk_here ?_
      refine s_region ?_
      refine o_q (q_add rfl rfl (wrap64 (by omega) (by omega))) rfl rfl rfl ?_
      refine o_q (q_mv (v_raw rfl)) rfl rfl rfl ?_
      refine o_nil ?_
      refine s_inv ?_
      exact ⟨l.length - (i + 1), by omega, _, _, v4, i + 1, St.mkT (kp (kp (kp (kp rfl rfl) rfl) rfl) rfl).symm, hd4.1, (by rw [enc_succ hi2, bytI_tx hk4, ← List.append_assoc]; exact hB4), hd4.2.1, by omega, rfl⟩
   ·have k3 := h3; try simp only [decide_eq_true_eq, decide_eq_false_iff_not, Bool.not_eq_true', Bool.not_eq_false', Bool.not_true, Bool.not_false, List.length_map, Decidable.not_not] at k3
    have hk4 : l[i].kind ≠ 4 := by simpa using h3
    have hnm := okI_num ho hk4
    refine s_skip ?_
    refine s_seq ?_
    refine s_region ?_
    refine o_q (q_fr fo102_0 rfl) rfl rfl rfl ?_
    refine o_q (q_ldm ag3 sz3 rfl mmQ rfl (v_raw rfl)) rfl rfl rfl ?_
    refine o_q (q_idxa und183 sz3 rfl rfl (by omega) (by omega)) rfl rfl rfl ?_
    refine o_q (q_ldg ag3 sz3 rfl (by repeat first | exact hle' 0 _ hG | refine Mem.upd_ne (Mem.ne_none (hle' 0 _ hG) hB1) ?_) (gpiece (k := l[i].kind) (by omega) (by omega) (by omega)) (v_raw rfl)) rfl rfl rfl ?_
    refine o_q (q_as (v_raw rfl)) rfl rfl rfl ?_
    refine o_nil ?_
    refine s_seq ?_
    refine s_seq ?_
    refine s_region ?_
    refine o_q (q_fr fo102_2 rfl) rfl rfl rfl ?_
    refine o_q (q_ldm ag9 sz9 rfl mmQ rfl (v_raw rfl)) rfl rfl rfl ?_
    refine o_q (q_sneq rfl rfl) rfl rfl rfl ?_
    refine o_q (q_mv (v_raw rfl)) rfl rfl rfl ?_
    refine o_g (G := true) rfl rfl rfl rfl rfl (fun hG hc => (q_mv (v_raw rfl))) ?_
    refine o_g (G := true) rfl rfl rfl rfl rfl (fun hG hc => (q_lss (gv_on (gv_and hG hc) rfl) rfl)) ?_
    refine o_g (G := true) rfl rfl rfl rfl rfl (fun hG hc => (q_mv (v_raw (gv_on (gv_and hG hc) rfl)))) ?_
    refine o_g rfl rfl rfl rfl rfl (fun hG hc => (q_fr fo102_1 rfl)) ?_
    refine o_g rfl rfl rfl rfl rfl (fun hG hc => (q_ldm ag100 sz100 (gv_on (gv_and hG hc) rfl) mmQ rfl (v_raw rfl))) ?_
    refine o_g rfl rfl rfl rfl rfl (fun hG hc => (q_mv (v_raw rfl))) ?_
    refine o_g rfl rfl rfl rfl rfl (fun hG hc => (q_mul rfl (gv_on (gv_and hG hc) rfl) (wrap64 (by omega) (by omega)))) ?_
    refine o_g rfl rfl rfl rfl rfl (fun hG hc => (q_shru (n := 8 * szK l[i].kind) (gv_on (gv_and hG hc) rfl) (gv_on (gv_and hG hc) rfl) (by omega))) ?_
    refine o_g rfl rfl rfl rfl rfl (fun hG hc => (q_gtr (gv_on (gv_and hG hc) rfl) rfl)) ?_
    refine o_g (G := true) rfl rfl rfl rfl rfl (fun hG hc => (q_pand (c := _) (b := _) (gv_and hG hc) rfl rfl)) ?_
    refine o_q (q_por (c := _) (b := _) rfl rfl rfl) rfl rfl rfl ?_
    refine o_nil ?_
    refine s_cond rfl (fun h6 => ?_) (fun h6 => ?_)
    ·have k6 := h6; try simp only [decide_eq_true_eq, decide_eq_false_iff_not, Bool.not_eq_true', Bool.not_eq_false', Bool.not_true, Bool.not_false, List.length_map, Decidable.not_not] at k6
     exfalso
     simp [hnm.1, hnm.2.1] at h6
     exact h6 rfl
    ·have k6 := h6; try simp only [decide_eq_true_eq, decide_eq_false_iff_not, Bool.not_eq_true', Bool.not_eq_false', Bool.not_true, Bool.not_false, List.length_map, Decidable.not_not] at k6
     refine s_skip ?_
     refine s_region ?_
     refine o_q (q_mv (v_raw rfl)) rfl rfl rfl ?_
     refine o_q (q_fr fo102_1 rfl) rfl rfl rfl ?_
     refine o_q (q_ldm ag100 sz100 rfl mmQ rfl (v_raw rfl)) rfl rfl rfl ?_
     refine o_q (q_mv (v_raw rfl)) rfl rfl rfl ?_
     refine o_callx ((snd106 (M.upd B1 (.cells [int l[i].kind, u64 l[i].n, str l[i].s])) _ _ _ hu.1 hu.2.1 hu.2.2 l[i].n (szK l[i].kind) hnm.2.2.1 hnm.2.2.2 (by omega))) goes106 (ac (v_raw rfl) (ac (v_raw rfl) (ac (v_raw rfl) ac_nil))) rfl ?_
     rintro r M3 ⟨v3, rfl, hB3, hle3, hfr3⟩
     have hd := put_down (Mem.none_of_le hle' hB1) hle3 hfr3
     have hb1 := hd.2.2
     have hln3 := hB3.len
     refine o_q (q_as ((by first | exact v_raw rfl | exact v_sl rfl))) rfl rfl rfl ?_
     refine o_nil ?_
     refine s_blk_normal ?_
     refine s_region ?_
     refine o_q (q_add rfl rfl (wrap64 (by omega) (by omega))) rfl rfl rfl ?_
     refine o_q (q_mv (v_raw rfl)) rfl rfl rfl ?_
     refine o_nil ?_
     refine s_inv ?_
     exact ⟨l.length - (i + 1), by omega, _, _, v3, i + 1, St.mkT (kp (kp (kp (kp rfl rfl) rfl) rfl) rfl).symm, hd.1, (by rw [enc_succ hi2, bytI_nm hk4]; exact hB3), hd.2.1, by omega, rfl⟩
 ·have k1 := h1; try simp only [decide_eq_true_eq, decide_eq_false_iff_not, Bool.not_eq_true', Bool.not_eq_false', Bool.not_true, Bool.not_false, List.length_map, Decidable.not_not] at k1
  obtain rfl : i = l.length := by omega
  refine s_exit ?_
  refine s_code_exit ?_
  refine s_inv_exit ?_
  refine s_blk_here ?_
  refine s_seq ?_
  refine s_region ?_
  refine o_q (q_mv (v_raw rfl)) rfl rfl rfl ?_
  refine o_b2sB und181 und9 und5 b2s181_9 rfl hB' rfl ?_
  refine o_q (q_as (v_raw rfl)) rfl rfl rfl ?_
  refine o_q (q_as (v_raw rfl)) rfl rfl rfl ?_
  refine o_nil ?_
  refine s_ret ?_
  refine s_end ?_
  exact ret_many (.inl rfl) rfl (rl_t rfl (rl_t rfl rl_nil)) rfl ⟨by show AVal.tup [str ⟨(encAll (l.take l.length)).data.toList.toArray⟩, _] = _; rw [List.take_length]; rfl, hle'⟩

def tk54 : Nat → Nat → Option Nat := fun _ _ => none
def pl54 : Nat → List PStep := fun _ => []
theorem cb54 : Tryz.f54.body.map (codeB Tryz.prog Tryz.f54.ntmps tk54 pl54) = some true := by kernel_rfl
theorem goes54 : goesB Tryz.prog 54 = true := by kernel_rfl
set_option maxHeartbeats 4000000 in
set_option maxRecDepth 20000 in
theorem snd54 (s : ByteArray) (M : Mem) : SoundCall Tryz.prog 54 [str s] M fun r M' => r = encIt ⟨4, 0, s⟩ ∧ M.le M' := by
 refine SoundCall.go tk54 pl54 mixed Tryz.func54 cb54 rfl (Nat.le_of_ble_eq_true rfl) ?_
 refine s_seq ?_
 refine s_region ?_
 refine o_alloc zc102 (fun B1 hB1 => ?_)
 have m1 : M B1 = none := by have h := hB1; repeat (first | exact h | exact Mem.none_of_le hle h | replace h := (Mem.upd_none h).2)
 refine o_nil ?_
 refine s_seq ?_
 refine s_region ?_
 refine o_q (q_mv (v_raw rfl)) rfl rfl rfl ?_
 refine o_q (q_b (cs := [_, .raw (.int .u64 0), _]) bz102 bp102 (bf fo102_0 (e_raw rfl) rfl rfl (Nat.le_of_ble_eq_true rfl) rfl (bf fo102_2 (e_raw rfl) rfl rfl (Nat.le_of_ble_eq_true rfl) rfl bf_nil))) rfl rfl rfl ?_
 refine o_storew rfl mmQ mfQ rfl sz102 rfl rfl rfl rfl ?_
 refine o_nil ?_
 refine s_ret ?_
 refine s_end ?_
 exact ret_one (.inl rfl) rfl (rl_c rfl mmQ (loadP_w ag102 sz102 rfl rfl) rfl rl_nil) ⟨rfl, (by repeat first | exact hle | exact Mem.le_refl M | assumption | exact Mem.none_of_le hle (by assumption) | refine Mem.le_upd ?_ ?_)⟩

def tk55 : Nat → Nat → Option Nat := fun _ _ => none
def pl55 : Nat → List PStep := fun _ => []
theorem cb55 : Tryz.f55.body.map (codeB Tryz.prog Tryz.f55.ntmps tk55 pl55) = some true := by kernel_rfl
theorem goes55 : goesB Tryz.prog 55 = true := by kernel_rfl
set_option maxHeartbeats 4000000 in
set_option maxRecDepth 20000 in
theorem snd55 (n : Int) (h0 : 0 ≤ n) (h1 : n < 2 ^ 63) (M : Mem) : SoundCall Tryz.prog 55 [int n] M fun r M' => r = encIt ⟨3, n.toNat, emp⟩ ∧ M.le M' := by
 refine SoundCall.go tk55 pl55 mixed Tryz.func55 cb55 rfl (Nat.le_of_ble_eq_true rfl) ?_
 refine s_seq ?_
 refine s_region ?_
 refine o_alloc zc102 (fun B1 hB1 => ?_)
 have m1 : M B1 = none := by have h := hB1; repeat (first | exact h | exact Mem.none_of_le hle h | replace h := (Mem.upd_none h).2)
 refine o_nil ?_
 refine s_seq ?_
 refine s_region ?_
 refine o_q (q_mv (v_raw rfl)) rfl rfl rfl ?_
 refine o_q (q_i2i und3 und100 rfl (u64_wrap (by omega) (by omega))) rfl rfl rfl ?_
 refine o_q (q_b (cs := [_, _, .raw (.string { data := #[] })]) bz102 bp102 (bf fo102_0 (e_raw rfl) rfl rfl (Nat.le_of_ble_eq_true rfl) rfl (bf fo102_1 (e_raw rfl) rfl rfl (Nat.le_of_ble_eq_true rfl) rfl bf_nil))) rfl rfl rfl ?_
 refine o_storew rfl mmQ mfQ rfl sz102 rfl rfl rfl rfl ?_
 refine o_nil ?_
 refine s_ret ?_
 refine s_end ?_
 have e : ((n.toNat : Nat) : Int) = n := Int.toNat_of_nonneg h0
 exact ret_one (.inl rfl) rfl (rl_c rfl mmQ (loadP_w ag102 sz102 rfl rfl) rfl rl_nil) ⟨by show _ = AVal.agg [int 3, .raw (.int .u64 ((n.toNat : Nat) : Int)), str emp]; rw [e]; rfl, (by repeat first | exact hle | exact Mem.le_refl M | assumption | exact Mem.none_of_le hle (by assumption) | refine Mem.le_upd ?_ ?_)⟩

def tk57 : Nat → Nat → Option Nat := fun _ _ => none
def pl57 : Nat → List PStep := fun _ => []
theorem cb57 : Tryz.f57.body.map (codeB Tryz.prog Tryz.f57.ntmps tk57 pl57) = some true := by kernel_rfl
theorem goes57 : goesB Tryz.prog 57 = true := by kernel_rfl
set_option maxHeartbeats 4000000 in
set_option maxRecDepth 20000 in
theorem snd57 (M : Mem) (r : Nat) : SoundCall Tryz.prog 57 [mapV r] M fun q M' => ∃ b, M b = none ∧ q = .raw (.func (.func 105) #[] #[.pointer (some ⟨b, 0, none⟩)]) ∧ M' = M.upd b (.cells [mapV r]) := by
 refine SoundCall.go tk57 pl57 mixed Tryz.func57 cb57 rfl (Nat.le_of_ble_eq_true rfl) ?_
 refine s_seq ?_
 refine s_region ?_
 refine o_box (by first | exact e_raw rfl | exact e_agg rfl | exact e_sl rfl) rfl rfl (fun B1 hB1 => ?_)
 skip
 refine o_q (q_as (v_raw rfl)) rfl rfl rfl ?_
 refine o_nil ?_
 refine s_seq ?_
 refine s_region ?_
 refine o_q (q_mkf1 rfl) rfl rfl rfl ?_
 refine o_q (q_as (v_raw rfl)) rfl rfl rfl ?_
 refine o_nil ?_
 refine s_ret ?_
 refine s_end ?_
 exact ⟨B1, hB1, rfl, rfl⟩

def tk21 : Nat → Nat → Option Nat
 | 1, 22 => some 0
 | 6, 0 => some 0
 | 6, 14 => some 0
 | 11, 0 => some 0
 | 11, 18 => some 0
 | _, _ => none
def pl21 : Nat → List PStep
 | 1 => [.q 0, .q 1, .q 2, .q 3, .q 5, .q 6, .q 7, .q 8, .q 10, .q 11, .q 12, .q 13, .q 15, .q 16, .q 17, .q 18, .s 4 [18, 17, 16, 15, 13, 12, 11, 10, 8, 7, 6, 5, 2, 1, 0], .s 9 [18, 17, 16, 15, 13, 12, 11, 10, 7, 6, 5, 3, 2, 1, 0], .s 14 [18, 17, 16, 15, 12, 11, 10, 8, 7, 6, 5, 3, 2, 1, 0], .q 19, .s 20 [18, 17, 16, 15, 13, 12, 11, 10, 8, 7, 6, 5, 3, 2, 1, 0], .q 21, .q 22]
 | 6 => [.q 0, .q 1, .q 2, .q 4, .q 5, .q 6, .q 8, .q 9, .q 10, .s 3 [10, 9, 8, 6, 5, 4, 1, 0], .s 7 [10, 9, 8, 5, 4, 2, 1, 0], .s 11 [9, 8, 6, 5, 4, 2, 1, 0], .q 12, .q 13, .q 14]
 | 11 => [.q 0, .q 1, .q 2, .q 4, .q 5, .q 7, .q 8, .q 10, .q 11, .q 13, .q 14, .s 3 [14, 13, 11, 10, 8, 7, 5, 4, 1, 0], .s 6 [14, 13, 11, 10, 8, 7, 4, 2, 1, 0], .s 9 [14, 13, 11, 10, 7, 5, 4, 2, 1, 0], .s 12 [14, 13, 10, 8, 7, 5, 4, 2, 1, 0], .s 15 [13, 11, 10, 8, 7, 5, 4, 2, 1, 0], .q 16, .q 17, .q 18]
 | _ => []
theorem cb21 : Tryz.f21.body.map (codeB Tryz.prog Tryz.f21.ntmps tk21 pl21) = some true := by kernel_rfl
theorem goes21 : goesB Tryz.prog 21 = true := by kernel_rfl
theorem goes56 : goesB Tryz.prog 56 = true := by kernel_rfl
set_option maxHeartbeats 4000000 in
set_option maxRecDepth 20000 in
theorem snd21 (t mm : Nat) (x : Tp) (ge : TypeId) (gf : Nat × Nat) (M : Mem) (ht : M t = some (.cells (tpC mm x))) (hm : M mm = some (tpK x)) (htm : t ≠ mm) (hG : M 0 = some (szO ge gf)) (hok : DumpOk x) : SoundCall Tryz.prog 21 [ptr t] M fun r M' => r = str (encAll (dumpL x)) ∧ M.le M' := by
 have hnl := namesL_len x
 have hln := hok.len
 have hll : ((namesL x).map str).length = (namesL x).length := List.length_map _
 have hrl : (x.recs.map enc).length = x.recs.length := List.length_map _
 have hkl : (ents Value.string encL x.kvs).length = x.kvs.length := by simp [ents]
 refine SoundCall.go tk21 pl21 mixed Tryz.func21 cb21 rfl (Nat.le_of_ble_eq_true rfl) ?_
 refine s_seq ?_
 refine s_region ?_
 refine o_q (q_as (v_raw rfl)) rfl rfl rfl ?_
 refine o_nil ?_
 refine s_seq ?_
 refine s_draw rfl ?_
 refine d_q rfl (q_mv (mvQ)) rfl rfl rfl ?_
 refine d_q rfl (q_nil rfl) rfl rfl rfl ?_
 refine d_q rfl (q_fr fo87_0 rfl) rfl rfl rfl ?_
 refine d_q rfl (q_ldm ag9 sz9 rfl mmQ rfl (v_raw rfl)) rfl rfl rfl ?_
 refine d_q rfl (q_mv (mvQ)) rfl rfl rfl ?_
 refine d_q rfl (q_nil rfl) rfl rfl rfl ?_
 refine d_q rfl (q_fr fo87_1 rfl) rfl rfl rfl ?_
 refine d_q rfl (q_ldm ag3 sz3 rfl mmQ rfl (v_raw rfl)) rfl rfl rfl ?_
 refine d_q rfl (q_mv (mvQ)) rfl rfl rfl ?_
 refine d_q rfl (q_nil rfl) rfl rfl rfl ?_
 refine d_q rfl (q_fr fo87_2 rfl) rfl rfl rfl ?_
 refine d_q rfl (q_ldm ag3 sz3 rfl mmQ rfl (v_raw rfl)) rfl rfl rfl ?_
 refine d_q rfl (q_mv (mvQ)) rfl rfl rfl ?_
 refine d_q rfl (q_nil rfl) rfl rfl rfl ?_
 refine d_q rfl (q_fr fo87_3 rfl) rfl rfl rfl ?_
 refine d_q rfl (q_ldm ag85 sz85 rfl mmQ rfl (v_raw rfl)) rfl rfl rfl ?_
 refine d_s rfl ?_
 refine o_call (((snd54 x.name _).det)) goes54 (ac (v_raw rfl) ac_nil) rfl ?_
 refine o_nil ⟨(by simp [Mem.upd, *]; try rfl), ?_⟩
 refine d_s rfl ?_
 refine o_call (((snd55 x.low hok.low.1 hok.low.2 _).det)) goes55 (ac (v_raw rfl) ac_nil) rfl ?_
 refine o_nil ⟨(by simp [Mem.upd, *]; try rfl), ?_⟩
 refine d_s rfl ?_
 refine o_call (((snd55 x.en hok.en.1 hok.en.2 _).det)) goes55 (ac (v_raw rfl) ac_nil) rfl ?_
 refine o_nil ⟨(by simp [Mem.upd, *]; try rfl), ?_⟩
 refine d_q rfl (q_lenm rfl und85 rfl mmQ) rfl rfl rfl ?_
 refine d_s rfl ?_
 refine o_call (((snd55 (((ents Value.string encL x.kvs).length : Nat) : Int) (Int.natCast_nonneg _) (by omega) _).det)) goes55 (ac (v_raw rfl) ac_nil) rfl ?_
 refine o_nil ⟨(by simp [Mem.upd, *]; try rfl), ?_⟩
 refine d_q rfl (q_bs slt105 (pc (v_agg rfl) (pc (v_agg rfl) (pc (v_agg rfl) (pc (v_agg rfl) pn)))) rfl (Els.cons rfl rfl (Els.cons rfl rfl (Els.cons rfl rfl (Els.cons rfl rfl Els.nil)))) (by decide)) rfl rfl rfl ?_
 refine d_qs rfl (q_as_own rfl) rfl rfl rfl rfl ?_
 refine d_nil ?_
 refine s_seq ?_
 refine s_seq ?_
 refine s_region ?_
 refine o_q (q_mv (mvQ)) rfl rfl rfl ?_
 refine o_q (q_nil rfl) rfl rfl rfl ?_
 refine o_q (q_fr fo87_3 rfl) rfl rfl rfl ?_
 refine o_q (q_ldm ag85 sz85 rfl mmQ rfl (v_raw rfl)) rfl rfl rfl ?_
 refine o_callx ((snd57 _ mm)) goes57 (ac (v_raw rfl) ac_nil) rfl ?_
 rintro q M1 ⟨B0, hB0, rfl, rfl⟩
 have f0m : B0 ≠ mm := fun e => by rw [e, hm] at hB0; cases hB0
 have f0t : B0 ≠ t := fun e => by rw [e, ht] at hB0; cases hB0
 have hle0 : M.le (M.upd B0 (.cells [mapV mm])) := Mem.le_upd (Mem.le_refl M) hB0
 refine o_call ((C17k.sorted37 encL B0 mm x.kvs _ (Mem.upd_self _ _ _) ((upd_other f0m.symm).trans hm) (by omega) (fun p hp => by have := (hok.kv p hp).1; show _ ≤ 2 ^ 63 - 1; omega) hok.nd)) goes56 (ac (v_raw rfl) ac_nil) rfl ?_
 refine o_q (q_len rfl und62 rfl) rfl rfl rfl ?_
 refine o_q (q_mv (v_raw rfl)) rfl rfl rfl ?_
 refine o_nil ?_
 refine s_block ?_
 refine s_loop (fun m S => ∃ T, ∃ M' : Mem, ∃ acc : List Itm, ∃ i : Nat, S = ⟨setT (setT (setT (setT (setT T 0 (ptr t)) 3 (.sl (acc.map encIt) true)) 38 (.sl ((namesL x).map str) false)) 39 (int (((namesL x).map str).length : Nat))) 40 (int (i : Nat)), M'⟩ ∧ M.le M' ∧ acc = headL x ++ ((namesL x).take i).flatMap (fun k => prodL (kvOf x k)) ∧ acc.length = 4 + 3 * i ∧ i ≤ (namesL x).length ∧ m = (namesL x).length - i) (namesL x).length ?_ ?_
 ·exact ⟨_, _, headL x, 0, St.mkT (kp (kp (kp (kp (kp rfl rfl) (congrArg (fun n : Nat => AVal.sl [encIt (tI x.name), encIt (lI x.low), encIt (lI x.en), encIt (lI (n : Int))] true) hkl)) rfl) rfl) rfl).symm, hle0, by simp, rfl, Nat.zero_le _, rfl⟩
 rintro m S ⟨T, M', acc, i, rfl, hle', hacc, hal, hi, rfl⟩
 have ht' := hle' t _ ht
 have hm' := hle' mm _ hm
 refine s_seq ?_
 refine s_region ?_
 refine o_q (q_lss rfl rfl) rfl rfl rfl ?_
 refine o_nil ?_
 refine s_seq ?_
 refine s_cond rfl (fun h1 => ?_) (fun h1 => ?_)
 ·have k1 := h1; try simp only [decide_eq_true_eq, decide_eq_false_iff_not, Bool.not_eq_true', Bool.not_eq_false', Bool.not_true, Bool.not_false, List.length_map, Decidable.not_not] at k1
  have hi2 : i < (namesL x).length := by omega
  obtain ⟨-, hv2, hv3, hv4⟩ := hok.kv _ (kvOf_mem (List.getElem_mem hi2))
  refine s_skip ?_
  refine s_seq ?_
  refine s_block ?_
  refine s_seq ?_
  refine s_region ?_
  refine o_q (q_idx und62 sz9 rfl rfl (by omega) (gm i (by first | omega | simp)) rfl) rfl rfl rfl ?_
  refine o_q (q_ld ag9 sz9 rfl (gm i (by first | omega | simp)) rfl (v_raw rfl)) rfl rfl rfl ?_
  refine o_q (q_as (v_raw rfl)) rfl rfl rfl ?_
  refine o_nil ?_
  refine s_seq ?_
  refine s_region ?_
  refine o_q (q_mv (mvQ)) rfl rfl rfl ?_
  refine o_q (q_nil rfl) rfl rfl rfl ?_
  refine o_q (q_fr fo87_3 rfl) rfl rfl rfl ?_
  refine o_q (q_ldm ag85 sz85 rfl mmQ rfl (v_raw rfl)) rfl rfl rfl ?_
  refine o_q (q_mv (v_raw rfl)) rfl rfl rfl ?_
  refine o_q (q_mget und85 kt9 z92 rfl rfl mmQ (mg_kv2 x (namesL x)[i])) rfl rfl rfl ?_
  refine o_alloc zc92 (fun B1 hB1 => ?_)
  have g1t : B1 ≠ t := fun e => by rw [e, ht'] at hB1; cases hB1
  have g1m : B1 ≠ mm := fun e => by rw [e, hm'] at hB1; cases hB1
  refine o_storew rfl mmQ mfQ rfl sz92 rfl rfl rfl rfl ?_
  refine o_nil ?_
  refine s_draw rfl ?_
  refine d_qs rfl (q_mv_own rfl) rfl rfl rfl rfl ?_
  refine d_q rfl (q_fr fo92_1 rfl) rfl rfl rfl ?_
  refine d_q rfl (q_ldm ag9 sz9 rfl mmQ rfl (v_raw rfl)) rfl rfl rfl ?_
  refine d_q rfl (q_fr fo92_0 rfl) rfl rfl rfl ?_
  refine d_q rfl (q_fr fo90_0 rfl) rfl rfl rfl ?_
  refine d_q rfl (q_ldm ag3 sz3 rfl mmQ rfl (v_raw rfl)) rfl rfl rfl ?_
  refine d_q rfl (q_fr fo92_0 rfl) rfl rfl rfl ?_
  refine d_q rfl (q_fr fo90_1 rfl) rfl rfl rfl ?_
  refine d_q rfl (q_ldm ag3 sz3 rfl mmQ rfl (v_raw rfl)) rfl rfl rfl ?_
  refine d_s rfl ?_
  refine o_call (((snd54 (kvOf x (namesL x)[i]).2.2 _).det)) goes54 (ac (v_raw rfl) ac_nil) rfl ?_
  refine o_nil ⟨(by simp [Mem.upd, *]; try rfl), ?_⟩
  refine d_s rfl ?_
  refine o_call (((snd55 (kvOf x (namesL x)[i]).1 hv3.1 hv3.2 _).det)) goes55 (ac (v_raw rfl) ac_nil) rfl ?_
  refine o_nil ⟨(by simp [Mem.upd, *]; try rfl), ?_⟩
  refine d_s rfl ?_
  refine o_call (((snd55 (kvOf x (namesL x)[i]).2.1 hv4.1 hv4.2 _).det)) goes55 (ac (v_raw rfl) ac_nil) rfl ?_
  refine o_nil ⟨(by simp [Mem.upd, *]; try rfl), ?_⟩
  refine d_q rfl (q_bs slt105 (pc (v_agg rfl) (pc (v_agg rfl) (pc (v_agg rfl) pn))) rfl (Els.cons rfl rfl (Els.cons rfl rfl (Els.cons rfl rfl Els.nil))) (by decide)) rfl rfl rfl ?_
  refine d_qs rfl (q_app slt105 rfl rfl rfl rfl elsIt (by repeat first | exact Els.nil | refine Els.cons rfl rfl ?_) (by simp; omega)) rfl rfl rfl rfl ?_
  refine d_qs rfl (q_as_own rfl) rfl rfl rfl rfl ?_
  refine d_nil ?_
  refine s_blk_normal ?_
  refine s_region ?_
  refine o_q (q_add rfl rfl (wrap64 (by omega) (by omega))) rfl rfl rfl ?_
  refine o_q (q_mv (v_raw rfl)) rfl rfl rfl ?_
  refine o_nil ?_
  refine s_inv ?_
  exact ⟨(namesL x).length - (i + 1), by omega, _, _, acc ++ prodL (kvOf x (namesL x)[i]), i + 1, St.mkT (kp (kp (kp (kp (kp rfl rfl) (congrArg (fun l => AVal.sl l true) (List.map_append (f := encIt) (l₁ := acc) (l₂ := prodL (kvOf x (namesL x)[i]))).symm)) rfl) rfl) rfl).symm, leU2 hle' hB1, (by rw [hacc, List.append_assoc, flat_take hi2]), (by rw [List.length_append, hal]; show _ + 3 = _; omega), by omega, rfl⟩
 ·have k1 := h1; try simp only [decide_eq_true_eq, decide_eq_false_iff_not, Bool.not_eq_true', Bool.not_eq_false', Bool.not_true, Bool.not_false, List.length_map, Decidable.not_not] at k1
  obtain rfl : i = (namesL x).length := by omega
  refine s_exit ?_
  refine s_code_exit ?_
  refine s_inv_exit ?_
  refine s_blk_here ?_
  refine s_seq ?_
  refine s_seq ?_
  refine s_region ?_
  refine o_q (q_mv (mvQ)) rfl rfl rfl ?_
  refine o_q (q_nil rfl) rfl rfl rfl ?_
  refine o_q (q_fr fo87_4 rfl) rfl rfl rfl ?_
  refine o_q (q_ldm ag35 sz35 rfl mmQ rfl (v_sl rfl)) rfl rfl rfl ?_
  refine o_q (q_len rfl und35 rfl) rfl rfl rfl ?_
  refine o_q (q_mv (v_raw rfl)) rfl rfl rfl ?_
  refine o_nil ?_
  refine s_block ?_
  refine s_loop (fun m S => ∃ T, ∃ M' : Mem, ∃ acc : List Itm, ∃ i : Nat, S = ⟨setT (setT (setT (setT T 3 (.sl (acc.map encIt) true)) 68 (.sl (x.recs.map enc) false)) 69 (int ((x.recs.map enc).length : Nat))) 70 (int (i : Nat)), M'⟩ ∧ M.le M' ∧ acc = headL x ++ (namesL x).flatMap (fun k => prodL (kvOf x k)) ++ (x.recs.take i).flatMap recL ∧ acc.length = 4 + 3 * (namesL x).length + 5 * i ∧ i ≤ x.recs.length ∧ m = x.recs.length - i) x.recs.length ?_ ?_
  ·exact ⟨_, _, acc, 0, St.mkT (kp (kp (kp (kp rfl rfl) rfl) rfl) rfl).symm, hle', (by rw [hacc, List.take_length]; simp), (by rw [hal]; rfl), Nat.zero_le _, rfl⟩
  rintro m S ⟨T, M', acc, i, rfl, hle', hacc, hal, hi, rfl⟩
  refine s_seq ?_
  refine s_region ?_
  refine o_q (q_lss rfl rfl) rfl rfl rfl ?_
  refine o_nil ?_
  refine s_seq ?_
  refine s_cond rfl (fun h2 => ?_) (fun h2 => ?_)
  ·have k2 := h2; try simp only [decide_eq_true_eq, decide_eq_false_iff_not, Bool.not_eq_true', Bool.not_eq_false', Bool.not_true, Bool.not_false, List.length_map, Decidable.not_not] at k2
   have hi2 : i < x.recs.length := by omega
   obtain ⟨hr1, hr2, hr3, hr4, hr5⟩ := hok.rc _ (List.getElem_mem hi2)
   refine s_skip ?_
   refine s_seq ?_
   refine s_block ?_
   refine s_seq ?_
   refine s_region ?_
   refine o_q (q_idx und35 sz39 rfl rfl (by omega) (gm i (by first | omega | simp)) rfl) rfl rfl rfl ?_
   refine o_q (q_lde ag39 sz39 rfl (gm i (by first | omega | simp)) rfl rfl) rfl rfl rfl ?_
   refine o_alloc zc39 (fun B2 hB2 => ?_)
   skip
   refine o_storew rfl mmQ mfQ rfl sz39 rfl rfl rfl rfl ?_
   refine o_nil ?_
   refine s_draw rfl ?_
   refine d_qs rfl (q_mv_own rfl) rfl rfl rfl rfl ?_
   refine d_q rfl (q_fr fo39_0 rfl) rfl rfl rfl ?_
   refine d_q rfl (q_ldm ag3 sz3 rfl mmQ rfl (v_raw rfl)) rfl rfl rfl ?_
   refine d_q rfl (q_fr fo39_1 rfl) rfl rfl rfl ?_
   refine d_q rfl (q_ldm ag9 sz9 rfl mmQ rfl (v_raw rfl)) rfl rfl rfl ?_
   refine d_q rfl (q_fr fo39_2 rfl) rfl rfl rfl ?_
   refine d_q rfl (q_ldm ag3 sz3 rfl mmQ rfl (v_raw rfl)) rfl rfl rfl ?_
   refine d_q rfl (q_fr fo39_3 rfl) rfl rfl rfl ?_
   refine d_q rfl (q_ldm ag9 sz9 rfl mmQ rfl (v_raw rfl)) rfl rfl rfl ?_
   refine d_q rfl (q_fr fo39_4 rfl) rfl rfl rfl ?_
   refine d_q rfl (q_ldm ag9 sz9 rfl mmQ rfl (v_raw rfl)) rfl rfl rfl ?_
   refine d_s rfl ?_
   refine o_call (((snd55 x.recs[i].off hr1.1 hr1.2 _).det)) goes55 (ac (v_raw rfl) ac_nil) rfl ?_
   refine o_nil ⟨(by simp [Mem.upd, *]; try rfl), ?_⟩
   refine d_s rfl ?_
   refine o_call (((snd54 x.recs[i].prod _).det)) goes54 (ac (v_raw rfl) ac_nil) rfl ?_
   refine o_nil ⟨(by simp [Mem.upd, *]; try rfl), ?_⟩
   refine d_s rfl ?_
   refine o_call (((snd55 x.recs[i].seq hr3.1 hr3.2 _).det)) goes55 (ac (v_raw rfl) ac_nil) rfl ?_
   refine o_nil ⟨(by simp [Mem.upd, *]; try rfl), ?_⟩
   refine d_s rfl ?_
   refine o_call (((snd54 x.recs[i].key _).det)) goes54 (ac (v_raw rfl) ac_nil) rfl ?_
   refine o_nil ⟨(by simp [Mem.upd, *]; try rfl), ?_⟩
   refine d_s rfl ?_
   refine o_call (((snd54 x.recs[i].val _).det)) goes54 (ac (v_raw rfl) ac_nil) rfl ?_
   refine o_nil ⟨(by simp [Mem.upd, *]; try rfl), ?_⟩
   refine d_q rfl (q_bs slt105 (pc (v_agg rfl) (pc (v_agg rfl) (pc (v_agg rfl) (pc (v_agg rfl) (pc (v_agg rfl) pn))))) rfl (Els.cons rfl rfl (Els.cons rfl rfl (Els.cons rfl rfl (Els.cons rfl rfl (Els.cons rfl rfl Els.nil))))) (by decide)) rfl rfl rfl ?_
   refine d_qs rfl (q_app slt105 rfl rfl rfl rfl elsIt (by repeat first | exact Els.nil | refine Els.cons rfl rfl ?_) (by simp; omega)) rfl rfl rfl rfl ?_
   refine d_qs rfl (q_as_own rfl) rfl rfl rfl rfl ?_
   refine d_nil ?_
   refine s_blk_normal ?_
   refine s_region ?_
   refine o_q (q_add rfl rfl (wrap64 (by omega) (by omega))) rfl rfl rfl ?_
   refine o_q (q_mv (v_raw rfl)) rfl rfl rfl ?_
   refine o_nil ?_
   refine s_inv ?_
   exact ⟨x.recs.length - (i + 1), by omega, _, _, acc ++ recL x.recs[i], i + 1, St.mkT (kp (kp (kp (kp rfl (congrArg (fun l => AVal.sl l true) (List.map_append (f := encIt) (l₁ := acc) (l₂ := recL x.recs[i])).symm)) rfl) rfl) rfl).symm, leU2 hle' hB2, (by rw [hacc, List.append_assoc, flat_take hi2]), (by rw [List.length_append, hal]; show _ + 5 = _; omega), by omega, rfl⟩
  ·have k2 := h2; try simp only [decide_eq_true_eq, decide_eq_false_iff_not, Bool.not_eq_true', Bool.not_eq_false', Bool.not_true, Bool.not_false, List.length_map, Decidable.not_not] at k2
   obtain rfl : i = x.recs.length := by omega
   refine s_exit ?_
   refine s_code_exit ?_
   refine s_inv_exit ?_
   refine s_blk_here ?_
   refine s_seq ?_
   refine s_region ?_
   refine o_q (q_mv (v_sl rfl)) rfl rfl rfl ?_
   refine o_call (((snd58 acc false ge gf _ (hle' 0 _ hG) (by omega) (by rw [hacc, List.take_length]; exact dumpL_ok hok)).det)) goes58 (ac (v_sl rfl) ac_nil) rfl ?_
   refine o_q (q_mv (v_tup rfl)) rfl rfl rfl ?_
   refine o_q (q_ext rfl rfl (v_raw rfl)) rfl rfl rfl ?_
   refine o_q (q_ext rfl rfl (v_raw rfl)) rfl rfl rfl ?_
   refine o_q (q_as (v_raw rfl)) rfl rfl rfl ?_
   refine o_q (q_as (v_raw rfl)) rfl rfl rfl ?_
   refine o_nil ?_
   refine s_seq ?_
   refine s_region ?_
   refine o_q (q_mv (v_raw rfl)) rfl rfl rfl ?_
   refine o_q (q_as (v_raw rfl)) rfl rfl rfl ?_
   refine o_nil ?_
   refine s_ret ?_
   refine s_end ?_
   exact ⟨by show str (encAll acc) = _; rw [hacc, List.take_length]; rfl, hle'⟩
end C17
