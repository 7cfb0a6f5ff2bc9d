import Derived.Test.YticeppepdlgbhaaGreatDoorZy3
import Derived.Test.YticeppepdlgbhaaGreatDoorZy1
/-! The document's topic (chapter 15), walked. -/
open Go Go.Proofs Go.Am
set_option linter.unusedVariables false
set_option linter.unusedSimpArgs false
set_option autoImplicit false
namespace C17
theorem fo44_1 : fo Tryz.prog 44 1 = some (1, 1) := by kernel_rfl
def tk16 : Nat → Nat → Option Nat
 | 1, 0 => some 0
 | 6, 0 => some 0
 | 6, 10 => some 0
 | _, _ => none
def pl16 : Nat → List PStep := fun _ => []
theorem cb16 : Tryz.f16.body.map (codeB Tryz.prog Tryz.f16.ntmps tk16 pl16) = some true := by kernel_rfl
theorem goes16 : goesB Tryz.prog 16 = true := by kernel_rfl

theorem take_filter {l : List Rec} {i : Nat} (h : i < l.length) (off : Int) : (l.take (i + 1)).filter (fun r : Rec => decide (off ≤ r.off)) = (l.take i).filter (fun r : Rec => decide (off ≤ r.off)) ++ (if off ≤ l[i].off then [l[i]] else []) := by
 rw [List.take_succ_eq_append_getElem h, List.filter_append]
 congr 1
 rw [List.filter_cons, List.filter_nil]
 by_cases h1 : off ≤ l[i].off
 ·rw [if_pos (by simpa using h1), if_pos h1]
 ·rw [if_neg (by simpa using h1), if_neg h1]
theorem read_end {l : List Rec} {i : Nat} {off most : Int} (hi : i ≤ l.length) (hle : (((l.take i).filter fun r : Rec => decide (off ≤ r.off)).length : Int) ≤ max most 0) (h : i = l.length ∨ most ≤ (((l.take i).filter fun r : Rec => decide (off ≤ r.off)).length : Int)) : (l.take i).filter (fun r : Rec => decide (off ≤ r.off)) = readF l off most := by
 unfold readF
 rcases h with rfl | h
 ·rw [List.take_length] at hle ⊢
  rw [List.take_of_length_le (by omega)]
 ·have hf : l.filter (fun r : Rec => decide (off ≤ r.off)) = (l.take i).filter (fun r : Rec => decide (off ≤ r.off)) ++ (l.drop i).filter (fun r : Rec => decide (off ≤ r.off)) := by
   rw [← List.filter_append, List.take_append_drop]
  have g1 : (max most 0).toNat ≤ ((l.take i).filter fun r : Rec => decide (off ≤ r.off)).length := by omega
  have g2 : ((l.take i).filter fun r : Rec => decide (off ≤ r.off)).length ≤ (max most 0).toNat := by omega
  rw [hf, List.take_append_of_le_length g1, List.take_of_length_le g2]
set_option maxHeartbeats 4000000 in
set_option maxRecDepth 20000 in
theorem snd16 (y : Nat) (x : Tp) (P : List KV) (o1 o2 : Bool) (off most : Int) (M : Mem) (hR : x.recs.length < 2 ^ 40) (hy : M y = some (.cells (ryC x P o1 o2))) : SoundCall Tryz.prog 16 [ptr y, int off, int most] M fun r M' => r = .sl ((readF x.recs off most).map enc) false ∧ M' = M := by
 have hmr : (x.recs.map enc).length = x.recs.length := List.length_map _
 refine SoundCall.go tk16 pl16 mixed Tryz.func16 cb16 rfl (Nat.le_of_ble_eq_true rfl) ?_
 refine s_seq ?_
 refine s_region ?_
 refine o_q (q_as (v_sl rfl)) rfl rfl rfl ?_
 refine o_nil ?_
 refine s_seq ?_
 refine s_region ?_
 refine o_q (q_as_const rfl) rfl rfl rfl ?_
 refine o_nil ?_
 refine s_seq ?_
 refine s_seq ?_
 refine s_region ?_
 refine o_q (q_as (v_raw rfl)) rfl rfl rfl ?_
 refine o_nil ?_
 refine s_block ?_
 refine s_loop (fun m S => ∃ T, ∃ i : Nat, S = ⟨setT (setT (setT (setT (setT T 0 (ptr y)) 1 (int off)) 2 (int most)) 7 (.sl (((x.recs.take i).filter (fun r : Rec => decide (off ≤ r.off))).map enc) true)) 8 (int (i : Nat)), M⟩ ∧ i ≤ x.recs.length ∧ ((((x.recs.take i).filter (fun r : Rec => decide (off ≤ r.off))).length : Nat) : Int) ≤ max most 0 ∧ m = x.recs.length - i) x.recs.length ?_ ?_
 ·exact ⟨_, 0, St.mkT (kp (kp (kp (kp (kp rfl rfl) rfl) rfl) rfl) rfl).symm, by omega, (by show (0 : Int) ≤ _; omega), rfl⟩
 rintro m S ⟨T, i, rfl, hi, hle, rfl⟩
 have hmf : (((x.recs.take i).filter (fun r : Rec => decide (off ≤ r.off))).map enc).length = ((x.recs.take i).filter (fun r : Rec => decide (off ≤ r.off))).length := List.length_map _
 have hfl : ((x.recs.take i).filter (fun r : Rec => decide (off ≤ r.off))).length ≤ i := Nat.le_trans (List.length_filter_le _ _) (by rw [List.length_take]; omega)
 refine s_seq ?_
 refine s_seq ?_
 refine s_region ?_
 refine o_q (q_mv (v_raw rfl)) rfl rfl rfl ?_
 refine o_q (q_mv (mvQ)) rfl rfl rfl ?_
 refine o_q (q_nil rfl) rfl rfl rfl ?_
 refine o_q (q_fr fo44_4 rfl) rfl rfl rfl ?_
 refine o_q (q_ldm ag35 sz35 rfl mmQ rfl (v_sl rfl)) rfl rfl rfl ?_
 refine o_q (q_len rfl und35 rfl) rfl rfl rfl ?_
 refine o_q (q_lss rfl rfl) rfl rfl rfl ?_
 refine o_q (q_mv (v_raw rfl)) rfl rfl rfl ?_
 refine o_cases (want := true) (j := 7) rfl rfl (fun h1 => ?_) (fun h1 => ?_)
 ·have k1 := h1; try simp only [decide_eq_true_eq, decide_eq_false_iff_not, Bool.not_eq_true', Bool.not_eq_false', Bool.not_true, Bool.not_false, List.length_map, Decidable.not_not] at k1
  have hi2 : i < x.recs.length := by omega
  refine o_yes rfl rfl rfl h1 ?_
  refine o_q (q_mv (v_sl rfl)) rfl rfl rfl ?_
  refine o_yes rfl rfl rfl h1 ?_
  refine o_q (q_len rfl und35 rfl) rfl rfl rfl ?_
  refine o_yes rfl rfl rfl h1 ?_
  refine o_q (q_mv (v_raw rfl)) rfl rfl rfl ?_
  refine o_yes rfl rfl rfl h1 ?_
  refine o_q (q_lss rfl rfl) rfl rfl rfl ?_
  refine o_q (q_pick_c (t := true) rfl h1 (v_raw rfl)) rfl rfl rfl ?_
  refine o_nil ?_
  refine s_cond rfl (fun h2 => ?_) (fun h2 => ?_)
  ·have k2 := h2; try simp only [decide_eq_true_eq, decide_eq_false_iff_not, Bool.not_eq_true', Bool.not_eq_false', Bool.not_true, Bool.not_false, List.length_map, Decidable.not_not] at k2
   refine s_skip ?_
   refine s_seq ?_
   refine s_block ?_
   refine s_seq ?_
   refine s_region ?_
   refine o_q (q_mv (mvQ)) rfl rfl rfl ?_
   refine o_q (q_nil rfl) rfl rfl rfl ?_
   refine o_q (q_fr fo44_4 rfl) rfl rfl rfl ?_
   refine o_q (q_ldm ag35 sz35 rfl mmQ rfl (v_sl rfl)) rfl rfl rfl ?_
   refine o_q (q_mv (v_raw rfl)) rfl rfl rfl ?_
   refine o_q (q_idx und35 sz39 rfl rfl (by omega) (gm i (by first | omega | simp)) rfl) rfl rfl rfl ?_
   refine o_q (q_f fo39_0 rfl) rfl rfl rfl ?_
   refine o_q (q_ld ag3 sz3 rfl (gm i (by first | omega | simp)) rfl (v_raw rfl)) rfl rfl rfl ?_
   refine o_q (q_mv (v_raw rfl)) rfl rfl rfl ?_
   refine o_q (q_geq rfl rfl) rfl rfl rfl ?_
   refine o_nil ?_
   refine s_cond rfl (fun h3 => ?_) (fun h3 => ?_)
   ·have k3 := h3; try simp only [decide_eq_true_eq, decide_eq_false_iff_not, Bool.not_eq_true', Bool.not_eq_false', Bool.not_true, Bool.not_false, List.length_map, Decidable.not_not] at k3
    refine s_region ?_
    refine o_qs (q_mv_own rfl) rfl rfl rfl rfl ?_
    refine o_q (q_mv (mvQ)) rfl rfl rfl ?_
    refine o_q (q_nil rfl) rfl rfl rfl ?_
    refine o_q (q_fr fo44_4 rfl) rfl rfl rfl ?_
    refine o_q (q_ldm ag35 sz35 rfl mmQ rfl (v_sl rfl)) rfl rfl rfl ?_
    refine o_q (q_mv (v_raw rfl)) rfl rfl rfl ?_
    refine o_q (q_idx und35 sz39 rfl rfl (by omega) (gm i (by first | omega | simp)) rfl) rfl rfl rfl ?_
    refine o_q (q_lde ag39 sz39 rfl (gm i (by first | omega | simp)) rfl rfl) rfl rfl rfl ?_
    refine o_q (q_bs slt35 (pc (v_agg rfl) pn) rfl (Els.cons rfl rfl Els.nil) (by decide)) rfl rfl rfl ?_
    refine o_qs (q_app slt35 rfl rfl rfl rfl elsR (by first | exact elsR | exact Els.cons rfl rfl Els.nil) (by simp; omega)) rfl rfl rfl rfl ?_
    refine o_qs (q_as_own rfl) rfl rfl rfl rfl ?_
    refine o_nil ?_
    refine s_blk_normal ?_
    refine s_region ?_
    refine o_q (q_mv (v_raw rfl)) rfl rfl rfl ?_
    refine o_q (q_add rfl rfl (wrap64 (by omega) (by omega))) rfl rfl rfl ?_
    refine o_q (q_as (v_raw rfl)) rfl rfl rfl ?_
    refine o_nil ?_
    refine s_inv ?_
    have h9 : off ≤ x.recs[i].off := of_decide_eq_true h3
    have e9 : (x.recs.take (i + 1)).filter (fun r : Rec => decide (off ≤ r.off)) = ((x.recs.take i).filter (fun r : Rec => decide (off ≤ r.off))) ++ [x.recs[i]] := by rw [take_filter hi2 off, if_pos h9]
    exact ⟨x.recs.length - (i + 1), by omega, _, i + 1, St.mkT (kp (kp (kp (kp (kp rfl rfl) rfl) rfl) ((congrArg (fun l => AVal.sl l true) (List.map_append (f := enc)).symm).trans (congrArg (fun l : List Rec => AVal.sl (l.map enc) true) e9.symm))) rfl).symm, by omega, (by rw [e9, List.length_append, List.length_singleton]; push_cast; omega), rfl⟩
   ·have k3 := h3; try simp only [decide_eq_true_eq, decide_eq_false_iff_not, Bool.not_eq_true', Bool.not_eq_false', Bool.not_true, Bool.not_false, List.length_map, Decidable.not_not] at k3
    refine s_skip ?_
    refine s_blk_normal ?_
    refine s_region ?_
    refine o_q (q_mv (v_raw rfl)) rfl rfl rfl ?_
    refine o_q (q_add rfl rfl (wrap64 (by omega) (by omega))) rfl rfl rfl ?_
    refine o_q (q_as (v_raw rfl)) rfl rfl rfl ?_
    refine o_nil ?_
    refine s_inv ?_
    have h9 : ¬ off ≤ x.recs[i].off := of_decide_eq_false h3
    have e9 : (x.recs.take (i + 1)).filter (fun r : Rec => decide (off ≤ r.off)) = ((x.recs.take i).filter (fun r : Rec => decide (off ≤ r.off))) := by rw [take_filter hi2 off, if_neg h9, List.append_nil]
    exact ⟨x.recs.length - (i + 1), by omega, _, i + 1, St.mkT (kp (kp (kp (kp (kp rfl rfl) rfl) rfl) (congrArg (fun l : List Rec => AVal.sl (l.map enc) true) e9.symm)) rfl).symm, by omega, (by rw [e9]; exact hle), rfl⟩
  ·have k2 := h2; try simp only [decide_eq_true_eq, decide_eq_false_iff_not, Bool.not_eq_true', Bool.not_eq_false', Bool.not_true, Bool.not_false, List.length_map, Decidable.not_not] at k2
   refine s_exit ?_
   refine s_code_exit ?_
   refine s_inv_exit ?_
   refine s_blk_here ?_
   refine s_seq ?_
   refine s_region ?_
   refine o_q (q_mv (v_sl rfl)) rfl rfl rfl ?_
   refine o_q (q_as (v_sl rfl)) rfl rfl rfl ?_
   refine o_nil ?_
   refine s_ret ?_
   refine s_end ?_
   exact ⟨congrArg (fun l : List Rec => AVal.sl (l.map enc) false) (read_end hi hle (.inr (by omega))), rfl⟩
 ·have k1 := h1; try simp only [decide_eq_true_eq, decide_eq_false_iff_not, Bool.not_eq_true', Bool.not_eq_false', Bool.not_true, Bool.not_false, List.length_map, Decidable.not_not] at k1
  refine o_no rfl rfl rfl rfl h1 ?_
  refine o_no rfl rfl rfl rfl h1 ?_
  refine o_no rfl rfl rfl rfl h1 ?_
  refine o_no rfl rfl rfl rfl h1 ?_
  refine o_q (q_pick_c (t := false) rfl h1 (v_raw rfl)) rfl rfl rfl ?_
  refine o_nil ?_
  refine s_else rfl rfl ?_
  refine s_exit ?_
  refine s_code_exit ?_
  refine s_inv_exit ?_
  refine s_blk_here ?_
  refine s_seq ?_
  refine s_region ?_
  refine o_q (q_mv (v_sl rfl)) rfl rfl rfl ?_
  refine o_q (q_as (v_sl rfl)) rfl rfl rfl ?_
  refine o_nil ?_
  refine s_ret ?_
  refine s_end ?_
  exact ⟨congrArg (fun l : List Rec => AVal.sl (l.map enc) false) (read_end hi hle (.inl (by omega))), rfl⟩

def tk18 : Nat → Nat → Option Nat := fun _ _ => none
def pl18 : Nat → List PStep := fun _ => []
theorem cb18 : Tryz.f18.body.map (codeB Tryz.prog Tryz.f18.ntmps tk18 pl18) = some true := by kernel_rfl
theorem goes18 : goesB Tryz.prog 18 = true := by kernel_rfl

theorem readF_all {l : List Rec} (hs : Sorted l) (n : Int) : readF l n l.length = l.drop (atN l n) := by
 unfold readF
 rw [filter_drop hs, List.take_of_length_le]
 rw [List.length_drop]; omega
set_option maxHeartbeats 4000000 in
set_option maxRecDepth 20000 in
theorem snd18 (y : Nat) (x : Tp) (P : List KV) (o1 o2 : Bool) (n : Int) (z : Tp) (a : Int) (hp : trimT x n = (z, a)) (M : Mem) (hso : Sorted x.recs) (hR : x.recs.length < 2 ^ 40) (hy : M y = some (.cells (ryC x P o1 o2))) : SoundCall Tryz.prog 18 [ptr y, int n] M fun r M' => ∃ q1 q2, r = int a ∧ M' y = some (.cells (ryC z P q1 q2)) ∧ Kept M M' y := by
 have hle := Mem.le_refl M
 have hmr : (x.recs.map enc).length = x.recs.length := List.length_map _
 unfold trimT at hp
 refine SoundCall.go tk18 pl18 mixed Tryz.func18 cb18 rfl (Nat.le_of_ble_eq_true rfl) ?_
 refine s_seq ?_
 refine s_region ?_
 refine o_q (q_as (v_raw rfl)) rfl rfl rfl ?_
 refine o_nil ?_
 refine s_seq ?_
 refine s_seq ?_
 refine s_region ?_
 refine o_q (q_mv (v_raw rfl)) rfl rfl rfl ?_
 refine o_q (q_mv (mvQ)) rfl rfl rfl ?_
 refine o_q (q_nil rfl) rfl rfl rfl ?_
 refine o_q (q_fr fo44_2 rfl) rfl rfl rfl ?_
 refine o_q (q_ldm ag3 sz3 rfl mmQ rfl (v_raw rfl)) rfl rfl rfl ?_
 refine o_q (q_gtr rfl rfl) rfl rfl rfl ?_
 refine o_nil ?_
 refine s_cond rfl (fun h1 => ?_) (fun h1 => ?_)
 ·have k1 := h1; try simp only [decide_eq_true_eq, decide_eq_false_iff_not, Bool.not_eq_true', Bool.not_eq_false', Bool.not_true, Bool.not_false, List.length_map, Decidable.not_not] at k1
  refine s_seq ?_
  refine s_region ?_
  refine o_q (q_as (v_raw rfl)) rfl rfl rfl ?_
  refine o_nil ?_
  refine s_ret ?_
  refine s_code_ret ?_
  refine s_end ?_
  rw [if_pos (show x.en < n by omega)] at hp
  obtain ⟨rfl, rfl⟩ := Prod.mk.inj hp
  exact ⟨o1, o2, rfl, hy, fun c o _ hc => hc⟩
 ·have k1 := h1; try simp only [decide_eq_true_eq, decide_eq_false_iff_not, Bool.not_eq_true', Bool.not_eq_false', Bool.not_true, Bool.not_false, List.length_map, Decidable.not_not] at k1
  refine s_skip ?_
  refine s_seq ?_
  refine s_seq ?_
  refine s_region ?_
  refine o_q (q_mv (v_raw rfl)) rfl rfl rfl ?_
  refine o_q (q_mv (mvQ)) rfl rfl rfl ?_
  refine o_q (q_nil rfl) rfl rfl rfl ?_
  refine o_q (q_fr fo44_1 rfl) rfl rfl rfl ?_
  refine o_q (q_ldm ag3 sz3 rfl mmQ rfl (v_raw rfl)) rfl rfl rfl ?_
  refine o_q (q_gtr rfl rfl) rfl rfl rfl ?_
  refine o_nil ?_
  refine s_cond rfl (fun h2 => ?_) (fun h2 => ?_)
  ·have k2 := h2; try simp only [decide_eq_true_eq, decide_eq_false_iff_not, Bool.not_eq_true', Bool.not_eq_false', Bool.not_true, Bool.not_false, List.length_map, Decidable.not_not] at k2
   refine s_seq ?_
   refine s_region ?_
   refine o_q (q_mv (mvQ)) rfl rfl rfl ?_
   refine o_q (q_mv (v_raw rfl)) rfl rfl rfl ?_
   refine o_q (q_nil rfl) rfl rfl rfl ?_
   refine o_q (q_fr fo44_1 rfl) rfl rfl rfl ?_
   refine o_store rfl mmQ meQ rfl sz3 rfl (Nat.le_of_ble_eq_true rfl) rfl rfl ?_
   refine o_nil ?_
   refine s_region ?_
   refine o_q (q_mv (mvQ)) rfl rfl rfl ?_
   refine o_q (q_mv (mvQ)) rfl rfl rfl ?_
   refine o_q (q_mv (v_raw rfl)) rfl rfl rfl ?_
   refine o_q (q_mv (mvQ)) rfl rfl rfl ?_
   refine o_q (q_nil rfl) rfl rfl rfl ?_
   refine o_q (q_fr fo44_4 rfl) rfl rfl rfl ?_
   refine o_q (q_ldm ag35 sz35 rfl mmQ rfl (v_sl rfl)) rfl rfl rfl ?_
   refine o_q (q_len rfl und35 rfl) rfl rfl rfl ?_
   refine o_callx ((snd16 y (⟨x.name, n, x.en, x.kvs, x.recs⟩ : Tp) P o1 o2 n ((x.recs.map enc).length : Nat) _ hR (Mem.upd_self _ _ _))) goes16 (ac (mvQ) (ac (v_raw rfl) (ac (v_raw rfl) ac_nil))) rfl ?_
   rintro r M1 ⟨rfl, hM1⟩
   subst hM1
   refine o_q (q_nil rfl) rfl rfl rfl ?_
   refine o_q (q_fr fo44_4 rfl) rfl rfl rfl ?_
   refine o_store rfl mmQ meQ rfl sz35 rfl (Nat.le_of_ble_eq_true rfl) rfl rfl ?_
   refine o_nil ?_
   refine s_seq ?_
   refine s_region ?_
   refine o_q (q_as (v_raw rfl)) rfl rfl rfl ?_
   refine o_nil ?_
   refine s_ret ?_
   refine s_end ?_
   rw [if_neg (show ¬ x.en < n by omega), if_pos (show x.low < n by omega)] at hp
   obtain ⟨rfl, rfl⟩ := Prod.mk.inj hp
   have hrd : readF x.recs n ((x.recs.map enc).length : Nat) = x.recs.drop (atN x.recs n) := by rw [hmr]; exact readF_all hso n
   exact ⟨o1, _, rfl, (Mem.upd_self _ _ _).trans (congrArg (fun l : List Rec => some (AObj.cells [str x.name, int n, int x.en, .sl (P.map prE) o1, .sl (l.map enc) _])) hrd), (fun c o hc ho => by repeat first | exact ho | exact (upd_other hc).trans ho | exact Mem.upd_ne (by first | exact hc | exact Mem.ne_none ho (by assumption)) ho | refine Mem.upd_ne (by first | exact hc | exact Mem.ne_none ho (by assumption)) ?_)⟩
  ·have k2 := h2; try simp only [decide_eq_true_eq, decide_eq_false_iff_not, Bool.not_eq_true', Bool.not_eq_false', Bool.not_true, Bool.not_false, List.length_map, Decidable.not_not] at k2
   refine s_skip ?_
   refine s_seq ?_
   refine s_region ?_
   refine o_q (q_as (v_raw rfl)) rfl rfl rfl ?_
   refine o_nil ?_
   refine s_ret ?_
   refine s_end ?_
   rw [if_neg (show ¬ x.en < n by omega), if_neg (show ¬ x.low < n by omega)] at hp
   obtain ⟨rfl, rfl⟩ := Prod.mk.inj hp
   exact ⟨o1, o2, rfl, hy, fun c o _ hc => hc⟩

def tk102 : Nat → Nat → Option Nat := fun _ _ => none
def pl102 : Nat → List PStep
 | 4 => [.q 0, .q 1, .q 2, .q 3, .q 4, .q 5, .q 6, .q 7, .q 8, .q 9, .q 10, .q 11, .q 12, .q 13, .q 14, .q 15, .q 16, .q 17, .q 18]
 | _ => []
theorem cb102 : Tryz.f102.body.map (codeB Tryz.prog Tryz.f102.ntmps tk102 pl102) = some true := by kernel_rfl
theorem goes102 : goesB Tryz.prog 102 = true := by kernel_rfl
set_option maxHeartbeats 4000000 in
set_option maxRecDepth 20000 in
theorem snd102 (l : List Rec) (i : Nat) (o : Bool) (M : Mem) (hl : l.length * 64 ≤ 2 ^ 47) (hi : i < l.length) : SoundCall Tryz.prog 102 [.sl (l.map enc) o, .raw (.int .i64 i)] M fun r M' => r = .raw (.bool (superB l i)) ∧ M' = M := by
 refine SoundCall.go tk102 pl102 mixed Tryz.func102 cb102 rfl (Nat.le_of_ble_eq_true rfl) ?_
 refine s_seq ?_
 refine s_region ?_
 refine o_q (q_as (v_raw rfl)) rfl rfl rfl ?_
 refine o_nil ?_
 refine s_seq ?_
 refine s_seq ?_
 refine s_region ?_
 refine o_q (q_mv (v_raw rfl)) rfl rfl rfl ?_
 refine o_q (q_add rfl rfl (wrap64 (by omega) (by omega))) rfl rfl rfl ?_
 refine o_q (q_as (v_raw rfl)) rfl rfl rfl ?_
 refine o_nil ?_
 refine s_block ?_
 refine s_loop (fun m S => ∃ T, ∃ k : Nat, S = ⟨setT (setT (setT T 0 (.sl (l.map enc) o)) 1 (.raw (.int .i64 i))) 5 (.raw (.int .i64 k)), M⟩ ∧ i < k ∧ k ≤ l.length ∧ m = l.length - k ∧ ∀ j, ∀ h : j < l.length, i < j → j < k → ¬ (l[i].key ≠ emp ∧ l[j].key = l[i].key)) (l.length - (i + 1)) ?_ ?_
 ·exact ⟨_, i + 1, St.mkT (kp (kp (kp rfl rfl) rfl) rfl).symm, by omega, by omega, rfl, fun j _ h1 h2 => by omega⟩
 rintro m S ⟨T, k, rfl, hk1, hk2, rfl, hk⟩
 refine s_seq ?_
 refine s_seq ?_
 refine s_region ?_
 refine o_q (q_mv (v_raw rfl)) rfl rfl rfl ?_
 refine o_q (q_mv (v_sl rfl)) rfl rfl rfl ?_
 refine o_q (q_len rfl und35 rfl) rfl rfl rfl ?_
 refine o_q (q_lss rfl rfl) rfl rfl rfl ?_
 refine o_nil ?_
 refine s_cond rfl (fun h1 => ?_) (fun h1 => ?_)
 ·have k1 := h1; try simp only [decide_eq_true_eq, decide_eq_false_iff_not, Bool.not_eq_true', Bool.not_eq_false', Bool.not_true, Bool.not_false, List.length_map, Decidable.not_not] at k1
  refine s_skip ?_
  refine s_seq ?_
  refine s_block ?_
  refine s_seq ?_
  refine s_draw rfl ?_
  refine d_q rfl (q_mv (v_sl rfl)) rfl rfl rfl ?_
  refine d_q rfl (q_mv (v_raw rfl)) rfl rfl rfl ?_
  refine d_q rfl (q_idx und35 sz39 rfl rfl (by omega) (gm i (by first | omega | simp)) rfl) rfl rfl rfl ?_
  refine d_q rfl (q_f fo39_3 rfl) rfl rfl rfl ?_
  refine d_q rfl (q_ld ag9 sz9 rfl (gm i (by first | omega | simp)) rfl (v_raw rfl)) rfl rfl rfl ?_
  refine d_q rfl (q_sneq rfl rfl) rfl rfl rfl ?_
  refine d_q rfl (q_mv (v_raw rfl)) rfl rfl rfl ?_
  refine d_cases (want := true) (j := 6) rfl rfl (fun h2 => ?_) (fun h2 => ?_)
  ·have k2 := h2; try simp only [decide_eq_true_eq, decide_eq_false_iff_not, Bool.not_eq_true', Bool.not_eq_false', Bool.not_true, Bool.not_false, List.length_map, Decidable.not_not] at k2
   refine d_yes rfl (q_mv (v_sl rfl)) rfl rfl rfl h2 rfl rfl ?_
   refine d_yes rfl (q_mv (v_raw rfl)) rfl rfl rfl h2 rfl rfl ?_
   refine d_yes rfl (q_idx und35 sz39 rfl rfl (by omega) (gm k (by first | omega | simp)) rfl) rfl rfl rfl h2 rfl rfl ?_
   refine d_yes rfl (q_f fo39_3 rfl) rfl rfl rfl h2 rfl rfl ?_
   refine d_yes rfl (q_ld ag9 sz9 rfl (gm k (by first | omega | simp)) rfl (v_raw rfl)) rfl rfl rfl h2 rfl rfl ?_
   refine d_yes rfl (q_mv (v_sl rfl)) rfl rfl rfl h2 rfl rfl ?_
   refine d_yes rfl (q_mv (v_raw rfl)) rfl rfl rfl h2 rfl rfl ?_
   refine d_yes rfl (q_idx und35 sz39 rfl rfl (by omega) (gm i (by first | omega | simp)) rfl) rfl rfl rfl h2 rfl rfl ?_
   refine d_yes rfl (q_f fo39_3 rfl) rfl rfl rfl h2 rfl rfl ?_
   refine d_yes rfl (q_ld ag9 sz9 rfl (gm i (by first | omega | simp)) rfl (v_raw rfl)) rfl rfl rfl h2 rfl rfl ?_
   refine d_yes rfl (q_seql rfl rfl) rfl rfl rfl h2 rfl rfl ?_
   refine d_q rfl (q_pick_c (t := true) rfl h2 (v_raw rfl)) rfl rfl rfl ?_
   refine d_nil ?_
   refine s_cond rfl (fun h3 => ?_) (fun h3 => ?_)
   ·have k3 := h3; try simp only [decide_eq_true_eq, decide_eq_false_iff_not, Bool.not_eq_true', Bool.not_eq_false', Bool.not_true, Bool.not_false, List.length_map, Decidable.not_not] at k3
    refine s_seq ?_
    refine s_region ?_
    refine o_q (q_as (v_raw rfl)) rfl rfl rfl ?_
    refine o_nil ?_
    refine s_ret ?_
    refine s_blk_ret ?_
    refine s_code_ret ?_
    refine s_inv_ret ?_
    refine s_blk_ret ?_
    refine s_code_ret ?_
    refine s_end ?_
    refine ⟨?_, rfl⟩
    rw [(superB_iff hi).2 ⟨k2, k, by omega, hk1, k3⟩]; rfl
   ·have k3 := h3; try simp only [decide_eq_true_eq, decide_eq_false_iff_not, Bool.not_eq_true', Bool.not_eq_false', Bool.not_true, Bool.not_false, List.length_map, Decidable.not_not] at k3
    refine s_skip ?_
    refine s_blk_normal ?_
    refine s_region ?_
    refine o_q (q_mv (v_raw rfl)) rfl rfl rfl ?_
    refine o_q (q_add rfl rfl (wrap64 (by omega) (by omega))) rfl rfl rfl ?_
    refine o_q (q_as (v_raw rfl)) rfl rfl rfl ?_
    refine o_nil ?_
    refine s_inv ?_
    refine ⟨l.length - (k + 1), by omega, _, k + 1, St.mkT (kp (kp (kp rfl rfl) rfl) rfl).symm, by omega, by omega, rfl, fun j h h1 h2 => ?_⟩
    by_cases e : j = k
    ·subst e; exact fun hh => k3 hh.2
    ·exact hk j h h1 (by omega)
  ·have k2 := h2; try simp only [decide_eq_true_eq, decide_eq_false_iff_not, Bool.not_eq_true', Bool.not_eq_false', Bool.not_true, Bool.not_false, List.length_map, Decidable.not_not] at k2
   refine d_no rfl rfl rfl rfl h2 rfl ?_
   refine d_no rfl rfl rfl rfl h2 rfl ?_
   refine d_no rfl rfl rfl rfl h2 rfl ?_
   refine d_no rfl rfl rfl rfl h2 rfl ?_
   refine d_no rfl rfl rfl rfl h2 rfl ?_
   refine d_no rfl rfl rfl rfl h2 rfl ?_
   refine d_no rfl rfl rfl rfl h2 rfl ?_
   refine d_no rfl rfl rfl rfl h2 rfl ?_
   refine d_no rfl rfl rfl rfl h2 rfl ?_
   refine d_no rfl rfl rfl rfl h2 rfl ?_
   refine d_no rfl rfl rfl rfl h2 rfl ?_
   refine d_q rfl (q_pick_c (t := false) rfl h2 (v_raw rfl)) rfl rfl rfl ?_
   refine d_nil ?_
   refine s_else rfl rfl ?_
   refine s_skip ?_
   refine s_blk_normal ?_
   refine s_region ?_
   refine o_q (q_mv (v_raw rfl)) rfl rfl rfl ?_
   refine o_q (q_add rfl rfl (wrap64 (by omega) (by omega))) rfl rfl rfl ?_
   refine o_q (q_as (v_raw rfl)) rfl rfl rfl ?_
   refine o_nil ?_
   refine s_inv ?_
   refine ⟨l.length - (k + 1), by omega, _, k + 1, St.mkT (kp (kp (kp rfl rfl) rfl) rfl).symm, by omega, by omega, rfl, fun j h h1 h2 => ?_⟩
   exact fun hh => hh.1 k2
 ·have k1 := h1; try simp only [decide_eq_true_eq, decide_eq_false_iff_not, Bool.not_eq_true', Bool.not_eq_false', Bool.not_true, Bool.not_false, List.length_map, Decidable.not_not] at k1
  refine s_exit ?_
  refine s_code_exit ?_
  refine s_inv_exit ?_
  refine s_blk_here ?_
  refine s_seq ?_
  refine s_region ?_
  refine o_q (q_as (v_raw rfl)) rfl rfl rfl ?_
  refine o_nil ?_
  refine s_ret ?_
  refine s_end ?_
  refine ⟨?_, rfl⟩
  have : superB l i = false := by
   rw [Bool.eq_false_iff]; intro h; obtain ⟨h1, j, h2, h3, h4⟩ := (superB_iff hi).1 h; exact hk j h2 h3 (by omega) ⟨h1, h4⟩
  rw [this]; rfl

def tk53 : Nat → Nat → Option Nat
 | 1, 0 => some 0
 | 7, 0 => some 0
 | 7, 7 => some 0
 | _, _ => none
def pl53 : Nat → List PStep := fun _ => []
theorem cb53 : Tryz.f53.body.map (codeB Tryz.prog Tryz.f53.ntmps tk53 pl53) = some true := by kernel_rfl
theorem goes53 : goesB Tryz.prog 53 = true := by kernel_rfl
set_option maxHeartbeats 4000000 in
set_option maxRecDepth 20000 in
theorem snd53 (l : List Rec) (upto : Int) (o : Bool) (M : Mem) (hl : l.length * 64 ≤ 2 ^ 47) : SoundCall Tryz.prog 53 [.sl (l.map enc) o, .raw (.int .i64 upto)] M fun r M' => r = .sl ((keepN l upto l.length).map enc) false ∧ M' = M := by
 refine SoundCall.go tk53 pl53 mixed Tryz.func53 cb53 rfl (Nat.le_of_ble_eq_true rfl) ?_
 refine s_seq ?_
 refine s_region ?_
 refine o_q (q_as (v_sl rfl)) rfl rfl rfl ?_
 refine o_nil ?_
 refine s_seq ?_
 refine s_region ?_
 refine o_q (q_as_const rfl) rfl rfl rfl ?_
 refine o_nil ?_
 refine s_seq ?_
 refine s_seq ?_
 refine s_region ?_
 refine o_q (q_as (v_raw rfl)) rfl rfl rfl ?_
 refine o_nil ?_
 refine s_block ?_
 refine s_loop (fun m S => ∃ T, ∃ i : Nat, S = ⟨setT (setT (setT (setT T 0 (.sl (l.map enc) o)) 1 (.raw (.int .i64 upto))) 5 (.sl ((keepN l upto i).map enc) true)) 6 (.raw (.int .i64 i)), M⟩ ∧ i ≤ l.length ∧ m = l.length - i) l.length ?_ ?_
 ·exact ⟨_, 0, St.mkT (kp (kp (kp (kp rfl rfl) rfl) rfl) rfl).symm, by omega, rfl⟩
 rintro m S ⟨T, i, rfl, hi, rfl⟩
 have hlen := keepN_len l upto i
 refine s_seq ?_
 refine s_seq ?_
 refine s_region ?_
 refine o_q (q_mv (v_raw rfl)) rfl rfl rfl ?_
 refine o_q (q_mv (v_sl rfl)) rfl rfl rfl ?_
 refine o_q (q_len rfl und35 rfl) rfl rfl rfl ?_
 refine o_q (q_lss rfl rfl) rfl rfl rfl ?_
 refine o_nil ?_
 refine s_cond rfl (fun h1 => ?_) (fun h1 => ?_)
 ·have k1 := h1; try simp only [decide_eq_true_eq, decide_eq_false_iff_not, Bool.not_eq_true', Bool.not_eq_false', Bool.not_true, Bool.not_false, List.length_map, Decidable.not_not] at k1
  refine s_skip ?_
  refine s_seq ?_
  refine s_block ?_
  refine s_seq ?_
  refine s_region ?_
  refine o_q (q_mv (v_sl rfl)) rfl rfl rfl ?_
  refine o_q (q_mv (v_raw rfl)) rfl rfl rfl ?_
  refine o_call (snd102 l i false M hl (by omega)) goes102 (ac (v_sl rfl) (ac (v_raw rfl) ac_nil)) rfl ?_
  refine o_q (q_as (v_raw rfl)) rfl rfl rfl ?_
  refine o_nil ?_
  refine s_seq ?_
  refine s_region ?_
  refine o_q (q_mv (v_raw rfl)) rfl rfl rfl ?_
  refine o_q (q_not rfl) rfl rfl rfl ?_
  refine o_q (q_mv (v_raw rfl)) rfl rfl rfl ?_
  refine o_cases (want := false) (j := 2) rfl rfl (fun h2 => ?_) (fun h2 => ?_)
  ·have k2 := h2; try simp only [decide_eq_true_eq, decide_eq_false_iff_not, Bool.not_eq_true', Bool.not_eq_false', Bool.not_true, Bool.not_false, List.length_map, Decidable.not_not] at k2
   refine o_yes rfl rfl rfl h2 ?_
   refine o_q (q_mv (v_sl rfl)) rfl rfl rfl ?_
   refine o_yes rfl rfl rfl h2 ?_
   refine o_q (q_mv (v_raw rfl)) rfl rfl rfl ?_
   refine o_yes rfl rfl rfl h2 ?_
   refine o_q (q_idx und35 sz39 rfl rfl (by omega) (gm i (by first | omega | simp)) rfl) rfl rfl rfl ?_
   refine o_yes rfl rfl rfl h2 ?_
   refine o_q (q_f fo39_0 rfl) rfl rfl rfl ?_
   refine o_yes rfl rfl rfl h2 ?_
   refine o_q (q_ld ag3 sz3 rfl (gm i (by first | omega | simp)) rfl (v_raw rfl)) rfl rfl rfl ?_
   refine o_yes rfl rfl rfl h2 ?_
   refine o_q (q_mv (v_raw rfl)) rfl rfl rfl ?_
   refine o_yes rfl rfl rfl h2 ?_
   refine o_q (q_geq rfl rfl) rfl rfl rfl ?_
   refine o_q (q_pick_c (t := false) rfl h2 (v_raw rfl)) rfl rfl rfl ?_
   refine o_nil ?_
   refine s_cond rfl (fun h3 => ?_) (fun h3 => ?_)
   ·have k3 := h3; try simp only [decide_eq_true_eq, decide_eq_false_iff_not, Bool.not_eq_true', Bool.not_eq_false', Bool.not_true, Bool.not_false, List.length_map, Decidable.not_not] at k3
    refine s_region ?_
    refine o_qs (q_mv_own rfl) rfl rfl rfl rfl ?_
    refine o_q (q_mv (v_sl rfl)) rfl rfl rfl ?_
    refine o_q (q_mv (v_raw rfl)) rfl rfl rfl ?_
    refine o_q (q_idx und35 sz39 rfl rfl (by omega) (gm i (by first | omega | simp)) rfl) rfl rfl rfl ?_
    refine o_q (q_lde ag39 sz39 rfl (gm i (by first | omega | simp)) rfl rfl) rfl rfl rfl ?_
    refine o_q (q_bs slt35 (pc (v_agg rfl) pn) rfl (Els.cons rfl rfl Els.nil) (by decide)) rfl rfl rfl ?_
    refine o_qs (q_app slt35 rfl rfl rfl rfl elsR (by first | exact elsR | exact Els.cons rfl rfl Els.nil) (by simp; omega)) rfl rfl rfl rfl ?_
    refine o_qs (q_as_own rfl) rfl rfl rfl rfl ?_
    refine o_nil ?_
    refine s_blk_normal ?_
    refine s_region ?_
    refine o_q (q_mv (v_raw rfl)) rfl rfl rfl ?_
    refine o_q (q_add rfl rfl (wrap64 (by omega) (by omega))) rfl rfl rfl ?_
    refine o_q (q_as (v_raw rfl)) rfl rfl rfl ?_
    refine o_nil ?_
    refine s_inv ?_
    refine ⟨l.length - (i + 1), by omega, _, i + 1, St.mkT (kp (kp (kp (kp rfl rfl) rfl) (app_map (by rw [keepN_succ l upto (by omega), if_pos (by simp [k3])]))) rfl).symm, by omega, rfl⟩
   ·have k3 := h3; try simp only [decide_eq_true_eq, decide_eq_false_iff_not, Bool.not_eq_true', Bool.not_eq_false', Bool.not_true, Bool.not_false, List.length_map, Decidable.not_not] at k3
    refine s_skip ?_
    refine s_blk_normal ?_
    refine s_region ?_
    refine o_q (q_mv (v_raw rfl)) rfl rfl rfl ?_
    refine o_q (q_add rfl rfl (wrap64 (by omega) (by omega))) rfl rfl rfl ?_
    refine o_q (q_as (v_raw rfl)) rfl rfl rfl ?_
    refine o_nil ?_
    refine s_inv ?_
    refine ⟨l.length - (i + 1), by omega, _, i + 1, St.mkT (kp (kp (kp (kp rfl rfl) rfl) (by show _ = AVal.sl _ true; rw [keepN_succ l upto (by omega), if_neg (by simp_all), List.append_nil]; rfl)) rfl).symm, by omega, rfl⟩
  ·have k2 := h2; try simp only [decide_eq_true_eq, decide_eq_false_iff_not, Bool.not_eq_true', Bool.not_eq_false', Bool.not_true, Bool.not_false, List.length_map, Decidable.not_not] at k2
   refine o_no rfl rfl rfl rfl h2 ?_
   refine o_no rfl rfl rfl rfl h2 ?_
   refine o_no rfl rfl rfl rfl h2 ?_
   refine o_no rfl rfl rfl rfl h2 ?_
   refine o_no rfl rfl rfl rfl h2 ?_
   refine o_no rfl rfl rfl rfl h2 ?_
   refine o_no rfl rfl rfl rfl h2 ?_
   refine o_q (q_pick_c (t := true) rfl h2 (v_raw rfl)) rfl rfl rfl ?_
   refine o_nil ?_
   refine s_then rfl rfl ?_
   refine s_region ?_
   refine o_qs (q_mv_own rfl) rfl rfl rfl rfl ?_
   refine o_q (q_mv (v_sl rfl)) rfl rfl rfl ?_
   refine o_q (q_mv (v_raw rfl)) rfl rfl rfl ?_
   refine o_q (q_idx und35 sz39 rfl rfl (by omega) (gm i (by first | omega | simp)) rfl) rfl rfl rfl ?_
   refine o_q (q_lde ag39 sz39 rfl (gm i (by first | omega | simp)) rfl rfl) rfl rfl rfl ?_
   refine o_q (q_bs slt35 (pc (v_agg rfl) pn) rfl (Els.cons rfl rfl Els.nil) (by decide)) rfl rfl rfl ?_
   refine o_qs (q_app slt35 rfl rfl rfl rfl elsR (by first | exact elsR | exact Els.cons rfl rfl Els.nil) (by simp; omega)) rfl rfl rfl rfl ?_
   refine o_qs (q_as_own rfl) rfl rfl rfl rfl ?_
   refine o_nil ?_
   refine s_blk_normal ?_
   refine s_region ?_
   refine o_q (q_mv (v_raw rfl)) rfl rfl rfl ?_
   refine o_q (q_add rfl rfl (wrap64 (by omega) (by omega))) rfl rfl rfl ?_
   refine o_q (q_as (v_raw rfl)) rfl rfl rfl ?_
   refine o_nil ?_
   refine s_inv ?_
   refine ⟨l.length - (i + 1), by omega, _, i + 1, St.mkT (kp (kp (kp (kp rfl rfl) rfl) (app_map (by rw [keepN_succ l upto (by omega), if_pos (by simp_all)]))) rfl).symm, by omega, rfl⟩
 ·have k1 := h1; try simp only [decide_eq_true_eq, decide_eq_false_iff_not, Bool.not_eq_true', Bool.not_eq_false', Bool.not_true, Bool.not_false, List.length_map, Decidable.not_not] at k1
  refine s_exit ?_
  refine s_code_exit ?_
  refine s_inv_exit ?_
  refine s_blk_here ?_
  refine s_seq ?_
  refine s_region ?_
  refine o_q (q_mv (v_sl rfl)) rfl rfl rfl ?_
  refine o_q (q_as (v_sl rfl)) rfl rfl rfl ?_
  refine o_nil ?_
  refine s_ret ?_
  refine s_end ?_
  refine ⟨?_, rfl⟩
  have : i = l.length := by omega
  subst this; rfl

def tk20 : Nat → Nat → Option Nat := fun _ _ => none
def pl20 : Nat → List PStep := fun _ => []
theorem cb20 : Tryz.f20.body.map (codeB Tryz.prog Tryz.f20.ntmps tk20 pl20) = some true := by kernel_rfl
theorem goes20 : goesB Tryz.prog 20 = true := by kernel_rfl
set_option maxHeartbeats 4000000 in
set_option maxRecDepth 20000 in
theorem snd20 (y : Nat) (x : Tp) (P : List KV) (o1 o2 : Bool) (n : Int) (M : Mem) (hR : x.recs.length < 2 ^ 40) (hy : M y = some (.cells (ryC x P o1 o2))) : SoundCall Tryz.prog 20 [ptr y, int n] M fun r M' => ∃ q1 q2, r = int 0 ∧ M' y = some (.cells (ryC (compT x n) P q1 q2)) ∧ Kept M M' y := by
 have hle := Mem.le_refl M
 refine SoundCall.go tk20 pl20 mixed Tryz.func20 cb20 rfl (Nat.le_of_ble_eq_true rfl) ?_
 refine s_seq ?_
 refine s_region ?_
 refine o_q (q_as (v_raw rfl)) rfl rfl rfl ?_
 refine o_nil ?_
 refine s_seq ?_
 refine s_region ?_
 refine o_q (q_mv (mvQ)) rfl rfl rfl ?_
 refine o_q (q_mv (mvQ)) rfl rfl rfl ?_
 refine o_q (q_nil rfl) rfl rfl rfl ?_
 refine o_q (q_fr fo44_4 rfl) rfl rfl rfl ?_
 refine o_q (q_ldm ag35 sz35 rfl mmQ rfl (v_sl rfl)) rfl rfl rfl ?_
 refine o_q (q_mv (v_raw rfl)) rfl rfl rfl ?_
 refine o_call ((snd53 x.recs n _ _ (by omega))) goes53 (ac (v_sl rfl) (ac (v_raw rfl) ac_nil)) rfl ?_
 refine o_q (q_nil rfl) rfl rfl rfl ?_
 refine o_q (q_fr fo44_4 rfl) rfl rfl rfl ?_
 refine o_store rfl mmQ meQ rfl sz35 rfl (Nat.le_of_ble_eq_true rfl) rfl rfl ?_
 refine o_nil ?_
 refine s_seq ?_
 refine s_region ?_
 refine o_q (q_as (v_raw rfl)) rfl rfl rfl ?_
 refine o_nil ?_
 refine s_ret ?_
 refine s_end ?_
 exact ⟨o1, _, rfl, (Mem.upd_self _ _ _), (fun c o hc ho => by repeat first | exact ho | exact (upd_other hc).trans ho | exact Mem.upd_ne (by first | exact hc | exact Mem.ne_none ho (by assumption)) ho | refine Mem.upd_ne (by first | exact hc | exact Mem.ne_none ho (by assumption)) ?_)⟩
theorem trimD {y : Nat} {x : Tp} {P : List KV} {o1 o2 : Bool} {n : Int} {M : Mem} (hy : M y = some (.cells (ryC x P o1 o2))) (hso : Sorted x.recs) (hR : x.recs.length < 2 ^ 40) : SoundCall Tryz.prog 18 [ptr y, int n] M fun r M' => ∃ q1 q2, r = int (trimT x n).2 ∧ M' = M.upd y (.cells (ryC (trimT x n).1 P q1 q2)) := by
 refine (snd18 y x P o1 o2 n _ _ rfl M hso hR hy).recast fun r M' h => ?_
 obtain ⟨q1, q2, h1, h2, h3⟩ := h
 exact ⟨_, Mem.imp_of_le (le_y h2 h3), q1, q2, h1, rfl⟩
theorem compD {y : Nat} {x : Tp} {P : List KV} {o1 o2 : Bool} {n : Int} {M : Mem} (hy : M y = some (.cells (ryC x P o1 o2))) (hR : x.recs.length < 2 ^ 40) : SoundCall Tryz.prog 20 [ptr y, int n] M fun r M' => ∃ q1 q2, r = int 0 ∧ M' = M.upd y (.cells (ryC (compT x n) P q1 q2)) := by
 refine (snd20 y x P o1 o2 n M hR hy).recast fun r M' h => ?_
 obtain ⟨q1, q2, h1, h2, h3⟩ := h
 exact ⟨_, Mem.imp_of_le (le_y h2 h3), q1, q2, h1, rfl⟩

def tk60 : Nat → Nat → Option Nat := fun _ _ => none
def pl60 : Nat → List PStep := fun _ => []
theorem cb60 : Tryz.f60.body.map (codeB Tryz.prog Tryz.f60.ntmps tk60 pl60) = some true := by kernel_rfl
theorem goes60 : goesB Tryz.prog 60 = true := by kernel_rfl
set_option maxHeartbeats 4000000 in
set_option maxRecDepth 20000 in
theorem snd60 (s : ByteArray) (M : Mem) : SoundCall Tryz.prog 60 [str s] M fun r M' => r = encIt ⟨4, 0, s⟩ ∧ M.le M' := by
 have hle := Mem.le_refl M
 refine SoundCall.go tk60 pl60 mixed Tryz.func60 cb60 rfl (Nat.le_of_ble_eq_true rfl) ?_
 refine s_seq ?_
 refine s_region ?_
 refine o_alloc zc102 (fun B1 hB1 => ?_)
 have m1 : M B1 = none := by have h := hB1; repeat (first | exact h | exact Mem.none_of_le hle h | replace h := (Mem.upd_none h).2)
 refine o_nil ?_
 refine s_seq ?_
 refine s_region ?_
 refine o_q (q_mv (v_raw rfl)) rfl rfl rfl ?_
 refine o_q (q_b (cs := [_, .raw (.int .u64 0), _]) bz102 bp102 (bf fo102_0 (e_raw rfl) rfl rfl (Nat.le_of_ble_eq_true rfl) rfl (bf fo102_2 (e_raw rfl) rfl rfl (Nat.le_of_ble_eq_true rfl) rfl bf_nil))) rfl rfl rfl ?_
 refine o_storew rfl mmQ mfQ rfl sz102 rfl rfl rfl rfl ?_
 refine o_nil ?_
 refine s_ret ?_
 refine s_end ?_
 exact ret_one (.inl rfl) rfl (rl_c rfl mmQ (loadP_w ag102 sz102 rfl rfl) rfl rl_nil) ⟨rfl, (by repeat first | exact hle | exact Mem.le_refl _ | assumption | exact Mem.none_of_le hle (by assumption) | refine Mem.le_upd ?_ ?_)⟩

def tk61 : Nat → Nat → Option Nat := fun _ _ => none
def pl61 : Nat → List PStep := fun _ => []
theorem cb61 : Tryz.f61.body.map (codeB Tryz.prog Tryz.f61.ntmps tk61 pl61) = some true := by kernel_rfl
theorem goes61 : goesB Tryz.prog 61 = true := by kernel_rfl
set_option maxHeartbeats 4000000 in
set_option maxRecDepth 20000 in
theorem snd61 (n : Int) (h0 : 0 ≤ n) (h1 : n < 2 ^ 63) (M : Mem) : SoundCall Tryz.prog 61 [int n] M fun r M' => r = encIt ⟨3, n.toNat, emp⟩ ∧ M.le M' := by
 have hle := Mem.le_refl M
 have e : ((n.toNat : Nat) : Int) = n := Int.toNat_of_nonneg h0
 refine SoundCall.go tk61 pl61 mixed Tryz.func61 cb61 rfl (Nat.le_of_ble_eq_true rfl) ?_
 refine s_seq ?_
 refine s_region ?_
 refine o_alloc zc102 (fun B1 hB1 => ?_)
 have m1 : M B1 = none := by have h := hB1; repeat (first | exact h | exact Mem.none_of_le hle h | replace h := (Mem.upd_none h).2)
 refine o_nil ?_
 refine s_seq ?_
 refine s_region ?_
 refine o_q (q_mv (v_raw rfl)) rfl rfl rfl ?_
 refine o_q (q_i2i und3 und100 rfl (u64_wrap (by omega) (by omega))) rfl rfl rfl ?_
 refine o_q (q_b (cs := [_, _, .raw (.string { data := #[] })]) bz102 bp102 (bf fo102_0 (e_raw rfl) rfl rfl (Nat.le_of_ble_eq_true rfl) rfl (bf fo102_1 (e_raw rfl) rfl rfl (Nat.le_of_ble_eq_true rfl) rfl bf_nil))) rfl rfl rfl ?_
 refine o_storew rfl mmQ mfQ rfl sz102 rfl rfl rfl rfl ?_
 refine o_nil ?_
 refine s_ret ?_
 refine s_end ?_
 exact ret_one (.inl rfl) rfl (rl_c rfl mmQ (loadP_w ag102 sz102 rfl rfl) rfl rl_nil) ⟨by show _ = AVal.agg [int 3, .raw (.int .u64 ((n.toNat : Nat) : Int)), str emp]; rw [e]; rfl, (by repeat first | exact hle | exact Mem.le_refl _ | assumption | exact Mem.none_of_le hle (by assumption) | refine Mem.le_upd ?_ ?_)⟩

end C17
