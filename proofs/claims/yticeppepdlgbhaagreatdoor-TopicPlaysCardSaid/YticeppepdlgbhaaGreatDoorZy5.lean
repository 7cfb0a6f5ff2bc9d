import Derived.Test.YticeppepdlgbhaaGreatDoorZy4
import Derived.Test.YticeppepdlgbhaaGreatDoorZy1
/-! The document's topic (chapter 15), walked. -/
open Go Go.Proofs Go.Am
set_option linter.unusedVariables false
set_option linter.unusedSimpArgs false
set_option autoImplicit false
namespace C17

def tk23 : Nat → Nat → Option Nat
 | 1, 22 => some 0
 | 6, 0 => some 0
 | 6, 12 => some 0
 | 11, 0 => some 0
 | 11, 18 => some 0
 | _, _ => none
def pl23 : Nat → List PStep
 | 1 => [.q 0, .q 1, .q 2, .q 3, .q 5, .q 6, .q 7, .q 8, .q 10, .q 11, .q 12, .q 13, .q 15, .q 16, .q 17, .q 18, .q 19, .s 4 [19, 18, 17, 16, 15, 13, 12, 11, 10, 8, 7, 6, 5, 2, 1, 0], .s 9 [19, 18, 17, 16, 15, 13, 12, 11, 10, 7, 6, 5, 3, 2, 1, 0], .s 14 [19, 18, 17, 16, 15, 12, 11, 10, 8, 7, 6, 5, 3, 2, 1, 0], .s 20 [18, 17, 16, 15, 13, 12, 11, 10, 8, 7, 6, 5, 3, 2, 1, 0], .q 21, .q 22]
 | 6 => [.q 0, .q 1, .q 2, .q 4, .q 5, .q 7, .q 8, .s 3 [8, 7, 5, 4, 1, 0], .s 6 [8, 7, 4, 2, 1, 0], .s 9 [7, 5, 4, 2, 1, 0], .q 10, .q 11, .q 12]
 | 11 => [.q 0, .q 1, .q 2, .q 4, .q 5, .q 7, .q 8, .q 10, .q 11, .q 13, .q 14, .s 3 [14, 13, 11, 10, 8, 7, 5, 4, 1, 0], .s 6 [14, 13, 11, 10, 8, 7, 4, 2, 1, 0], .s 9 [14, 13, 11, 10, 7, 5, 4, 2, 1, 0], .s 12 [14, 13, 10, 8, 7, 5, 4, 2, 1, 0], .s 15 [13, 11, 10, 8, 7, 5, 4, 2, 1, 0], .q 16, .q 17, .q 18]
 | _ => []
theorem cb23 : Tryz.f23.body.map (codeB Tryz.prog Tryz.f23.ntmps tk23 pl23) = some true := by kernel_rfl
theorem goes23 : goesB Tryz.prog 23 = true := by kernel_rfl

def prodK (p : KV) : List Itm := [tI p.1, lI p.2.1, lI p.2.2.1]
theorem dump_ksL {x : Tp} (h : LoadOk x) : dumpL x = headL x ++ (ksL x).flatMap prodK ++ x.recs.flatMap recL := by
 unfold dumpL ksL
 rw [List.flatMap_map]
 congr 2
 refine flatMap_cg fun k hk => ?_
 have := (h.kv _ (kvOf_mem hk)).2.1
 show prodL (kvOf x k) = [tI k, lI (kvOf x k).1, lI (kvOf x k).2.1]
 unfold prodL
 rw [show (kvOf x k).2.2 = k from this]
theorem ksL_len (x : Tp) : (ksL x).length = x.kvs.length := by
 unfold ksL
 rw [List.length_map, namesL_len]
theorem ksL_mem {x : Tp} {p : KV} (h : p ∈ ksL x) : p ∈ x.kvs := by
 obtain ⟨k, hk, e⟩ := List.mem_map.1 h
 rw [← e]; exact kvOf_mem hk
set_option maxHeartbeats 4000000 in
set_option maxRecDepth 20000 in
theorem snd23 (y : Nat) (x : Tp) (o1 o2 : Bool) (M : Mem) (hok : DumpOk x) (hlo : LoadOk x) (hy : M y = some (.cells (ryC x (ksL x) o1 o2))) : SoundCall Tryz.prog 23 [ptr y] M fun r M' => r = str (encAll (dumpL x)) ∧ M.le M' := by
 have hle := Mem.le_refl M
 have hln := hok.len
 have hkl := ksL_len x
 have hml : ((ksL x).map prE).length = (ksL x).length := List.length_map _
 have hrl : (x.recs.map enc).length = x.recs.length := List.length_map _
 have hdl := dump_ksL hlo
 refine SoundCall.go tk23 pl23 mixed Tryz.func23 cb23 rfl (Nat.le_of_ble_eq_true rfl) ?_
 refine s_seq ?_
 refine s_region ?_
 refine o_q (q_as (v_raw rfl)) rfl rfl rfl ?_
 refine o_nil ?_
 refine s_seq ?_
 refine s_draw rfl ?_
 refine d_q rfl (q_mv (mvQ)) rfl rfl rfl ?_
 refine d_q rfl (q_nil rfl) rfl rfl rfl ?_
 refine d_q rfl (q_fr fo44_0 rfl) rfl rfl rfl ?_
 refine d_q rfl (q_ldm ag9 sz9 rfl mmQ rfl (v_raw rfl)) rfl rfl rfl ?_
 refine d_q rfl (q_mv (mvQ)) rfl rfl rfl ?_
 refine d_q rfl (q_nil rfl) rfl rfl rfl ?_
 refine d_q rfl (q_fr fo44_1 rfl) rfl rfl rfl ?_
 refine d_q rfl (q_ldm ag3 sz3 rfl mmQ rfl (v_raw rfl)) rfl rfl rfl ?_
 refine d_q rfl (q_mv (mvQ)) rfl rfl rfl ?_
 refine d_q rfl (q_nil rfl) rfl rfl rfl ?_
 refine d_q rfl (q_fr fo44_2 rfl) rfl rfl rfl ?_
 refine d_q rfl (q_ldm ag3 sz3 rfl mmQ rfl (v_raw rfl)) rfl rfl rfl ?_
 refine d_q rfl (q_mv (mvQ)) rfl rfl rfl ?_
 refine d_q rfl (q_nil rfl) rfl rfl rfl ?_
 refine d_q rfl (q_fr fo44_3 rfl) rfl rfl rfl ?_
 refine d_q rfl (q_ldm ag42 sz42 rfl mmQ rfl (v_sl rfl)) rfl rfl rfl ?_
 refine d_q rfl (q_len rfl und42 rfl) rfl rfl rfl ?_
 refine d_s rfl ?_
 refine o_call (((snd60 x.name _).det)) goes60 (ac (v_raw rfl) ac_nil) rfl ?_
 refine o_nil ⟨(by simp [Mem.upd, *]), ?_⟩
 refine d_s rfl ?_
 refine o_call (((snd61 x.low hok.low.1 hok.low.2 _).det)) goes61 (ac (v_raw rfl) ac_nil) rfl ?_
 refine o_nil ⟨(by simp [Mem.upd, *]), ?_⟩
 refine d_s rfl ?_
 refine o_call (((snd61 x.en hok.en.1 hok.en.2 _).det)) goes61 (ac (v_raw rfl) ac_nil) rfl ?_
 refine o_nil ⟨(by simp [Mem.upd, *]), ?_⟩
 refine d_s rfl ?_
 refine o_call (((snd61 ((((ksL x).map prE).length : Nat) : Int) (Int.natCast_nonneg _) (by omega) _).det)) goes61 (ac (v_raw rfl) ac_nil) rfl ?_
 refine o_nil ⟨(by simp [Mem.upd, *]), ?_⟩
 refine d_q rfl (q_bs slt105 (pc (v_agg rfl) (pc (v_agg rfl) (pc (v_agg rfl) (pc (v_agg rfl) pn)))) rfl (Els.cons rfl rfl (Els.cons rfl rfl (Els.cons rfl rfl (Els.cons rfl rfl Els.nil)))) (by decide)) rfl rfl rfl ?_
 refine d_qs rfl (q_as_own rfl) rfl rfl rfl rfl ?_
 refine d_nil ?_
 refine s_seq ?_
 refine s_seq ?_
 refine s_region ?_
 refine o_q (q_as (v_raw rfl)) rfl rfl rfl ?_
 refine o_nil ?_
 refine s_block ?_
 refine s_loop (fun m S => ∃ T, ∃ M' : Mem, ∃ acc : List Itm, ∃ i : Nat, S = ⟨setT (setT (setT T 0 (ptr y)) 3 (.sl (acc.map encIt) true)) 4 (int (i : Nat)), M'⟩ ∧ M.le M' ∧ acc = headL x ++ ((ksL x).take i).flatMap prodK ∧ acc.length = 4 + 3 * i ∧ i ≤ (ksL x).length ∧ m = (ksL x).length - i) (ksL x).length ?_ ?_
 ·exact ⟨_, _, headL x, 0, St.mkT (kp (kp (kp rfl rfl) (congrArg (fun n : Nat => AVal.sl [encIt (tI x.name), encIt (lI x.low), encIt (lI x.en), encIt (lI (n : Int))] true) (hml.trans hkl))) rfl).symm, hle, by simp, rfl, Nat.zero_le _, rfl⟩
 rintro m S ⟨T, M', acc, i, rfl, hle', hacc, hal, hi, rfl⟩
 have hy1 := hle' y _ hy
 refine s_seq ?_
 refine s_seq ?_
 refine s_region ?_
 refine o_q (q_mv (v_raw rfl)) rfl rfl rfl ?_
 refine o_q (q_mv (mvQ)) rfl rfl rfl ?_
 refine o_q (q_nil rfl) rfl rfl rfl ?_
 refine o_q (q_fr fo44_3 rfl) rfl rfl rfl ?_
 refine o_q (q_ldm ag42 sz42 rfl mmQ rfl (v_sl rfl)) rfl rfl rfl ?_
 refine o_q (q_len rfl und42 rfl) rfl rfl rfl ?_
 refine o_q (q_lss rfl rfl) rfl rfl rfl ?_
 refine o_nil ?_
 refine s_cond rfl (fun h1 => ?_) (fun h1 => ?_)
 ·have k1 := h1; try simp only [decide_eq_true_eq, decide_eq_false_iff_not, Bool.not_eq_true', Bool.not_eq_false', Bool.not_true, Bool.not_false, List.length_map, Decidable.not_not] at k1
  have hi2 : i < (ksL x).length := by omega
  obtain ⟨hv1, hv2, hv3, hv4⟩ := hok.kv _ (ksL_mem (List.getElem_mem hi2))
  refine s_skip ?_
  refine s_seq ?_
  refine s_block ?_
  refine s_seq ?_
  refine s_region ?_
  refine o_q (q_mv (mvQ)) rfl rfl rfl ?_
  refine o_q (q_nil rfl) rfl rfl rfl ?_
  refine o_q (q_fr fo44_3 rfl) rfl rfl rfl ?_
  refine o_q (q_ldm ag42 sz42 rfl mmQ rfl (v_sl rfl)) rfl rfl rfl ?_
  refine o_q (q_mv (v_raw rfl)) rfl rfl rfl ?_
  refine o_q (q_idx und42 sz97 rfl rfl (by omega) (gm i (by first | omega | simp)) rfl) rfl rfl rfl ?_
  refine o_q (q_lde ag97 sz97 rfl (gm i (by first | omega | simp)) rfl rfl) rfl rfl rfl ?_
  refine o_alloc zc97 (fun B1 hB1 => ?_)
  have ny1 : y ≠ B1 := Mem.fresh_ne hB1 hy1
  have ny1b := ny1.symm
  refine o_storew rfl mmQ mfQ rfl sz97 rfl rfl rfl rfl ?_
  refine o_nil ?_
  refine s_draw rfl ?_
  refine d_qs rfl (q_mv_own rfl) rfl rfl rfl rfl ?_
  refine d_q rfl (q_fr fo97_0 rfl) rfl rfl rfl ?_
  refine d_q rfl (q_ldm ag9 sz9 rfl mmQ rfl (v_raw rfl)) rfl rfl rfl ?_
  refine d_q rfl (q_fr fo97_1 rfl) rfl rfl rfl ?_
  refine d_q rfl (q_ldm ag3 sz3 rfl mmQ rfl (v_raw rfl)) rfl rfl rfl ?_
  refine d_q rfl (q_fr fo97_2 rfl) rfl rfl rfl ?_
  refine d_q rfl (q_ldm ag3 sz3 rfl mmQ rfl (v_raw rfl)) rfl rfl rfl ?_
  refine d_s rfl ?_
  refine o_call (((snd60 ((ksL x)[i]).1 _).det)) goes60 (ac (v_raw rfl) ac_nil) rfl ?_
  refine o_nil ⟨(by simp [Mem.upd, *]), ?_⟩
  refine d_s rfl ?_
  refine o_call (((snd61 ((ksL x)[i]).2.1 hv3.1 hv3.2 _).det)) goes61 (ac (v_raw rfl) ac_nil) rfl ?_
  refine o_nil ⟨(by simp [Mem.upd, *]), ?_⟩
  refine d_s rfl ?_
  refine o_call (((snd61 ((ksL x)[i]).2.2.1 hv4.1 hv4.2 _).det)) goes61 (ac (v_raw rfl) ac_nil) rfl ?_
  refine o_nil ⟨(by simp [Mem.upd, *]), ?_⟩
  refine d_q rfl (q_bs slt105 (pc (v_agg rfl) (pc (v_agg rfl) (pc (v_agg rfl) pn))) rfl (Els.cons rfl rfl (Els.cons rfl rfl (Els.cons rfl rfl Els.nil))) (by decide)) rfl rfl rfl ?_
  refine d_qs rfl (q_app slt105 rfl rfl rfl rfl elsIt (by repeat first | exact Els.nil | refine Els.cons rfl rfl ?_) (by simp; omega)) rfl rfl rfl rfl ?_
  refine d_qs rfl (q_as_own rfl) rfl rfl rfl rfl ?_
  refine d_nil ?_
  refine s_blk_normal ?_
  refine s_region ?_
  refine o_q (q_mv (v_raw rfl)) rfl rfl rfl ?_
  refine o_q (q_add rfl rfl (wrap64 (by omega) (by omega))) rfl rfl rfl ?_
  refine o_q (q_as (v_raw rfl)) rfl rfl rfl ?_
  refine o_nil ?_
  refine s_inv ?_
  exact ⟨(ksL x).length - (i + 1), by omega, _, _, acc ++ prodK (ksL x)[i], i + 1, St.mkT (kp (kp (kp rfl rfl) (congrArg (fun l => AVal.sl l true) (List.map_append (f := encIt) (l₁ := acc) (l₂ := prodK (ksL x)[i])).symm)) rfl).symm, leU2 hle' hB1, (by rw [hacc, List.append_assoc, flat_take hi2]), (by rw [List.length_append, hal]; show _ + 3 = _; omega), by omega, rfl⟩
 ·have k1 := h1; try simp only [decide_eq_true_eq, decide_eq_false_iff_not, Bool.not_eq_true', Bool.not_eq_false', Bool.not_true, Bool.not_false, List.length_map, Decidable.not_not] at k1
  obtain rfl : i = (ksL x).length := by omega
  refine s_exit ?_
  refine s_code_exit ?_
  refine s_inv_exit ?_
  refine s_blk_here ?_
  refine s_seq ?_
  refine s_seq ?_
  refine s_region ?_
  refine o_q (q_as (v_raw rfl)) rfl rfl rfl ?_
  refine o_nil ?_
  refine s_block ?_
  refine s_loop (fun m S => ∃ T, ∃ M' : Mem, ∃ acc : List Itm, ∃ i : Nat, S = ⟨setT (setT (setT T 0 (ptr y)) 3 (.sl (acc.map encIt) true)) 6 (int (i : Nat)), M'⟩ ∧ M.le M' ∧ acc = headL x ++ (ksL x).flatMap prodK ++ (x.recs.take i).flatMap recL ∧ acc.length = 4 + 3 * (ksL x).length + 5 * i ∧ i ≤ x.recs.length ∧ m = x.recs.length - i) x.recs.length ?_ ?_
  ·exact ⟨_, _, acc, 0, St.mkT (kp (kp (kp rfl rfl) rfl) rfl).symm, hle', (by rw [hacc, List.take_length]; simp), (by rw [hal]; rfl), Nat.zero_le _, rfl⟩
  rintro m S ⟨T, M', acc, i, rfl, hle', hacc, hal, hi, rfl⟩
  have hy1 := hle' y _ hy
  refine s_seq ?_
  refine s_seq ?_
  refine s_region ?_
  refine o_q (q_mv (v_raw rfl)) rfl rfl rfl ?_
  refine o_q (q_mv (mvQ)) rfl rfl rfl ?_
  refine o_q (q_nil rfl) rfl rfl rfl ?_
  refine o_q (q_fr fo44_4 rfl) rfl rfl rfl ?_
  refine o_q (q_ldm ag35 sz35 rfl mmQ rfl (v_sl rfl)) rfl rfl rfl ?_
  refine o_q (q_len rfl und35 rfl) rfl rfl rfl ?_
  refine o_q (q_lss rfl rfl) rfl rfl rfl ?_
  refine o_nil ?_
  refine s_cond rfl (fun h2 => ?_) (fun h2 => ?_)
  ·have k2 := h2; try simp only [decide_eq_true_eq, decide_eq_false_iff_not, Bool.not_eq_true', Bool.not_eq_false', Bool.not_true, Bool.not_false, List.length_map, Decidable.not_not] at k2
   have hi2 : i < x.recs.length := by omega
   obtain ⟨hr1, hr2, hr3, hr4, hr5⟩ := hok.rc _ (List.getElem_mem hi2)
   refine s_skip ?_
   refine s_seq ?_
   refine s_block ?_
   refine s_seq ?_
   refine s_region ?_
   refine o_q (q_mv (mvQ)) rfl rfl rfl ?_
   refine o_q (q_nil rfl) rfl rfl rfl ?_
   refine o_q (q_fr fo44_4 rfl) rfl rfl rfl ?_
   refine o_q (q_ldm ag35 sz35 rfl mmQ rfl (v_sl rfl)) rfl rfl rfl ?_
   refine o_q (q_mv (v_raw rfl)) rfl rfl rfl ?_
   refine o_q (q_idx und35 sz39 rfl rfl (by omega) (gm i (by first | omega | simp)) rfl) rfl rfl rfl ?_
   refine o_q (q_lde ag39 sz39 rfl (gm i (by first | omega | simp)) rfl rfl) rfl rfl rfl ?_
   refine o_alloc zc39 (fun B2 hB2 => ?_)
   have ny1 : y ≠ B2 := Mem.fresh_ne hB2 hy1
   have ny1b := ny1.symm
   refine o_storew rfl mmQ mfQ rfl sz39 rfl rfl rfl rfl ?_
   refine o_nil ?_
   refine s_draw rfl ?_
   refine d_qs rfl (q_mv_own rfl) rfl rfl rfl rfl ?_
   refine d_q rfl (q_fr fo39_0 rfl) rfl rfl rfl ?_
   refine d_q rfl (q_ldm ag3 sz3 rfl mmQ rfl (v_raw rfl)) rfl rfl rfl ?_
   refine d_q rfl (q_fr fo39_1 rfl) rfl rfl rfl ?_
   refine d_q rfl (q_ldm ag9 sz9 rfl mmQ rfl (v_raw rfl)) rfl rfl rfl ?_
   refine d_q rfl (q_fr fo39_2 rfl) rfl rfl rfl ?_
   refine d_q rfl (q_ldm ag3 sz3 rfl mmQ rfl (v_raw rfl)) rfl rfl rfl ?_
   refine d_q rfl (q_fr fo39_3 rfl) rfl rfl rfl ?_
   refine d_q rfl (q_ldm ag9 sz9 rfl mmQ rfl (v_raw rfl)) rfl rfl rfl ?_
   refine d_q rfl (q_fr fo39_4 rfl) rfl rfl rfl ?_
   refine d_q rfl (q_ldm ag9 sz9 rfl mmQ rfl (v_raw rfl)) rfl rfl rfl ?_
   refine d_s rfl ?_
   refine o_call (((snd61 x.recs[i].off hr1.1 hr1.2 _).det)) goes61 (ac (v_raw rfl) ac_nil) rfl ?_
   refine o_nil ⟨(by simp [Mem.upd, *]), ?_⟩
   refine d_s rfl ?_
   refine o_call (((snd60 x.recs[i].prod _).det)) goes60 (ac (v_raw rfl) ac_nil) rfl ?_
   refine o_nil ⟨(by simp [Mem.upd, *]), ?_⟩
   refine d_s rfl ?_
   refine o_call (((snd61 x.recs[i].seq hr3.1 hr3.2 _).det)) goes61 (ac (v_raw rfl) ac_nil) rfl ?_
   refine o_nil ⟨(by simp [Mem.upd, *]), ?_⟩
   refine d_s rfl ?_
   refine o_call (((snd60 x.recs[i].key _).det)) goes60 (ac (v_raw rfl) ac_nil) rfl ?_
   refine o_nil ⟨(by simp [Mem.upd, *]), ?_⟩
   refine d_s rfl ?_
   refine o_call (((snd60 x.recs[i].val _).det)) goes60 (ac (v_raw rfl) ac_nil) rfl ?_
   refine o_nil ⟨(by simp [Mem.upd, *]), ?_⟩
   refine d_q rfl (q_bs slt105 (pc (v_agg rfl) (pc (v_agg rfl) (pc (v_agg rfl) (pc (v_agg rfl) (pc (v_agg rfl) pn))))) rfl (Els.cons rfl rfl (Els.cons rfl rfl (Els.cons rfl rfl (Els.cons rfl rfl (Els.cons rfl rfl Els.nil))))) (by decide)) rfl rfl rfl ?_
   refine d_qs rfl (q_app slt105 rfl rfl rfl rfl elsIt (by repeat first | exact Els.nil | refine Els.cons rfl rfl ?_) (by simp; omega)) rfl rfl rfl rfl ?_
   refine d_qs rfl (q_as_own rfl) rfl rfl rfl rfl ?_
   refine d_nil ?_
   refine s_blk_normal ?_
   refine s_region ?_
   refine o_q (q_mv (v_raw rfl)) rfl rfl rfl ?_
   refine o_q (q_add rfl rfl (wrap64 (by omega) (by omega))) rfl rfl rfl ?_
   refine o_q (q_as (v_raw rfl)) rfl rfl rfl ?_
   refine o_nil ?_
   refine s_inv ?_
   exact ⟨x.recs.length - (i + 1), by omega, _, _, acc ++ recL x.recs[i], i + 1, St.mkT (kp (kp (kp rfl rfl) (congrArg (fun l => AVal.sl l true) (List.map_append (f := encIt) (l₁ := acc) (l₂ := recL x.recs[i])).symm)) rfl).symm, leU2 hle' hB2, (by rw [hacc, List.append_assoc, flat_take hi2]), (by rw [List.length_append, hal]; show _ + 5 = _; omega), by omega, rfl⟩
  ·have k2 := h2; try simp only [decide_eq_true_eq, decide_eq_false_iff_not, Bool.not_eq_true', Bool.not_eq_false', Bool.not_true, Bool.not_false, List.length_map, Decidable.not_not] at k2
   obtain rfl : i = x.recs.length := by omega
   refine s_exit ?_
   refine s_code_exit ?_
   refine s_inv_exit ?_
   refine s_blk_here ?_
   refine s_seq ?_
   refine s_region ?_
   refine o_q (q_mv (v_sl rfl)) rfl rfl rfl ?_
   refine o_call (((snd62 acc false (by omega) (by rw [hacc, List.take_length, ← hdl]; exact dumpL_ok hok) _).det)) goes62 (ac (v_sl rfl) ac_nil) rfl ?_
   refine o_q (q_mv (v_tup rfl)) rfl rfl rfl ?_
   refine o_q (q_ext rfl rfl (v_raw rfl)) rfl rfl rfl ?_
   refine o_q (q_ext rfl rfl (v_raw rfl)) rfl rfl rfl ?_
   refine o_q (q_as (v_raw rfl)) rfl rfl rfl ?_
   refine o_q (q_as (v_raw rfl)) rfl rfl rfl ?_
   refine o_nil ?_
   refine s_seq ?_
   refine s_region ?_
   refine o_q (q_mv (v_raw rfl)) rfl rfl rfl ?_
   refine o_q (q_as (v_raw rfl)) rfl rfl rfl ?_
   refine o_nil ?_
   refine s_ret ?_
   refine s_end ?_
   exact ⟨congrArg (fun l => str (encAll l)) (show acc = dumpL x by rw [hacc, List.take_length, hdl]), hle'⟩

end C17
