import Derived.Test.YticeppepdlgbhaaGreatDoorZy7
import Derived.Test.YticeppepdlgbhaaGreatDoorZy1
/-! The document's topic (chapter 15), walked. -/
open Go Go.Proofs Go.Am
set_option linter.unusedVariables false
set_option linter.unusedSimpArgs false
set_option autoImplicit false
namespace C17
theorem ag31 : aggT Tryz.prog 31 = some true := by kernel_rfl
theorem fo31_0 : fo Tryz.prog 31 0 = some (0, 1) := by kernel_rfl
theorem fo31_1 : fo Tryz.prog 31 1 = some (1, 1) := by kernel_rfl
theorem fo31_2 : fo Tryz.prog 31 2 = some (2, 1) := by kernel_rfl
theorem fo31_3 : fo Tryz.prog 31 3 = some (3, 1) := by kernel_rfl
theorem fo31_4 : fo Tryz.prog 31 4 = some (4, 1) := by kernel_rfl
theorem fo31_5 : fo Tryz.prog 31 5 = some (5, 1) := by kernel_rfl
theorem fo31_6 : fo Tryz.prog 31 6 = some (6, 1) := by kernel_rfl
theorem sz31 : sizeT Tryz.prog 31 = some 7 := by kernel_rfl
theorem und22 : Tryz.prog.underlying 22 = some (.slice 31) := by kernel_rfl
theorem zc31 : zeroCellsT Tryz.prog 31 = some [.raw (.int .i64 0), .raw (.string { data := #[] }), .raw (.int .i64 0), .raw (.string { data := #[] }), .raw (.string { data := #[] }), .raw (.int .i64 0), .raw (.int .i64 0)] := by kernel_rfl
def tk3b : Nat → Nat → Option Nat := fun _ _ => none
def pl3b : Nat → List PStep
 | 32 => [.q 0, .q 1, .q 2, .q 4, .q 5, .q 6, .s 3 [6, 5, 4, 1], .s 7 [5, 2, 1, 0], .q 8, .q 9]
 | 34 => [.q 0, .q 1, .q 2, .q 4, .q 5, .q 6, .s 3 [6, 5, 4, 1], .s 7 [5, 2, 1, 0], .q 8, .q 9]
 | 35 => [.q 0, .q 1, .q 2, .q 3, .q 5, .q 6, .q 7, .q 8, .s 4 [8, 7, 6, 5, 1, 0], .q 9, .q 10, .q 11, .q 12, .q 14, .q 15, .q 16, .q 17, .s 13 [17, 16, 15, 14, 10, 9, 8, 7, 6, 5, 3, 2, 1, 0], .q 18, .q 19, .q 20, .q 21, .q 23, .q 24, .q 25, .q 26, .s 22 [26, 25, 24, 23, 19, 18, 17, 16, 15, 14, 12, 11, 10, 9, 8, 7, 6, 5, 3, 2, 1, 0], .q 27, .q 28]
 | _ => []
theorem cb3b : Tryz.f3.body.map (codeB Tryz.prog Tryz.f3.ntmps tk3b pl3b) = some true := by kernel_rfl
set_option maxHeartbeats 4000000 in
set_option maxRecDepth 20000 in
theorem snd3b (ge : TypeId) (gf : Nat × Nat) (nm : ByteArray) (ds : List BDe) (o : Bool) (M : Mem) (hG : M 0 = some (szO ge gf)) (hs : nm.size < 2 ^ 63) (hdl : ds.length < 2 ^ 60) (hds : ∀ d ∈ ds, (-2 ^ 63 ≤ d.kind ∧ d.kind < 2 ^ 63) ∧ d.prod.size < 2 ^ 63) (hw : word nm = true) : SoundCall Tryz.prog 3 [str nm, .sl (ds.map encBD) o] M fun r M' => r = bool true ∧ M.le M' := by
 have hlm : (ds.map encBD).length = ds.length := List.length_map _
 refine SoundCall.go tk3b pl3b mixed Tryz.func3 cb3b rfl (Nat.le_of_ble_eq_true rfl) ?_
 refine s_seq ?_
 refine s_region ?_
 refine o_q (q_as (v_raw rfl)) rfl rfl rfl ?_
 refine o_nil ?_
 refine s_seq ?_
 refine s_region ?_
 refine o_call (((snd8 _).det)) goes8 ac_nil rfl ?_
 refine o_q (q_as (v_raw rfl)) rfl rfl rfl ?_
 refine o_nil ?_
 refine s_seq ?_
 refine s_region ?_
 refine o_q (q_mv (v_raw rfl)) rfl rfl rfl ?_
 refine o_callx ((newT nm _ hw)) goes9 (ac (v_raw rfl) ac_nil) rfl ?_
 rintro r M1 ⟨u0, v0, nu0, nv0, huv0, rfl, rfl⟩
 refine o_q (q_mv (v_tup rfl)) rfl rfl rfl ?_
 refine o_q (q_ext rfl rfl (mvQ)) rfl rfl rfl ?_
 refine o_q (q_ext rfl rfl (v_raw rfl)) rfl rfl rfl ?_
 refine o_q (q_as (mvQ)) rfl rfl rfl ?_
 refine o_q (q_as (v_raw rfl)) rfl rfl rfl ?_
 refine o_nil ?_
 refine s_seq ?_
 refine s_region ?_
 refine o_q (q_mv (v_raw rfl)) rfl rfl rfl ?_
 refine o_callx ((newD _ hw hs)) goes10 (ac (v_raw rfl) ac_nil) rfl ?_
 rintro r M2 ⟨y, ny0, rfl, rfl⟩
 have hvu0 := huv0.symm
 have huy0 : u0 ≠ y := fun e => by rw [← e] at ny0; exact absurd ((Mem.upd_self _ _ _).symm.trans ny0) (by simp)
 have hvy0 : v0 ≠ y := fun e => by rw [← e] at ny0; exact absurd (((upd_other hvu0).trans (Mem.upd_self _ _ _)).symm.trans ny0) (by simp)
 have hl0 : M.le (setTp M u0 v0 ⟨nm, 0, 0, [], []⟩) := leN (leN (Mem.le_refl M) nv0) nu0
 have ny := Mem.none_of_le hl0 ny0
 have hk0 : ksL (⟨nm, 0, 0, [], []⟩ : Tp) = [] := ksL_eq (x := ⟨nm, 0, 0, [], []⟩) List.nodup_nil List.Pairwise.nil fun q => rfl
 refine o_q (q_as (mvQ)) rfl rfl rfl ?_
 refine o_nil ?_
 refine s_seq ?_
 refine s_seq ?_
 refine s_region ?_
 refine o_q (q_mv (mvQ)) rfl rfl rfl ?_
 refine o_q (q_peql und28 rfl rfl) rfl rfl rfl ?_
 refine o_nil ?_
 refine s_else rfl rfl ?_
 refine s_skip ?_
 refine s_seq ?_
 refine s_seq ?_
 refine s_region ?_
 refine o_q (q_mv (mvQ)) rfl rfl rfl ?_
 refine o_q (q_peql und24 rfl rfl) rfl rfl rfl ?_
 refine o_q (q_mv (v_raw rfl)) rfl rfl rfl ?_
 refine o_g (G := true) rfl rfl rfl rfl rfl (fun hG hc => (q_mv (v_raw rfl))) ?_
 refine o_g (G := true) rfl rfl rfl rfl rfl (fun hG hc => (q_neq (gv_on (gv_and hG hc) rfl) rfl)) ?_
 refine o_q (q_por (c := _) (b := _) rfl rfl rfl) rfl rfl rfl ?_
 refine o_nil ?_
 refine s_cond rfl (fun h1 => ?_) (fun h1 => ?_)
 ·have k1 := h1; try simp only [decide_eq_true_eq, decide_eq_false_iff_not, Bool.not_eq_true', Bool.not_eq_false', Bool.not_true, Bool.not_false, List.length_map, Decidable.not_not] at k1
  first | exact absurd h1 (by decide) | (simp at h1; done) | (simp at h1; omega)
 ·have k1 := h1; try simp only [decide_eq_true_eq, decide_eq_false_iff_not, Bool.not_eq_true', Bool.not_eq_false', Bool.not_true, Bool.not_false, List.length_map, Decidable.not_not] at k1
  refine s_skip ?_
  refine s_seq ?_
  refine s_seq ?_
  refine s_region ?_
  refine o_q (q_as (v_raw rfl)) rfl rfl rfl ?_
  refine o_nil ?_
  refine s_block ?_
  refine s_loop (fun m S => ∃ T, ∃ M' : Mem, ∃ u v : Nat, ∃ x : Tp, ∃ i : Nat, ∃ q1 q2 : Bool, S = ⟨setT (setT (setT (setT (setT T 1 (.sl (ds.map encBD) o)) 5 (bool true)) 6 (ptr u)) 8 (ptr y)) 9 (int (i : Nat)), M'⟩ ∧ M' u = some (.cells (tpC v x)) ∧ M' v = some (tpK x) ∧ M' y = some (.cells (ryC x (ksL x) q1 q2)) ∧ (u ≠ v ∧ u ≠ y ∧ v ≠ y) ∧ (M u = none ∧ M v = none) ∧ BackOk i x ∧ M.le M' ∧ i ≤ ds.length ∧ i ≤ 80 ∧ m = ds.length - i) ds.length ?_ ?_
  ·exact ⟨_, _, u0, v0, ⟨nm, 0, 0, [], []⟩, 0, true, true, St.mkT (kp (kp (kp (kp (kp rfl rfl) rfl) rfl) rfl) rfl).symm, (upd_other huy0).trans (Mem.upd_self _ _ _), (upd_other hvy0).trans ((upd_other hvu0).trans (Mem.upd_self _ _ _)), (by rw [hk0]; exact Mem.upd_self _ _ _), ⟨huv0, huy0, hvy0⟩, ⟨nu0, nv0⟩, back_new hw, leN hl0 ny, by omega, by omega, rfl⟩
  rintro m S ⟨T, M', u, v, x, i, q1, q2, rfl, hu, hv, hy, ⟨huv, huy, hvy⟩, ⟨nu, nv⟩, hB, hle, hi, hi80b, rfl⟩
  have hvu := huv.symm
  have hyu := huy.symm
  have hyv := hvy.symm
  have hG1 := hle 0 _ hG
  refine s_seq ?_
  refine s_seq ?_
  refine s_region ?_
  refine o_q (q_mv (v_raw rfl)) rfl rfl rfl ?_
  refine o_q (q_mv (v_sl rfl)) rfl rfl rfl ?_
  refine o_q (q_len rfl und22 rfl) rfl rfl rfl ?_
  refine o_q (q_lss rfl rfl) rfl rfl rfl ?_
  refine o_q (q_mv (v_raw rfl)) rfl rfl rfl ?_
  refine o_g (G := true) rfl rfl rfl rfl rfl (fun hG hc => (q_mv (v_raw rfl))) ?_
  refine o_g (G := true) rfl rfl rfl rfl rfl (fun hG hc => (q_lss (gv_on (gv_and hG hc) rfl) rfl)) ?_
  refine o_q (q_pand (c := _) (b := _) rfl rfl rfl) rfl rfl rfl ?_
  refine o_nil ?_
  refine s_cond rfl (fun h2 => ?_) (fun h2 => ?_)
  ·have k2 := h2; try simp only [decide_eq_true_eq, decide_eq_false_iff_not, Bool.not_eq_true', Bool.not_eq_false', Bool.not_true, Bool.not_false, List.length_map, Decidable.not_not] at k2
   have hi2 : i < ds.length := by
    simp only [Bool.and_eq_true, decide_eq_true_eq, List.length_map] at h2
    omega
   have hi80 : i < 80 := by
    simp only [Bool.and_eq_true, decide_eq_true_eq, List.length_map] at h2
    omega
   obtain ⟨hkd, hpz⟩ := hds _ (List.getElem_mem hi2)
   have hen := hB.ok.low
   have hen2 := hB.en
   have hrn := hB.rn
   have hkn := hB.kn
   have hkl := ksL_len x
   refine s_skip ?_
   refine s_seq ?_
   refine s_block ?_
   refine s_seq ?_
   refine s_region ?_
   refine o_q (q_mv (v_sl rfl)) rfl rfl rfl ?_
   refine o_q (q_mv (v_raw rfl)) rfl rfl rfl ?_
   refine o_q (q_idx und22 sz31 rfl rfl (by omega) (gm i (by first | omega | simp)) rfl) rfl rfl rfl ?_
   refine o_q (q_lde ag31 sz31 rfl (gm i (by first | omega | simp)) rfl rfl) rfl rfl rfl ?_
   refine o_alloc zc31 (fun B1 hB1 => ?_)
   have cu : u ≠ B1 := Mem.fresh_ne hB1 hu
   have cv : v ≠ B1 := Mem.fresh_ne hB1 hv
   have cy : y ≠ B1 := Mem.fresh_ne hB1 hy
   have cub := cu.symm
   have cvb := cv.symm
   have cyb := cy.symm
   have nB := Mem.none_of_le hle hB1
   refine o_storew rfl mmQ mfQ rfl sz31 rfl rfl rfl rfl ?_
   refine o_nil ?_
   refine s_seq ?_
   refine s_region ?_
   refine o_q (q_as (v_raw rfl)) rfl rfl rfl ?_
   refine o_nil ?_
   refine s_seq ?_
   refine s_seq ?_
   refine s_region ?_
   refine o_q (q_fr fo31_0 rfl) rfl rfl rfl ?_
   refine o_q (q_ldm ag3 sz3 rfl mmQ rfl (v_raw rfl)) rfl rfl rfl ?_
   refine o_call ((snd11 ds[i].kind 5 _ (by omega) (by omega) hkd)) goes11 (ac (v_raw rfl) (ac (v_raw rfl) ac_nil)) rfl ?_
   refine o_nil ?_
   refine s_cut (fun S => ∃ T, ∃ M2 : Mem, ∃ u2 v2 : Nat, ∃ x2 : Tp, ∃ p1 p2 : Bool, S = ⟨setT (setT (setT (setT (setT (setT T 1 (.sl (ds.map encBD) o)) 5 (bool true)) 6 (ptr u2)) 8 (ptr y)) 9 (int (i : Nat))) 11 (bool true), M2⟩ ∧ M2 u2 = some (.cells (tpC v2 x2)) ∧ M2 v2 = some (tpK x2) ∧ M2 y = some (.cells (ryC x2 (ksL x2) p1 p2)) ∧ (u2 ≠ v2 ∧ u2 ≠ y ∧ v2 ≠ y) ∧ (M u2 = none ∧ M v2 = none) ∧ BackOk (i + 1) x2 ∧ M.le M2) ?_ ?_
   ·skip
    refine s_block ?_
    refine s_seq ?_
    refine s_region ?_
    refine o_q (q_eql rfl rfl) rfl rfl rfl ?_
    refine o_q (q_as (v_raw rfl)) rfl rfl rfl ?_
    refine o_nil ?_
    refine s_cond rfl (fun h3 => ?_) (fun h3 => ?_)
    ·have k3 := h3; try simp only [decide_eq_true_eq, decide_eq_false_iff_not, Bool.not_eq_true', Bool.not_eq_false', Bool.not_true, Bool.not_false, List.length_map, Decidable.not_not] at k3
     refine s_seq ?_
     refine s_region ?_
     refine o_q (q_mv (mvQ)) rfl rfl rfl ?_
     refine o_q (q_fr fo31_1 rfl) rfl rfl rfl ?_
     refine o_q (q_ldm ag9 sz9 rfl mmQ rfl (v_raw rfl)) rfl rfl rfl ?_
     refine o_q (q_fr fo31_2 rfl) rfl rfl rfl ?_
     refine o_q (q_ldm ag3 sz3 rfl mmQ rfl (v_raw rfl)) rfl rfl rfl ?_
     refine o_q (q_fr fo31_3 rfl) rfl rfl rfl ?_
     refine o_q (q_ldm ag9 sz9 rfl mmQ rfl (v_raw rfl)) rfl rfl rfl ?_
     refine o_q (q_fr fo31_4 rfl) rfl rfl rfl ?_
     refine o_q (q_ldm ag9 sz9 rfl mmQ rfl (v_raw rfl)) rfl rfl rfl ?_
     refine o_callx ((pub14 u v x ds[i].prod ds[i].seq ds[i].key ds[i].val _ mmQ mmQ huv ⟨by omega, by omega⟩ (by omega))) goes12 (ac (mvQ) (ac (v_raw rfl) (ac (v_raw rfl) (ac (v_raw rfl) (ac (v_raw rfl) ac_nil))))) rfl ?_
     rintro r M2 ⟨rfl, rfl⟩
     refine o_q (q_mv (v_tup rfl)) rfl rfl rfl ?_
     refine o_q (q_ext rfl rfl (v_raw rfl)) rfl rfl rfl ?_
     refine o_q (q_ext rfl rfl (v_raw rfl)) rfl rfl rfl ?_
     refine o_q (q_as (v_raw rfl)) rfl rfl rfl ?_
     refine o_q (q_as (v_raw rfl)) rfl rfl rfl ?_
     refine o_nil ?_
     refine s_seq ?_
     refine s_region ?_
     refine o_q (q_mv (mvQ)) rfl rfl rfl ?_
     refine o_q (q_fr fo31_1 rfl) rfl rfl rfl ?_
     refine o_q (q_ldm ag9 sz9 rfl mmQ rfl (v_raw rfl)) rfl rfl rfl ?_
     refine o_q (q_fr fo31_2 rfl) rfl rfl rfl ?_
     refine o_q (q_ldm ag3 sz3 rfl mmQ rfl (v_raw rfl)) rfl rfl rfl ?_
     refine o_q (q_fr fo31_3 rfl) rfl rfl rfl ?_
     refine o_q (q_ldm ag9 sz9 rfl mmQ rfl (v_raw rfl)) rfl rfl rfl ?_
     refine o_q (q_fr fo31_4 rfl) rfl rfl rfl ?_
     refine o_q (q_ldm ag9 sz9 rfl mmQ rfl (v_raw rfl)) rfl rfl rfl ?_
     refine o_callx ((pubD (y := y) (x := x) (o1 := q1) (o2 := q2) mmQ hB.ok ⟨by omega, by omega⟩ (by omega) (by omega) hpz)) goes13 (ac (mvQ) (ac (v_raw rfl) (ac (v_raw rfl) (ac (v_raw rfl) (ac (v_raw rfl) ac_nil))))) rfl ?_
     rintro r M3 ⟨p1, p2, rfl, rfl⟩
     refine o_q (q_mv (v_tup rfl)) rfl rfl rfl ?_
     refine o_q (q_ext rfl rfl (v_raw rfl)) rfl rfl rfl ?_
     refine o_q (q_ext rfl rfl (v_raw rfl)) rfl rfl rfl ?_
     refine o_q (q_as (v_raw rfl)) rfl rfl rfl ?_
     refine o_q (q_as (v_raw rfl)) rfl rfl rfl ?_
     refine o_nil ?_
     refine s_region ?_
     refine o_q (q_mv (v_raw rfl)) rfl rfl rfl ?_
     refine o_q (q_mv (v_raw rfl)) rfl rfl rfl ?_
     refine o_q (q_eql rfl rfl) rfl rfl rfl ?_
     refine o_q (q_mv (v_raw rfl)) rfl rfl rfl ?_
     refine o_g (G := true) rfl rfl rfl rfl rfl (fun hG hc => (q_mv (v_raw rfl))) ?_
     refine o_g (G := true) rfl rfl rfl rfl rfl (fun hG hc => (q_mv (v_raw rfl))) ?_
     refine o_g (G := true) rfl rfl rfl rfl rfl (fun hG hc => (q_eql (gv_on (gv_and hG hc) rfl) (gv_on (gv_and hG hc) rfl))) ?_
     refine o_q (q_pand (c := _) (b := _) rfl rfl rfl) rfl rfl rfl ?_
     refine o_q (q_as (v_raw rfl)) rfl rfl rfl ?_
     refine o_nil ?_
     refine s_blk_normal ?_
     refine s_inv ?_
     exact ⟨_, _, u, v, (pub x ds[i].prod ds[i].seq ds[i].key ds[i].val).1, p1, p2, St.mkT (kp (kp (kp (kp (kp (kp rfl rfl) rfl) rfl) rfl) rfl) (congrArg bool (by simp))).symm, mmQ, mmQ, mmQ, ⟨huv, huy, hvy⟩, ⟨nu, nv⟩, back_pub hB (by omega) _ _ _ _, (leN (leN (leN (leU2 hle hB1) nv) nu) ny)⟩
    ·have k3 := h3; try simp only [decide_eq_true_eq, decide_eq_false_iff_not, Bool.not_eq_true', Bool.not_eq_false', Bool.not_true, Bool.not_false, List.length_map, Decidable.not_not] at k3
     refine s_seq ?_
     refine s_region ?_
     refine o_q (q_eql rfl rfl) rfl rfl rfl ?_
     refine o_q (q_as (v_raw rfl)) rfl rfl rfl ?_
     refine o_nil ?_
     refine s_cond rfl (fun h4 => ?_) (fun h4 => ?_)
     ·have k4 := h4; try simp only [decide_eq_true_eq, decide_eq_false_iff_not, Bool.not_eq_true', Bool.not_eq_false', Bool.not_true, Bool.not_false, List.length_map, Decidable.not_not] at k4
      refine s_seq ?_
      refine s_region ?_
      refine o_q (q_mv (mvQ)) rfl rfl rfl ?_
      refine o_q (q_fr fo31_5 rfl) rfl rfl rfl ?_
      refine o_q (q_ldm ag3 sz3 rfl mmQ rfl (v_raw rfl)) rfl rfl rfl ?_
      refine o_q (q_fr fo31_6 rfl) rfl rfl rfl ?_
      refine o_q (q_ldm ag3 sz3 rfl mmQ rfl (v_raw rfl)) rfl rfl rfl ?_
      refine o_callx ((snd14r u v x ds[i].n ds[i].most _ mmQ hB.ok.so (by omega))) goes14 (ac (mvQ) (ac (v_raw rfl) (ac (v_raw rfl) ac_nil))) rfl ?_
      rintro r M2 ⟨base, c, rfl, hF⟩
      obtain ⟨M1, hF, hl1, hb1, hu1, hv1, hy1⟩ : ∃ M1, FrW enc zR M1 M2 base c (readL x.recs ds[i].n ds[i].most) ∧ M.le M1 ∧ M1 B1 = some (AObj.cells [int ds[i].kind, str ds[i].prod, int ds[i].seq, str ds[i].key, str ds[i].val, int ds[i].n, int ds[i].most]) ∧ M1 u = some (AObj.cells (tpC v x)) ∧ M1 v = some (tpK x) ∧ M1 y = some (AObj.cells (ryC x (ksL x) q1 q2)) := ⟨_, hF, leU2 hle hB1, Mem.upd_self _ _ _, Mem.upd_ne cu (Mem.upd_ne cu hu), Mem.upd_ne cv (Mem.upd_ne cv hv), Mem.upd_ne cy (Mem.upd_ne cy hy)⟩
      have hcl0 := clr_of hF
      have hy2 := hF.le y _ hy1
      have hb2 := hF.le B1 _ hb1
      have hrl := readL_len x.recs ds[i].n ds[i].most
      refine o_q (q_as (v_raw rfl)) rfl rfl rfl ?_
      refine o_nil ?_
      refine s_seq ?_
      refine s_region ?_
      refine o_q (q_mv (v_raw rfl)) rfl rfl rfl ?_
      refine o_q (q_mv (mvQ)) rfl rfl rfl ?_
      refine o_q (q_fr fo31_5 rfl) rfl rfl rfl ?_
      refine o_q (q_ldm ag3 sz3 rfl mmQ rfl (v_raw rfl)) rfl rfl rfl ?_
      refine o_q (q_fr fo31_6 rfl) rfl rfl rfl ?_
      refine o_q (q_ldm ag3 sz3 rfl mmQ rfl (v_raw rfl)) rfl rfl rfl ?_
      refine o_call ((readD (y := y) (P := ksL x) (by omega) hB.ok.so hy2)) goes16 (ac (mvQ) (ac (v_raw rfl) (ac (v_raw rfl) ac_nil))) rfl ?_
      refine o_call ((snd15r (readL x.recs ds[i].n ds[i].most) _ base c _ _ hF (by have := readL_len x.recs ds[i].n ds[i].most; omega))) goes15 (ac (v_raw rfl) (ac (v_sl rfl) ac_nil)) rfl ?_
      refine o_q (q_as (v_raw rfl)) rfl rfl rfl ?_
      refine o_nil ?_
      refine s_seq ?_
      refine s_region ?_
      refine o_q (q_as (v_raw rfl)) rfl rfl rfl ?_
      refine o_nil ?_
      refine s_block ?_
      refine s_loop (fun m S => ∃ T, ∃ M4 : Mem, ∃ k : Nat, S = ⟨setT (setT (setT (setT (setT (setT (setT (setT T 1 (.sl (ds.map encBD) o)) 5 (bool true)) 6 (ptr u)) 8 (ptr y)) 9 (int (i : Nat))) 11 (bool true)) 16 (.raw (.slice base (readL x.recs ds[i].n ds[i].most).length c))) 17 (int (k : Nat)), M4⟩ ∧ ClrAt M1 M4 base (readL x.recs ds[i].n ds[i].most).length ∧ k ≤ (readL x.recs ds[i].n ds[i].most).length ∧ m = (readL x.recs ds[i].n ds[i].most).length - k) (readL x.recs ds[i].n ds[i].most).length ?_ ?_
      ·exact ⟨_, _, 0, St.mkT (kp (kp (kp (kp (kp (kp (kp (kp rfl rfl) rfl) rfl) rfl) rfl) rfl) rfl) rfl).symm, hcl0, by omega, rfl⟩
      rintro m S ⟨T, M4, k, rfl, hcl, hk, rfl⟩
      refine s_seq ?_
      refine s_seq ?_
      refine s_region ?_
      refine o_q (q_mv (v_raw rfl)) rfl rfl rfl ?_
      refine o_q (q_mv (v_raw rfl)) rfl rfl rfl ?_
      refine o_q (q_lenr rfl und35 rfl) rfl rfl rfl ?_
      refine o_q (q_lss rfl rfl) rfl rfl rfl ?_
      refine o_nil ?_
      refine s_cond rfl (fun h5 => ?_) (fun h5 => ?_)
      ·have k5 := h5; try simp only [decide_eq_true_eq, decide_eq_false_iff_not, Bool.not_eq_true', Bool.not_eq_false', Bool.not_true, Bool.not_false, List.length_map, Decidable.not_not] at k5
       obtain ⟨b, C, kk, rfl, hb0, hC, rfl⟩ : ∃ b C kk, base = some ⟨b, 0, none⟩ ∧ M1 b = none ∧ C.length = ((readL x.recs ds[i].n ds[i].most).length + kk) * 5 ∧ M4 = M1.upd b (.cells C) := by
        rcases hcl with ⟨h0, -⟩ | h1
        ·omega
        ·exact h1
       refine s_skip ?_
       refine s_seq ?_
       refine s_block ?_
       refine s_region ?_
       refine o_q (q_mv (v_raw rfl)) rfl rfl rfl ?_
       refine o_q (q_mv (v_raw rfl)) rfl rfl rfl ?_
       refine o_q (q_b (cs := [.raw (.int .i64 0), .raw (.string { data := #[] }), .raw (.int .i64 0), .raw (.string { data := #[] }), .raw (.string { data := #[] })]) bz39 bp39 bf_nil) rfl rfl rfl ?_
       refine o_q (q_idxr und35 sz39 rfl rfl (by omega) (by omega)) rfl rfl rfl ?_
       refine o_store rfl (Mem.upd_self _ _ _) (e_agg rfl) rfl sz39 rfl (by show 0 + ((k : Int)).toNat * 5 + 5 ≤ C.length; omega) rfl rfl ?_
       refine o_nil ?_
       refine s_blk_normal ?_
       refine s_region ?_
       refine o_q (q_mv (v_raw rfl)) rfl rfl rfl ?_
       refine o_q (q_add rfl rfl (wrap64 (by omega) (by omega))) rfl rfl rfl ?_
       refine o_q (q_as (v_raw rfl)) rfl rfl rfl ?_
       refine o_nil ?_
       refine s_inv ?_
       exact ⟨(readL x.recs ds[i].n ds[i].most).length - (k + 1), by omega, _, _, k + 1, St.mkT (kp (kp (kp (kp (kp (kp (kp (kp rfl rfl) rfl) rfl) rfl) rfl) rfl) rfl) rfl).symm, clr_store hb0 hC (by omega) rfl, by omega, rfl⟩
      ·have k5 := h5; try simp only [decide_eq_true_eq, decide_eq_false_iff_not, Bool.not_eq_true', Bool.not_eq_false', Bool.not_true, Bool.not_false, List.length_map, Decidable.not_not] at k5
       refine s_exit ?_
       refine s_code_exit ?_
       refine s_inv_exit ?_
       refine s_blk_here ?_
       refine s_blk_normal ?_
       refine s_inv ?_
       have hle4 := hcl.le
       exact ⟨_, _, u, v, x, q1, q2, St.mkT (kp (kp (kp (kp (kp (kp rfl rfl) rfl) rfl) rfl) rfl) rfl).symm, hle4 u _ hu1, hle4 v _ hv1, hle4 y _ hy1, ⟨huv, huy, hvy⟩, ⟨nu, nv⟩, hB.mono (by omega), (fun c0 o0 h0 => hle4 c0 o0 (hl1 c0 o0 h0))⟩
     ·have k4 := h4; try simp only [decide_eq_true_eq, decide_eq_false_iff_not, Bool.not_eq_true', Bool.not_eq_false', Bool.not_true, Bool.not_false, List.length_map, Decidable.not_not] at k4
      refine s_seq ?_
      refine s_region ?_
      refine o_q (q_eql rfl rfl) rfl rfl rfl ?_
      refine o_q (q_as (v_raw rfl)) rfl rfl rfl ?_
      refine o_nil ?_
      refine s_cond rfl (fun h6 => ?_) (fun h6 => ?_)
      ·have k6 := h6; try simp only [decide_eq_true_eq, decide_eq_false_iff_not, Bool.not_eq_true', Bool.not_eq_false', Bool.not_true, Bool.not_false, List.length_map, Decidable.not_not] at k6
       refine s_draw rfl ?_
       refine d_q rfl (q_mv (mvQ)) rfl rfl rfl ?_
       refine d_q rfl (q_fr fo31_5 rfl) rfl rfl rfl ?_
       refine d_q rfl (q_ldm ag3 sz3 rfl mmQ rfl (v_raw rfl)) rfl rfl rfl ?_
       refine d_q rfl (q_mv (mvQ)) rfl rfl rfl ?_
       refine d_q rfl (q_fr fo31_5 rfl) rfl rfl rfl ?_
       refine d_q rfl (q_ldm ag3 sz3 rfl mmQ rfl (v_raw rfl)) rfl rfl rfl ?_
       refine d_s rfl ?_
       refine o_callx ((trimE (x := x) (y := (trimT x ds[i].n).1) (n := ds[i].n) (a := (trimT x ds[i].n).2) u v _ rfl mmQ mmQ huv hB.ok.so (by omega))) goes17 (ac (mvQ) (ac (v_raw rfl) ac_nil)) rfl ?_
       rintro r M2 ⟨rfl, rfl⟩
       refine o_nil ⟨(by simp [Mem.upd, *]), ?_⟩
       refine d_s rfl ?_
       refine o_callx ((trimD (y := y) (x := x) (P := ksL x) (o1 := q1) (o2 := q2) mmQ hB.ok.so (by omega))) goes18 (ac (mvQ) (ac (v_raw rfl) ac_nil)) rfl ?_
       rintro r M3 ⟨p1, p2, rfl, rfl⟩
       have hks := ksL_same (trim_kvs x ds[i].n)
       refine o_nil ⟨(by simp [Mem.upd, *]), ?_⟩
       refine d_q rfl (q_eql rfl rfl) rfl rfl rfl ?_
       refine d_q rfl (q_as (v_raw rfl)) rfl rfl rfl ?_
       refine d_nil ?_
       refine s_blk_normal ?_
       refine s_inv ?_
       exact ⟨_, _, u, v, (trimT x ds[i].n).1, p1, p2, St.mkT (kp (kp (kp (kp (kp (kp rfl rfl) rfl) rfl) rfl) rfl) (congrArg bool (by simp))).symm, mmQ, mmQ, (by rw [hks]; exact Mem.upd_self _ _ _), ⟨huv, huy, hvy⟩, ⟨nu, nv⟩, back_trim' (hB.mono (by omega)) _, (leN (leN (leN (leU2 hle hB1) nv) nu) ny)⟩
      ·have k6 := h6; try simp only [decide_eq_true_eq, decide_eq_false_iff_not, Bool.not_eq_true', Bool.not_eq_false', Bool.not_true, Bool.not_false, List.length_map, Decidable.not_not] at k6
       refine s_seq ?_
       refine s_region ?_
       refine o_q (q_eql rfl rfl) rfl rfl rfl ?_
       refine o_q (q_as (v_raw rfl)) rfl rfl rfl ?_
       refine o_nil ?_
       refine s_cond rfl (fun h7 => ?_) (fun h7 => ?_)
       ·have k7 := h7; try simp only [decide_eq_true_eq, decide_eq_false_iff_not, Bool.not_eq_true', Bool.not_eq_false', Bool.not_true, Bool.not_false, List.length_map, Decidable.not_not] at k7
        refine s_draw rfl ?_
        refine d_q rfl (q_mv (mvQ)) rfl rfl rfl ?_
        refine d_q rfl (q_fr fo31_5 rfl) rfl rfl rfl ?_
        refine d_q rfl (q_ldm ag3 sz3 rfl mmQ rfl (v_raw rfl)) rfl rfl rfl ?_
        refine d_q rfl (q_mv (mvQ)) rfl rfl rfl ?_
        refine d_q rfl (q_fr fo31_5 rfl) rfl rfl rfl ?_
        refine d_q rfl (q_ldm ag3 sz3 rfl mmQ rfl (v_raw rfl)) rfl rfl rfl ?_
        refine d_s rfl ?_
        refine o_callx ((compE (x := x) (y := compT x ds[i].n) (n := ds[i].n) u v _ rfl mmQ mmQ huv (by omega))) goes19 (ac (mvQ) (ac (v_raw rfl) ac_nil)) rfl ?_
        rintro r M2 ⟨rfl, rfl⟩
        refine o_nil ⟨(by simp [Mem.upd, *]), ?_⟩
        refine d_s rfl ?_
        refine o_callx ((compD (y := y) (x := x) (P := ksL x) (o1 := q1) (o2 := q2) mmQ (by omega))) goes20 (ac (mvQ) (ac (v_raw rfl) ac_nil)) rfl ?_
        rintro r M3 ⟨p1, p2, rfl, rfl⟩
        refine o_nil ⟨(by simp [Mem.upd, *]), ?_⟩
        refine d_q rfl (q_eql rfl rfl) rfl rfl rfl ?_
        refine d_q rfl (q_as (v_raw rfl)) rfl rfl rfl ?_
        refine d_nil ?_
        refine s_blk_normal ?_
        refine s_inv ?_
        exact ⟨_, _, u, v, (compT x ds[i].n), p1, p2, St.mkT (kp (kp (kp (kp (kp (kp rfl rfl) rfl) rfl) rfl) rfl) rfl).symm, mmQ, mmQ, Mem.upd_self _ _ _, ⟨huv, huy, hvy⟩, ⟨nu, nv⟩, back_comp (hB.mono (by omega)) _, (leN (leN (leN (leU2 hle hB1) nv) nu) ny)⟩
       ·have k7 := h7; try simp only [decide_eq_true_eq, decide_eq_false_iff_not, Bool.not_eq_true', Bool.not_eq_false', Bool.not_true, Bool.not_false, List.length_map, Decidable.not_not] at k7
        refine s_seq ?_
        refine s_region ?_
        refine o_q (q_mv (mvQ)) rfl rfl rfl ?_
        refine o_call (((snd21 u v x ge gf _ mmQ mmQ huv (by repeat first | exact hG1 | refine Mem.upd_ne (Mem.ne_none hG1 hB1) ?_) (back_dump hB (by omega))).det)) goes21 (ac (mvQ) ac_nil) rfl ?_
        refine o_q (q_as (v_raw rfl)) rfl rfl rfl ?_
        refine o_nil ?_
        refine s_seq ?_
        refine s_region ?_
        refine o_q (q_mv (v_raw rfl)) rfl rfl rfl ?_
        refine o_callx ((loadE hB (by omega) ge gf _ (by repeat first | exact hG1 | refine Mem.upd_ne (Mem.ne_none hG1 hB1) ?_))) goes22 (ac (v_raw rfl) ac_nil) rfl ?_
        rintro r M2 ⟨u2, v2, nu2, nv2, huv2, rfl, rfl⟩
        have hvu2 := huv2.symm
        have nu3 := Mem.none_of_le (leU2 hle hB1) nu2
        have nv3 := Mem.none_of_le (leU2 hle hB1) nv2
        have huy2 : u2 ≠ y := fun e => by rw [e] at nu2; exact absurd (nu2.symm.trans (Mem.upd_ne cy (Mem.upd_ne cy hy))) (by simp)
        have hvy2 : v2 ≠ y := fun e => by rw [e] at nv2; exact absurd (nv2.symm.trans (Mem.upd_ne cy (Mem.upd_ne cy hy))) (by simp)
        have hyu2 := huy2.symm
        have hyv2 := hvy2.symm
        refine o_q (q_mv (v_tup rfl)) rfl rfl rfl ?_
        refine o_q (q_ext rfl rfl (mvQ)) rfl rfl rfl ?_
        refine o_q (q_ext rfl rfl (v_raw rfl)) rfl rfl rfl ?_
        refine o_q (q_as (mvQ)) rfl rfl rfl ?_
        refine o_q (q_as (v_raw rfl)) rfl rfl rfl ?_
        refine o_nil ?_
        refine s_seq ?_
        refine s_seq ?_
        refine s_region ?_
        refine o_q (q_mv (v_raw rfl)) rfl rfl rfl ?_
        refine o_q (q_mv (mvQ)) rfl rfl rfl ?_
        refine o_call (((snd23 y x q1 q2 _ (back_dump hB (by omega)) hB.ok mmQ).det)) goes23 (ac (mvQ) ac_nil) rfl ?_
        refine o_q (q_sneq rfl rfl) rfl rfl rfl ?_
        refine o_q (q_mv (v_raw rfl)) rfl rfl rfl ?_
        refine o_g (G := true) rfl rfl rfl rfl rfl (fun hG hc => (q_mv (v_raw rfl))) ?_
        refine o_g (G := true) rfl rfl rfl rfl rfl (fun hG hc => (q_sneq (gv_on (gv_and hG hc) rfl) rfl)) ?_
        refine o_g (G := true) rfl rfl rfl rfl rfl (fun hG hc => (q_mv (v_raw (gv_on (gv_and hG hc) rfl)))) ?_
        refine o_g rfl rfl rfl rfl rfl (fun hG hc => (q_mv (mvQ))) ?_
        refine o_g rfl rfl rfl rfl rfl (fun hG hc => (q_peql und24 (gv_on (gv_and hG hc) rfl) rfl)) ?_
        refine o_g rfl rfl rfl rfl rfl (fun hG hc => (q_mv (v_raw (gv_on (gv_and hG hc) rfl)))) ?_
        refine o_g rfl rfl rfl rfl rfl (fun hG hc => (q_mv (v_raw rfl))) ?_
        refine o_g rfl rfl rfl rfl rfl (fun hG hc => (q_neq (gv_on (gv_and hG hc) rfl) rfl)) ?_
        refine o_g rfl rfl rfl rfl rfl (fun hG hc => (q_por (c := _) (b := _) (gv_and hG hc) rfl rfl)) ?_
        refine o_g (G := true) rfl rfl rfl rfl rfl (fun hG hc => (q_pand (c := _) (b := _) (gv_and hG hc) rfl rfl)) ?_
        refine o_q (q_por (c := _) (b := _) rfl rfl rfl) rfl rfl rfl ?_
        refine o_nil ?_
        refine s_cond rfl (fun h8 => ?_) (fun h8 => ?_)
        ·have k8 := h8; try simp only [decide_eq_true_eq, decide_eq_false_iff_not, Bool.not_eq_true', Bool.not_eq_false', Bool.not_true, Bool.not_false, List.length_map, Decidable.not_not] at k8
         first | (simp at h8; done) | exact absurd h8 (by decide)
        ·have k8 := h8; try simp only [decide_eq_true_eq, decide_eq_false_iff_not, Bool.not_eq_true', Bool.not_eq_false', Bool.not_true, Bool.not_false, List.length_map, Decidable.not_not] at k8
         refine s_skip ?_
         refine s_seq ?_
         refine s_region ?_
         refine o_q (q_mv (v_raw rfl)) rfl rfl rfl ?_
         refine o_q (q_sneq rfl rfl) rfl rfl rfl ?_
         refine o_nil ?_
         refine s_cond rfl (fun h9 => ?_) (fun h9 => ?_)
         ·have k9 := h9; try simp only [decide_eq_true_eq, decide_eq_false_iff_not, Bool.not_eq_true', Bool.not_eq_false', Bool.not_true, Bool.not_false, List.length_map, Decidable.not_not] at k9
          refine s_region ?_
          refine o_q (q_mv (mvQ)) rfl rfl rfl ?_
          refine o_q (q_as (mvQ)) rfl rfl rfl ?_
          refine o_nil ?_
          refine s_blk_normal ?_
          refine s_inv ?_
          exact ⟨_, _, u2, v2, (loadX x), q1, q2, St.mkT (kp (kp (kp (kp (kp (kp rfl rfl) rfl) rfl) rfl) rfl) rfl).symm, Mem.upd_self _ _ _, mmQ, (by rw [ksL_load hB.ok.nd]; exact Mem.upd_ne hyu2 (Mem.upd_ne hyv2 (Mem.upd_ne cy (Mem.upd_ne cy hy)))), ⟨huv2, huy2, hvy2⟩, ⟨nu3, nv3⟩, back_load (hB.mono (by omega)), (leN (leN (leU2 hle hB1) nv3) nu3)⟩
         ·have k9 := h9; try simp only [decide_eq_true_eq, decide_eq_false_iff_not, Bool.not_eq_true', Bool.not_eq_false', Bool.not_true, Bool.not_false, List.length_map, Decidable.not_not] at k9
          exfalso
          exact dump_ne x (show encAll (dumpL x) = ({ data := #[] } : ByteArray) by simpa using h9)
   rintro S ⟨T, M2, u2, v2, x2, p1, p2, rfl, hu2, hv2, hy2, ⟨huv2, huy2, hvy2⟩, ⟨nu2, nv2⟩, hB2, hle2⟩
   refine s_seq ?_
   refine s_draw rfl ?_
   refine d_q rfl (q_mv (v_raw rfl)) rfl rfl rfl ?_
   refine d_q rfl (q_not rfl) rfl rfl rfl ?_
   refine d_q rfl (q_mv (v_raw rfl)) rfl rfl rfl ?_
   refine d_cases (want := false) (j := 2) rfl rfl (fun h10 => ?_) (fun h10 => ?_)
   ·have k10 := h10; try simp only [decide_eq_true_eq, decide_eq_false_iff_not, Bool.not_eq_true', Bool.not_eq_false', Bool.not_true, Bool.not_false, List.length_map, Decidable.not_not] at k10
    refine d_yes rfl (q_mv (mvQ)) rfl rfl rfl h10 rfl rfl ?_
    refine d_yes rfl (q_mv (mvQ)) rfl rfl rfl h10 rfl rfl ?_
    refine d_yes rfl (q_nil rfl) rfl rfl rfl h10 rfl rfl ?_
    refine d_yes rfl (q_fr fo44_0 rfl) rfl rfl rfl h10 rfl rfl ?_
    refine d_yes rfl (q_ldm ag9 sz9 rfl mmQ rfl (v_raw rfl)) rfl rfl rfl h10 rfl rfl ?_
    refine d_s rfl ?_
    refine o_yes rfl rfl rfl h10 ?_
    refine o_call (((snd24 u2 v2 x2 _ hu2 hv2 huv2).det)) goes24 (ac (mvQ) ac_nil) rfl ?_
    refine o_nil ⟨(by simp [Mem.upd, *]), ?_⟩
    refine d_yes rfl (q_sneq rfl rfl) rfl rfl rfl h10 rfl rfl ?_
    refine d_q rfl (q_pick_c (t := false) rfl h10 (v_raw rfl)) rfl rfl rfl ?_
    refine d_q rfl (q_mv (v_raw rfl)) rfl rfl rfl ?_
    refine d_cases (want := false) (j := 11) rfl rfl (fun h11 => ?_) (fun h11 => ?_)
    ·have k11 := h11; try simp only [decide_eq_true_eq, decide_eq_false_iff_not, Bool.not_eq_true', Bool.not_eq_false', Bool.not_true, Bool.not_false, List.length_map, Decidable.not_not] at k11
     refine d_yes rfl (q_mv (mvQ)) rfl rfl rfl h11 rfl rfl ?_
     refine d_yes rfl (q_mv (mvQ)) rfl rfl rfl h11 rfl rfl ?_
     refine d_yes rfl (q_nil rfl) rfl rfl rfl h11 rfl rfl ?_
     refine d_yes rfl (q_fr fo44_1 rfl) rfl rfl rfl h11 rfl rfl ?_
     refine d_yes rfl (q_ldm ag3 sz3 rfl mmQ rfl (v_raw rfl)) rfl rfl rfl h11 rfl rfl ?_
     refine d_s rfl ?_
     refine o_yes rfl rfl rfl h11 ?_
     refine o_call (((snd25 u2 v2 x2 _ hu2 hv2 huv2).det)) goes25 (ac (mvQ) ac_nil) rfl ?_
     refine o_nil ⟨(by simp [Mem.upd, *]), ?_⟩
     refine d_yes rfl (q_neq rfl rfl) rfl rfl rfl h11 rfl rfl ?_
     refine d_q rfl (q_pick_c (t := false) rfl h11 (v_raw rfl)) rfl rfl rfl ?_
     refine d_q rfl (q_mv (v_raw rfl)) rfl rfl rfl ?_
     refine d_cases (want := false) (j := 20) rfl rfl (fun h12 => ?_) (fun h12 => ?_)
     ·have k12 := h12; try simp only [decide_eq_true_eq, decide_eq_false_iff_not, Bool.not_eq_true', Bool.not_eq_false', Bool.not_true, Bool.not_false, List.length_map, Decidable.not_not] at k12
      refine d_yes rfl (q_mv (mvQ)) rfl rfl rfl h12 rfl rfl ?_
      refine d_yes rfl (q_mv (mvQ)) rfl rfl rfl h12 rfl rfl ?_
      refine d_yes rfl (q_nil rfl) rfl rfl rfl h12 rfl rfl ?_
      refine d_yes rfl (q_fr fo44_2 rfl) rfl rfl rfl h12 rfl rfl ?_
      refine d_yes rfl (q_ldm ag3 sz3 rfl mmQ rfl (v_raw rfl)) rfl rfl rfl h12 rfl rfl ?_
      refine d_s rfl ?_
      refine o_yes rfl rfl rfl h12 ?_
      refine o_call (((snd26 u2 v2 x2 _ hu2 hv2 huv2).det)) goes26 (ac (mvQ) ac_nil) rfl ?_
      refine o_nil ⟨(by simp [Mem.upd, *]), ?_⟩
      refine d_yes rfl (q_neq rfl rfl) rfl rfl rfl h12 rfl rfl ?_
      refine d_q rfl (q_pick_c (t := false) rfl h12 (v_raw rfl)) rfl rfl rfl ?_
      refine d_nil ?_
      refine s_cond rfl (fun h13 => ?_) (fun h13 => ?_)
      ·have k13 := h13; try simp only [decide_eq_true_eq, decide_eq_false_iff_not, Bool.not_eq_true', Bool.not_eq_false', Bool.not_true, Bool.not_false, List.length_map, Decidable.not_not] at k13
       first | exact absurd h13 (by decide) | (simp at h13; done) | (simp at h13; omega)
      ·have k13 := h13; try simp only [decide_eq_true_eq, decide_eq_false_iff_not, Bool.not_eq_true', Bool.not_eq_false', Bool.not_true, Bool.not_false, List.length_map, Decidable.not_not] at k13
       refine s_skip ?_
       refine s_blk_normal ?_
       refine s_region ?_
       refine o_q (q_mv (v_raw rfl)) rfl rfl rfl ?_
       refine o_q (q_add rfl rfl (wrap64 (by omega) (by omega))) rfl rfl rfl ?_
       refine o_q (q_as (v_raw rfl)) rfl rfl rfl ?_
       refine o_nil ?_
       refine s_inv ?_
       exact ⟨ds.length - (i + 1), by omega, _, _, u2, v2, x2, i + 1, p1, p2, St.mkT (kp (kp (kp (kp (kp rfl rfl) rfl) rfl) rfl) rfl).symm, hu2, hv2, hy2, ⟨huv2, huy2, hvy2⟩, ⟨nu2, nv2⟩, hB2, hle2, by omega, by omega, rfl⟩
     ·have k12 := h12; try simp only [decide_eq_true_eq, decide_eq_false_iff_not, Bool.not_eq_true', Bool.not_eq_false', Bool.not_true, Bool.not_false, List.length_map, Decidable.not_not] at k12
      first | exact absurd h12 (by decide) | (simp at h12; done) | (simp at h12; omega)
    ·have k11 := h11; try simp only [decide_eq_true_eq, decide_eq_false_iff_not, Bool.not_eq_true', Bool.not_eq_false', Bool.not_true, Bool.not_false, List.length_map, Decidable.not_not] at k11
     first | exact absurd h11 (by decide) | (simp at h11; done) | (simp at h11; omega)
   ·have k10 := h10; try simp only [decide_eq_true_eq, decide_eq_false_iff_not, Bool.not_eq_true', Bool.not_eq_false', Bool.not_true, Bool.not_false, List.length_map, Decidable.not_not] at k10
    first | exact absurd h10 (by decide) | (simp at h10; done) | (simp at h10; omega)
  ·have k2 := h2; try simp only [decide_eq_true_eq, decide_eq_false_iff_not, Bool.not_eq_true', Bool.not_eq_false', Bool.not_true, Bool.not_false, List.length_map, Decidable.not_not] at k2
   have hen := hB.ok.low
   have hen2 := hB.en
   have hrn := hB.rn
   refine s_exit ?_
   refine s_code_exit ?_
   refine s_inv_exit ?_
   refine s_blk_here ?_
   refine s_seq ?_
   refine s_region ?_
   refine o_q (q_mv (mvQ)) rfl rfl rfl ?_
   refine o_callx ((snd14r u v x 0 1000 _ hu hB.ok.so (by omega))) goes14 (ac (mvQ) (ac (v_raw rfl) (ac (v_raw rfl) ac_nil))) rfl ?_
   rintro r M2 ⟨base, c, rfl, hF⟩
   rw [read_all' hB.ok (by omega)] at hF ⊢
   have hy2 := hF.le y _ hy
   refine o_q (q_as (v_raw rfl)) rfl rfl rfl ?_
   refine o_nil ?_
   refine s_seq ?_
   refine s_region ?_
   refine o_q (q_mv (v_raw rfl)) rfl rfl rfl ?_
   refine o_q (q_mv (mvQ)) rfl rfl rfl ?_
   refine o_call ((readD0 (y := y) (P := ksL x) hB.ok (by omega) hy2)) goes16 (ac (mvQ) (ac (v_raw rfl) (ac (v_raw rfl) ac_nil))) rfl ?_
   refine o_call ((snd15r x.recs _ base c _ _ hF (by omega))) goes15 (ac (v_raw rfl) (ac (v_sl rfl) ac_nil)) rfl ?_
   refine o_q (q_as (v_raw rfl)) rfl rfl rfl ?_
   refine o_nil ?_
   refine s_seq ?_
   refine s_region ?_
   refine o_q (q_mv (v_raw rfl)) rfl rfl rfl ?_
   refine o_q (q_mv (v_raw rfl)) rfl rfl rfl ?_
   refine o_g (G := true) rfl rfl rfl rfl rfl (fun hG hc => (q_mv (v_raw rfl))) ?_
   refine o_q (q_pand (c := _) (b := _) rfl rfl rfl) rfl rfl rfl ?_
   refine o_q (q_as (v_raw rfl)) rfl rfl rfl ?_
   refine o_nil ?_
   refine s_ret ?_
   refine s_end ?_
   exact ⟨rfl, fun c0 o0 h0 => hF.le c0 o0 (hle c0 o0 h0)⟩
theorem snd3 (ge : TypeId) (gf : Nat × Nat) (nm : ByteArray) (ds : List BDe) (o : Bool) (M : Mem) (hG : M 0 = some (szO ge gf)) (hs : nm.size < 2 ^ 63) (hdl : ds.length < 2 ^ 60) (hds : ∀ d ∈ ds, (-2 ^ 63 ≤ d.kind ∧ d.kind < 2 ^ 63) ∧ d.prod.size < 2 ^ 63) : SoundCall Tryz.prog 3 [str nm, .sl (ds.map encBD) o] M fun r M' => r = bool true ∧ M.le M' := by
 cases hw : word nm with
 | false => exact snd3a ge gf nm ds o M hG hs hdl hds hw
 | true => exact snd3b ge gf nm ds o M hG hs hdl hds hw

end C17
