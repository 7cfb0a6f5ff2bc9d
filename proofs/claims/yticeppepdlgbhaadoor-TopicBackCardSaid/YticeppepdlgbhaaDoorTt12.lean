import Derived.Test.YticeppepdlgbhaaDoorTt11
/-! Chapter 15: TopicBack. -/
open Go Go.Proofs Go.Am
set_option linter.unusedVariables false
set_option linter.unusedSimpArgs false
set_option autoImplicit false
namespace C17
theorem fo42_1 : fo Tryd.prog 42 1 = some (1, 1) := by kernel_rfl
theorem fo42_2 : fo Tryd.prog 42 2 = some (2, 1) := by kernel_rfl
theorem fo42_3 : fo Tryd.prog 42 3 = some (3, 1) := by kernel_rfl
theorem fo42_4 : fo Tryd.prog 42 4 = some (4, 1) := by kernel_rfl
theorem sz42 : sizeT Tryd.prog 42 = some 7 := by kernel_rfl
theorem und38 : Tryd.prog.underlying 38 = some (.slice 42) := by kernel_rfl
def tk4 : Nat → Nat → Option Nat := fun _ _ => none
def pl4 : Nat → List PStep
 | 8 => [.q 0, .q 1, .q 2, .q 3, .q 4, .q 5, .q 6, .q 7, .q 8, .q 9, .q 10, .q 11, .q 12, .q 13, .q 14, .q 15, .q 16, .q 17, .q 18, .q 19, .q 20, .s 21 [19, 18, 17, 16, 14, 13, 12, 11, 9, 8, 7, 6, 4, 3, 2, 1]]
 | 17 => [.q 0, .q 1, .q 2, .q 3, .q 4, .q 5, .q 6, .q 7, .q 8, .q 9, .q 10, .s 11 [9, 8, 7, 6, 4, 3, 2, 1], .q 12, .q 13, .q 14, .q 15, .q 16]
 | 18 => [.q 0, .q 1, .q 2, .q 3, .q 4, .q 5, .q 6, .q 7, .q 8, .q 9, .q 10, .s 11 [9, 8, 7, 6, 4, 3, 2, 1], .q 12, .q 13, .q 14, .q 15, .q 16]
 | _ => []
theorem cb4 : Tryd.f4.body.map (codeB Tryd.prog Tryd.f4.ntmps tk4 pl4) = some true := by kernel_rfl

structure BDe where
 kind : Int
 prod : ByteArray
 seq : Int
 key : ByteArray
 val : ByteArray
 n : Int
 most : Int
 deriving Inhabited
def encBD (d : BDe) : AVal := .agg [int d.kind, str d.prod, int d.seq, str d.key, str d.val, int d.n, int d.most]
theorem leN2 {M M' : Mem} {B C : Nat} {o o1 : AObj} (h : M.le M') (hB : M B = none) (hC : M C = none) : M.le ((M'.upd C o1).upd B o) := fun c x hx => by
 have e1 : c ≠ B := fun e => by rw [e, hB] at hx; cases hx
 have e2 : c ≠ C := fun e => by rw [e, hC] at hx; cases hx
 exact ((upd_other e1).trans (upd_other e2)).trans (h c x hx)
theorem dump_ne (x : Tp) : encAll (dumpL x) ≠ emp := by
 have hdl : dumpL x = tI x.name :: (lI x.low :: lI x.en :: lI x.kvs.length :: ((namesL x).flatMap (fun k => prodL (kvOf x k)) ++ x.recs.flatMap recL)) := by
  unfold dumpL
  rw [List.append_assoc]; rfl
 rw [hdl, encAll_cons]
 intro e
 have h1 := congrArg ByteArray.size e
 have h2 : (bytI (tI x.name)).size = 4 + x.name.size := by
  unfold bytI
  rw [if_pos (show (tI x.name).kind = 4 from rfl), ByteArray.size_append, numB_size]; rfl
 rw [ByteArray.size_append, h2] at h1
 have h3 : (emp : ByteArray).size = 0 := rfl
 omega
set_option maxHeartbeats 4000000 in
set_option maxRecDepth 20000 in
theorem snd4 (ge : TypeId) (gf : Nat × Nat) (ds : List BDe) (low : Int) (o : Bool) (M : Mem) (hG : M 0 = some (szO ge gf)) (hlw : -2 ^ 63 ≤ low ∧ low < 2 ^ 63) (hdl : ds.length < 2 ^ 60) : SoundCall Tryd.prog 4 [.sl (ds.map encBD) o, int low] M fun r M' => r = bool true ∧ M.le M' := by
 have hlm : (ds.map encBD).length = ds.length := List.length_map _
 refine SoundCall.go tk4 pl4 mixed Tryd.func4 cb4 rfl (Nat.le_of_ble_eq_true rfl) ?_
 refine s_seq ?_
 refine s_region ?_
 refine o_q (q_as (v_raw rfl)) rfl rfl rfl ?_
 refine o_nil ?_
 refine s_seq ?_
 refine s_region ?_
 refine o_call (((snd8 _).det)) goes8 ac_nil rfl ?_
 refine o_q (q_as (v_raw rfl)) rfl rfl rfl ?_
 refine o_nil ?_
 refine s_seq ?_
 refine s_region ?_
 refine o_callx ((newT ({ data := #[116] } : ByteArray) _ (by kernel_rfl))) goes16 (ac (v_raw rfl) ac_nil) rfl ?_
 rintro r M1 ⟨t, mm, nt, nm, htm, rfl, rfl⟩
 have hmt := htm.symm
 refine o_q (q_mv (v_tup rfl)) rfl rfl rfl ?_
 refine o_q (q_ext rfl rfl (mvQ)) rfl rfl rfl ?_
 refine o_q (q_ext rfl rfl (v_raw rfl)) rfl rfl rfl ?_
 refine o_q (q_as (mvQ)) rfl rfl rfl ?_
 refine o_q (q_as (v_raw rfl)) rfl rfl rfl ?_
 refine o_nil ?_
 refine s_seq ?_
 refine s_seq ?_
 refine s_region ?_
 refine o_q (q_mv (mvQ)) rfl rfl rfl ?_
 refine o_q (q_peql und23 rfl rfl) rfl rfl rfl ?_
 refine o_nil ?_
 refine s_else rfl rfl ?_
 refine s_skip ?_
 refine s_seq ?_
 refine s_seq ?_
 refine s_region ?_
 refine o_q (q_as (v_raw rfl)) rfl rfl rfl ?_
 refine o_nil ?_
 refine s_block ?_
 refine s_loop (fun m S => ∃ T, ∃ M' : Mem, ∃ x : Tp, ∃ i : Nat, S = ⟨setT (setT (setT (setT (setT T 0 (.sl (ds.map encBD) o)) 1 (int low)) 5 (bool true)) 6 (ptr t)) 8 (int (i : Nat)), M'⟩ ∧ M' t = some (.cells (tpC mm x)) ∧ M' mm = some (tpK x) ∧ BackOk i x ∧ M.le M' ∧ i ≤ ds.length ∧ i ≤ 60 ∧ m = ds.length - i) ds.length ?_ ?_
 ·exact ⟨_, _, ⟨{ data := #[116] }, 0, 0, [], []⟩, 0, St.mkT (kp (kp (kp (kp (kp rfl rfl) rfl) rfl) rfl) rfl).symm, Mem.upd_self _ _ _, (upd_other hmt).trans (Mem.upd_self _ _ _), back_new (by kernel_rfl), leN2 (Mem.le_refl M) nt nm, by omega, by omega, rfl⟩
 rintro m S ⟨T, M', x, i, rfl, ht, hm, hB, hle', hi, hi60, rfl⟩
 refine s_seq ?_
 refine s_seq ?_
 refine s_region ?_
 refine o_q (q_mv (v_raw rfl)) rfl rfl rfl ?_
 refine o_q (q_mv (v_sl rfl)) rfl rfl rfl ?_
 refine o_q (q_len rfl und38 rfl) rfl rfl rfl ?_
 refine o_q (q_lss rfl rfl) rfl rfl rfl ?_
 refine o_q (q_mv (v_raw rfl)) rfl rfl rfl ?_
 refine o_g (G := true) rfl rfl rfl rfl rfl (fun hG hc => (q_mv (v_raw rfl))) ?_
 refine o_g (G := true) rfl rfl rfl rfl rfl (fun hG hc => (q_lss (gv_on (gv_and hG hc) rfl) rfl)) ?_
 refine o_q (q_pand (c := _) (b := _) rfl rfl rfl) rfl rfl rfl ?_
 refine o_nil ?_
 refine s_cond rfl (fun h1 => ?_) (fun h1 => ?_)
 ·have k1 := h1; try simp only [decide_eq_true_eq, decide_eq_false_iff_not, Bool.not_eq_true', Bool.not_eq_false', Bool.not_true, Bool.not_false, List.length_map, Decidable.not_not] at k1
  have hi2 : i < ds.length := by
   simp only [Bool.and_eq_true, decide_eq_true_eq, List.length_map] at h1
   omega
  have hi6 : i < 60 := by
   simp only [Bool.and_eq_true, decide_eq_true_eq, List.length_map] at h1
   omega
  have hen := hB.ok.low
  have hen2 := hB.en
  have hrn := hB.rn
  refine s_skip ?_
  refine s_seq ?_
  refine s_block ?_
  refine s_draw rfl ?_
  refine d_q rfl (q_mv (mvQ)) rfl rfl rfl ?_
  refine d_q rfl (q_mv (v_sl rfl)) rfl rfl rfl ?_
  refine d_q rfl (q_mv (v_raw rfl)) rfl rfl rfl ?_
  refine d_q rfl (q_idx und38 sz42 rfl rfl (by omega) (gm i (by first | omega | simp)) rfl) rfl rfl rfl ?_
  refine d_q rfl (q_f fo42_1 rfl) rfl rfl rfl ?_
  refine d_q rfl (q_ld ag9 sz9 rfl (gm i (by first | omega | simp)) rfl (v_raw rfl)) rfl rfl rfl ?_
  refine d_q rfl (q_mv (v_sl rfl)) rfl rfl rfl ?_
  refine d_q rfl (q_mv (v_raw rfl)) rfl rfl rfl ?_
  refine d_q rfl (q_idx und38 sz42 rfl rfl (by omega) (gm i (by first | omega | simp)) rfl) rfl rfl rfl ?_
  refine d_q rfl (q_f fo42_2 rfl) rfl rfl rfl ?_
  refine d_q rfl (q_ld ag3 sz3 rfl (gm i (by first | omega | simp)) rfl (v_raw rfl)) rfl rfl rfl ?_
  refine d_q rfl (q_mv (v_sl rfl)) rfl rfl rfl ?_
  refine d_q rfl (q_mv (v_raw rfl)) rfl rfl rfl ?_
  refine d_q rfl (q_idx und38 sz42 rfl rfl (by omega) (gm i (by first | omega | simp)) rfl) rfl rfl rfl ?_
  refine d_q rfl (q_f fo42_3 rfl) rfl rfl rfl ?_
  refine d_q rfl (q_ld ag9 sz9 rfl (gm i (by first | omega | simp)) rfl (v_raw rfl)) rfl rfl rfl ?_
  refine d_q rfl (q_mv (v_sl rfl)) rfl rfl rfl ?_
  refine d_q rfl (q_mv (v_raw rfl)) rfl rfl rfl ?_
  refine d_q rfl (q_idx und38 sz42 rfl rfl (by omega) (gm i (by first | omega | simp)) rfl) rfl rfl rfl ?_
  refine d_q rfl (q_f fo42_4 rfl) rfl rfl rfl ?_
  refine d_q rfl (q_ld ag9 sz9 rfl (gm i (by first | omega | simp)) rfl (v_raw rfl)) rfl rfl rfl ?_
  refine d_s rfl ?_
  refine o_callx ((pub14 t mm x ds[i].prod ds[i].seq ds[i].key ds[i].val _ ht hm htm ⟨by omega, by omega⟩ (by omega))) goes17 (ac (mvQ) (ac (v_raw rfl) (ac (v_raw rfl) (ac (v_raw rfl) (ac (v_raw rfl) ac_nil))))) rfl ?_
  rintro r M2 ⟨rfl, rfl⟩
  refine o_nil ⟨(by simp [Mem.upd, *]), ?_⟩
  refine d_nil ?_
  refine s_blk_normal ?_
  refine s_region ?_
  refine o_q (q_mv (v_raw rfl)) rfl rfl rfl ?_
  refine o_q (q_add rfl rfl (wrap64 (by omega) (by omega))) rfl rfl rfl ?_
  refine o_q (q_as (v_raw rfl)) rfl rfl rfl ?_
  refine o_nil ?_
  refine s_inv ?_
  exact ⟨ds.length - (i + 1), by omega, _, _, (pub x ds[i].prod ds[i].seq ds[i].key ds[i].val).1, i + 1, St.mkT (kp (kp (kp (kp (kp rfl rfl) rfl) rfl) rfl) rfl).symm, Mem.upd_self _ _ _, (upd_other hmt).trans (Mem.upd_self _ _ _), back_pub hB (by omega) _ _ _ _, leN2 hle' nt nm, by omega, by omega, rfl⟩
 ·have k1 := h1; try simp only [decide_eq_true_eq, decide_eq_false_iff_not, Bool.not_eq_true', Bool.not_eq_false', Bool.not_true, Bool.not_false, List.length_map, Decidable.not_not] at k1
  have hen := hB.ok.low
  have hen2 := hB.en
  have hrn := hB.rn
  obtain ⟨q, hq⟩ : ∃ q, q = pick low (x.en + 1) := ⟨_, rfl⟩
  have hql := pick_lt (c := low) (n := x.en + 1) (by omega)
  rw [← hq] at hql
  obtain ⟨y, hy⟩ : ∃ y, y = (trimT x q).1 := ⟨_, rfl⟩
  have hBy : BackOk 60 y := by rw [hy]; exact back_trim (hB.mono (by omega)) q hql.1
  refine s_exit ?_
  refine s_code_exit ?_
  refine s_inv_exit ?_
  refine s_blk_here ?_
  refine s_seq ?_
  refine s_region ?_
  refine o_q (q_mv (mvQ)) rfl rfl rfl ?_
  refine o_q (q_mv (v_raw rfl)) rfl rfl rfl ?_
  refine o_q (q_mv (mvQ)) rfl rfl rfl ?_
  refine o_call (((snd14 t mm x _ ht hm htm).det)) goes14 (ac (mvQ) ac_nil) rfl ?_
  refine o_q (q_add rfl rfl (wrap64 (by omega) (by omega))) rfl rfl rfl ?_
  refine o_call (((snd19 low (x.en + 1) _ (by omega) (by omega) hlw))) goes19 (ac (v_raw rfl) (ac (v_raw rfl) ac_nil)) rfl ?_
  refine o_callx ((trimE (x := x) (y := y) (n := pick low (x.en + 1)) (a := (trimT x q).2) t mm _ (by rw [← hq, hy]) ht hm htm hB.ok.so (by omega))) goes18 (ac (mvQ) (ac (v_raw rfl) ac_nil)) rfl ?_
  rintro r M2 ⟨rfl, rfl⟩
  have ht2 : (setTp M' t mm y) t = some (.cells (tpC mm y)) := Mem.upd_self _ _ _
  have hm2 : (setTp M' t mm y) mm = some (tpK y) := (upd_other hmt).trans (Mem.upd_self _ _ _)
  have hl2 : M.le (setTp M' t mm y) := leN2 hle' nt nm
  refine o_nil ?_
  refine s_seq ?_
  refine s_region ?_
  refine o_q (q_mv (mvQ)) rfl rfl rfl ?_
  refine o_call (((snd15 t mm y ge gf _ ht2 hm2 htm (hl2 0 _ hG) (back_dump hBy (by omega))).det)) goes15 (ac (mvQ) ac_nil) rfl ?_
  refine o_q (q_as (v_raw rfl)) rfl rfl rfl ?_
  refine o_nil ?_
  refine s_seq ?_
  refine s_region ?_
  refine o_q (q_mv (v_raw rfl)) rfl rfl rfl ?_
  refine o_callx ((loadE hBy (by omega) ge gf _ (hl2 0 _ hG))) goes9 (ac (v_raw rfl) ac_nil) rfl ?_
  rintro r M3 ⟨u, v, nu, nv, huv, rfl, rfl⟩
  have hvu := huv.symm
  have d1 : t ≠ u := fun e => by rw [← e, ht2] at nu; cases nu
  have d2 : t ≠ v := fun e => by rw [← e, ht2] at nv; cases nv
  have d3 : mm ≠ u := fun e => by rw [← e, hm2] at nu; cases nu
  have d4 : mm ≠ v := fun e => by rw [← e, hm2] at nv; cases nv
  have d5 := d1.symm
  have d6 := d2.symm
  have d7 := d3.symm
  have d8 := d4.symm
  have nu0 := Mem.none_of_le hl2 nu
  have nv0 := Mem.none_of_le hl2 nv
  refine o_q (q_mv (v_tup rfl)) rfl rfl rfl ?_
  refine o_q (q_ext rfl rfl (mvQ)) rfl rfl rfl ?_
  refine o_q (q_ext rfl rfl (v_raw rfl)) rfl rfl rfl ?_
  refine o_q (q_as (mvQ)) rfl rfl rfl ?_
  refine o_q (q_as (v_raw rfl)) rfl rfl rfl ?_
  refine o_nil ?_
  refine s_seq ?_
  refine s_seq ?_
  refine s_region ?_
  refine o_q (q_mv (mvQ)) rfl rfl rfl ?_
  refine o_q (q_peql und23 rfl rfl) rfl rfl rfl ?_
  refine o_q (q_mv (v_raw rfl)) rfl rfl rfl ?_
  refine o_g (G := true) rfl rfl rfl rfl rfl (fun hG hc => (q_mv (v_raw rfl))) ?_
  refine o_g (G := true) rfl rfl rfl rfl rfl (fun hG hc => (q_neq (gv_on (gv_and hG hc) rfl) rfl)) ?_
  refine o_q (q_por (c := _) (b := _) rfl rfl rfl) rfl rfl rfl ?_
  refine o_nil ?_
  refine s_else rfl rfl ?_
  refine s_skip ?_
  refine s_seq ?_
  refine s_seq ?_
  refine s_region ?_
  refine o_q (q_as (v_raw rfl)) rfl rfl rfl ?_
  refine o_nil ?_
  refine s_block ?_
  refine s_loop (fun m S => ∃ T, ∃ M' : Mem, ∃ x z : Tp, ∃ i : Nat, S = ⟨setT (setT (setT (setT (setT (setT T 0 (.sl (ds.map encBD) o)) 5 (bool true)) 6 (ptr t)) 9 (str (encAll (dumpL y)))) 10 (ptr u)) 12 (int (i : Nat)), M'⟩ ∧ M' t = some (.cells (tpC mm x)) ∧ M' mm = some (tpK x) ∧ M' u = some (.cells (tpC v z)) ∧ M' v = some (tpK z) ∧ BackOk (60 + i) x ∧ BackOk (60 + i) z ∧ SameT x z ∧ M.le M' ∧ i ≤ ds.length ∧ i ≤ 60 ∧ m = ds.length - i) ds.length ?_ ?_
  ·exact ⟨_, _, y, loadX y, 0, St.mkT (kp (kp (kp (kp (kp (kp rfl rfl) rfl) rfl) rfl) rfl) rfl).symm, (upd_other d1).trans ((upd_other d2).trans ht2), (upd_other d3).trans ((upd_other d4).trans hm2), Mem.upd_self _ _ _, (upd_other hvu).trans (Mem.upd_self _ _ _), hBy, back_load hBy, same_load hBy.ok.nd, leN2 hl2 nu0 nv0, by omega, by omega, rfl⟩
  rintro m S ⟨T, M', x, z, i, rfl, ht, hm, hu, hv, hBx, hBz, hS, hle', hi, hi60, rfl⟩
  have hg0 := hle' 0 _ hG
  refine s_seq ?_
  refine s_seq ?_
  refine s_region ?_
  refine o_q (q_mv (v_raw rfl)) rfl rfl rfl ?_
  refine o_q (q_mv (v_sl rfl)) rfl rfl rfl ?_
  refine o_q (q_len rfl und38 rfl) rfl rfl rfl ?_
  refine o_q (q_lss rfl rfl) rfl rfl rfl ?_
  refine o_q (q_mv (v_raw rfl)) rfl rfl rfl ?_
  refine o_g (G := true) rfl rfl rfl rfl rfl (fun hG hc => (q_mv (v_raw rfl))) ?_
  refine o_g (G := true) rfl rfl rfl rfl rfl (fun hG hc => (q_lss (gv_on (gv_and hG hc) rfl) rfl)) ?_
  refine o_q (q_pand (c := _) (b := _) rfl rfl rfl) rfl rfl rfl ?_
  refine o_nil ?_
  refine s_cond rfl (fun h2 => ?_) (fun h2 => ?_)
  ·have k2 := h2; try simp only [decide_eq_true_eq, decide_eq_false_iff_not, Bool.not_eq_true', Bool.not_eq_false', Bool.not_true, Bool.not_false, List.length_map, Decidable.not_not] at k2
   have hi2 : i < ds.length := by
    simp only [Bool.and_eq_true, decide_eq_true_eq, List.length_map] at h2
    omega
   have hi6 : i < 60 := by
    simp only [Bool.and_eq_true, decide_eq_true_eq, List.length_map] at h2
    omega
   have hen := hBx.ok.low
   have hen2 := hBx.en
   have hrn := hBx.rn
   have hen3 := hBz.ok.low
   have hen4 := hBz.en
   have hrn2 := hBz.rn
   obtain ⟨hS2, hS3⟩ := same_pub hS ds[i].prod ds[i].seq emp emp
   refine s_skip ?_
   refine s_seq ?_
   refine s_block ?_
   refine s_seq ?_
   refine s_draw rfl ?_
   refine d_q rfl (q_mv (mvQ)) rfl rfl rfl ?_
   refine d_q rfl (q_mv (v_sl rfl)) rfl rfl rfl ?_
   refine d_q rfl (q_mv (v_raw rfl)) rfl rfl rfl ?_
   refine d_q rfl (q_idx und38 sz42 rfl rfl (by omega) (gm i (by first | omega | simp)) rfl) rfl rfl rfl ?_
   refine d_q rfl (q_f fo42_1 rfl) rfl rfl rfl ?_
   refine d_q rfl (q_ld ag9 sz9 rfl (gm i (by first | omega | simp)) rfl (v_raw rfl)) rfl rfl rfl ?_
   refine d_q rfl (q_mv (v_sl rfl)) rfl rfl rfl ?_
   refine d_q rfl (q_mv (v_raw rfl)) rfl rfl rfl ?_
   refine d_q rfl (q_idx und38 sz42 rfl rfl (by omega) (gm i (by first | omega | simp)) rfl) rfl rfl rfl ?_
   refine d_q rfl (q_f fo42_2 rfl) rfl rfl rfl ?_
   refine d_q rfl (q_ld ag3 sz3 rfl (gm i (by first | omega | simp)) rfl (v_raw rfl)) rfl rfl rfl ?_
   refine d_s rfl ?_
   refine o_callx ((pub14 t mm x ds[i].prod ds[i].seq emp emp _ ht hm htm ⟨by omega, by omega⟩ (by omega))) goes17 (ac (mvQ) (ac (v_raw rfl) (ac (v_raw rfl) (ac (v_raw rfl) (ac (v_raw rfl) ac_nil))))) rfl ?_
   rintro r M2 ⟨rfl, rfl⟩
   refine o_nil ⟨(by simp [Mem.upd, *]), ?_⟩
   refine d_q rfl (q_mv (v_tup rfl)) rfl rfl rfl ?_
   refine d_q rfl (q_ext rfl rfl (v_raw rfl)) rfl rfl rfl ?_
   refine d_q rfl (q_ext rfl rfl (v_raw rfl)) rfl rfl rfl ?_
   refine d_q rfl (q_as (v_raw rfl)) rfl rfl rfl ?_
   refine d_q rfl (q_as (v_raw rfl)) rfl rfl rfl ?_
   refine d_nil ?_
   refine s_seq ?_
   refine s_draw rfl ?_
   refine d_q rfl (q_mv (mvQ)) rfl rfl rfl ?_
   refine d_q rfl (q_mv (v_sl rfl)) rfl rfl rfl ?_
   refine d_q rfl (q_mv (v_raw rfl)) rfl rfl rfl ?_
   refine d_q rfl (q_idx und38 sz42 rfl rfl (by omega) (gm i (by first | omega | simp)) rfl) rfl rfl rfl ?_
   refine d_q rfl (q_f fo42_1 rfl) rfl rfl rfl ?_
   refine d_q rfl (q_ld ag9 sz9 rfl (gm i (by first | omega | simp)) rfl (v_raw rfl)) rfl rfl rfl ?_
   refine d_q rfl (q_mv (v_sl rfl)) rfl rfl rfl ?_
   refine d_q rfl (q_mv (v_raw rfl)) rfl rfl rfl ?_
   refine d_q rfl (q_idx und38 sz42 rfl rfl (by omega) (gm i (by first | omega | simp)) rfl) rfl rfl rfl ?_
   refine d_q rfl (q_f fo42_2 rfl) rfl rfl rfl ?_
   refine d_q rfl (q_ld ag3 sz3 rfl (gm i (by first | omega | simp)) rfl (v_raw rfl)) rfl rfl rfl ?_
   refine d_s rfl ?_
   refine o_callx ((pub14 u v z ds[i].prod ds[i].seq emp emp _ mmQ mmQ huv ⟨by omega, by omega⟩ (by omega))) goes17 (ac (mvQ) (ac (v_raw rfl) (ac (v_raw rfl) (ac (v_raw rfl) (ac (v_raw rfl) ac_nil))))) rfl ?_
   rintro r M2 ⟨rfl, rfl⟩
   refine o_nil ⟨(by simp [Mem.upd, *]), ?_⟩
   refine d_q rfl (q_mv (v_tup rfl)) rfl rfl rfl ?_
   refine d_q rfl (q_ext rfl rfl (v_raw rfl)) rfl rfl rfl ?_
   refine d_q rfl (q_ext rfl rfl (v_raw rfl)) rfl rfl rfl ?_
   refine d_q rfl (q_as (v_raw rfl)) rfl rfl rfl ?_
   refine d_q rfl (q_as (v_raw rfl)) rfl rfl rfl ?_
   refine d_nil ?_
   refine s_seq ?_
   refine s_region ?_
   refine o_q (q_mv (v_raw rfl)) rfl rfl rfl ?_
   refine o_q (q_mv (v_raw rfl)) rfl rfl rfl ?_
   refine o_q (q_neq rfl rfl) rfl rfl rfl ?_
   refine o_q (q_mv (v_raw rfl)) rfl rfl rfl ?_
   refine o_g (G := true) rfl rfl rfl rfl rfl (fun hG hc => (q_mv (v_raw rfl))) ?_
   refine o_g (G := true) rfl rfl rfl rfl rfl (fun hG hc => (q_mv (v_raw rfl))) ?_
   refine o_g (G := true) rfl rfl rfl rfl rfl (fun hG hc => (q_neq (gv_on (gv_and hG hc) rfl) (gv_on (gv_and hG hc) rfl))) ?_
   refine o_q (q_por (c := _) (b := _) rfl rfl rfl) rfl rfl rfl ?_
   refine o_nil ?_
   refine s_cond rfl (fun h3 => ?_) (fun h3 => ?_)
   ·have k3 := h3; try simp only [decide_eq_true_eq, decide_eq_false_iff_not, Bool.not_eq_true', Bool.not_eq_false', Bool.not_true, Bool.not_false, List.length_map, Decidable.not_not] at k3
    exfalso
    have e0 : (pub x ds[i].prod ds[i].seq emp emp).2 = (pub z ds[i].prod ds[i].seq emp emp).2 := hS3
    change (!decide ((pub x ds[i].prod ds[i].seq emp emp).2.1 = (pub z ds[i].prod ds[i].seq emp emp).2.1) || !decide ((pub x ds[i].prod ds[i].seq emp emp).2.2 = (pub z ds[i].prod ds[i].seq emp emp).2.2)) = true at h3
    rw [e0] at h3
    simp at h3
   ·have k3 := h3; try simp only [decide_eq_true_eq, decide_eq_false_iff_not, Bool.not_eq_true', Bool.not_eq_false', Bool.not_true, Bool.not_false, List.length_map, Decidable.not_not] at k3
    refine s_skip ?_
    refine s_blk_normal ?_
    refine s_region ?_
    refine o_q (q_mv (v_raw rfl)) rfl rfl rfl ?_
    refine o_q (q_add rfl rfl (wrap64 (by omega) (by omega))) rfl rfl rfl ?_
    refine o_q (q_as (v_raw rfl)) rfl rfl rfl ?_
    refine o_nil ?_
    refine s_inv ?_
    exact ⟨ds.length - (i + 1), by omega, _, _, (pub x ds[i].prod ds[i].seq emp emp).1, (pub z ds[i].prod ds[i].seq emp emp).1, i + 1, St.mkT (kp (kp (kp (kp (kp (kp rfl rfl) rfl) rfl) rfl) rfl) rfl).symm, (upd_other d1).trans ((upd_other d2).trans (Mem.upd_self _ _ _)), (upd_other d3).trans ((upd_other d4).trans ((upd_other hmt).trans (Mem.upd_self _ _ _))), Mem.upd_self _ _ _, (upd_other hvu).trans (Mem.upd_self _ _ _), back_pub hBx (by omega) _ _ _ _, back_pub hBz (by omega) _ _ _ _, hS2, leN2 (leN2 hle' nt nm) nu0 nv0, by omega, by omega, rfl⟩
  ·have k2 := h2; try simp only [decide_eq_true_eq, decide_eq_false_iff_not, Bool.not_eq_true', Bool.not_eq_false', Bool.not_true, Bool.not_false, List.length_map, Decidable.not_not] at k2
   refine s_exit ?_
   refine s_code_exit ?_
   refine s_inv_exit ?_
   refine s_blk_here ?_
   refine s_seq ?_
   refine s_region ?_
   refine o_q (q_mv (v_raw rfl)) rfl rfl rfl ?_
   refine o_q (q_mv (v_raw rfl)) rfl rfl rfl ?_
   refine o_g (G := true) rfl rfl rfl rfl rfl (fun hG hc => (q_mv (mvQ))) ?_
   refine o_gw (G := true) rfl rfl rfl rfl (fun hG hc h => o_call (((snd15 u v z ge gf _ hu hv huv hg0 (back_dump hBz (by omega))).det)) goes15 (ac ((by first | exact v_raw (gv_on (gv_and hG hc) rfl) | exact v_sptr rfl)) ac_nil) rfl h) ?_
   refine o_g (G := true) rfl rfl rfl rfl rfl (fun hG hc => (q_mv (mvQ))) ?_
   refine o_gw (G := true) rfl rfl rfl rfl (fun hG hc h => o_call (((snd15 t mm x ge gf _ ht hm htm hg0 (back_dump hBx (by omega))).det)) goes15 (ac ((by first | exact v_raw (gv_on (gv_and hG hc) rfl) | exact v_sptr rfl)) ac_nil) rfl h) ?_
   refine o_g (G := true) rfl rfl rfl rfl rfl (fun hG hc => (q_seql (gv_on (gv_and hG hc) rfl) (gv_on (gv_and hG hc) rfl))) ?_
   refine o_q (q_pand (c := _) (b := _) rfl rfl rfl) rfl rfl rfl ?_
   refine o_q (q_mv (v_raw rfl)) rfl rfl rfl ?_
   refine o_g (G := true) rfl rfl rfl rfl rfl (fun hG hc => (q_mv (v_raw rfl))) ?_
   refine o_g (G := true) rfl rfl rfl rfl rfl (fun hG hc => (q_sneq (gv_on (gv_and hG hc) rfl) rfl)) ?_
   refine o_q (q_pand (c := _) (b := _) rfl rfl rfl) rfl rfl rfl ?_
   refine o_q (q_as (v_raw rfl)) rfl rfl rfl ?_
   refine o_nil ?_
   refine s_ret ?_
   refine s_end ?_
   exact ⟨congrArg bool (by rw [same_dump hS hBx.ok.nd hBz.ok.nd]; simp [dump_ne y]; try exact dump_ne y), hle'⟩
end C17
