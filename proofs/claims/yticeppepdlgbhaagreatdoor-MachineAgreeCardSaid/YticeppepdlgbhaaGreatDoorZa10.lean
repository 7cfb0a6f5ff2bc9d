import Derived.Test.YticeppepdlgbhaaGreatDoorZa9
import Derived.Test.YticeppepdlgbhaaGreatDoorZa7
/-! Chapter 17: the machine: Apply. -/
open Go Go.Proofs Go.Am
set_option linter.unusedVariables false
set_option linter.unusedSimpArgs false
set_option autoImplicit false
namespace C17
theorem und52 : Tryz.prog.underlying 52 = some (.pointer 124) := by kernel_rfl
def tk27 : Nat → Nat → Option Nat := fun _ _ => none
def pl27 : Nat → List PStep := fun _ => []
theorem cb27 : Tryz.f27.body.map (codeB Tryz.prog Tryz.f27.ntmps tk27 pl27) = some true := by kernel_rfl
theorem goes27 : goesB Tryz.prog 27 = true := by kernel_rfl

def bs (n : UInt8) : ByteArray := { data := #[n] }
def cmA : Cmd := ⟨1, bs 97, emp, 0, emp, emp, 0, 0, 0⟩
def cmP : Cmd := ⟨2, bs 97, bs 112, 1, emp, bs 118, 0, 0, 0⟩
def cmS : Cmd := ⟨3, bs 97, bs 115, 0, emp, emp, 0, 0, 0⟩
def cmL : Cmd := ⟨5, emp, bs 115, 0, emp, emp, 5, 0, 0⟩
def cmK : Cmd := ⟨6, emp, bs 115, 0, emp, emp, 0, 0, 0⟩
def garb : ByteArray := ⟨#[103, 97, 114, 98, 97, 103, 101]⟩
def y1 : Mc := (doM (newM 3) cmA).1
def y2 : Mc := (doM y1 cmA).1
def y3 : Mc := (doM y2 cmP).1
def y4 : Mc := (doM y3 cmS).1
def y5 : Mc := (doM y4 cmL).1
def y6 : Mc := (doM y5 cmK).1
def y7 : Mc := (stepM y6 garb).1
theorem ex1 : doM (newM 3) cmA = (y1, ⟨0, 0, []⟩) := Prod.ext rfl (by kernel_rfl)
theorem ex2 : doM y1 cmA = (y2, ⟨4, 0, []⟩) := Prod.ext rfl (by kernel_rfl)
theorem ex3 : doM y2 cmP = (y3, ⟨0, 0, []⟩) := Prod.ext rfl (by kernel_rfl)
theorem ex4 : doM y3 cmS = (y4, ⟨0, 0, []⟩) := Prod.ext rfl (by kernel_rfl)
theorem ex5 : doM y4 cmL = (y5, ⟨0, 1, [⟨0, bs 112, 1, emp, bs 118⟩]⟩) := Prod.ext rfl (by kernel_rfl)
theorem ex6 : doM y5 cmK = (y6, ⟨0, 1, []⟩) := Prod.ext rfl (by kernel_rfl)
theorem ex7 : stepM y6 garb = (y7, ⟨1, 0, []⟩) := Prod.ext rfl (by kernel_rfl)
theorem ex7c : y7.cnt = 7 := by kernel_rfl
theorem ex7w : (y7.want.idx 7).length = 3 := by kernel_rfl
def yT : Tp := ⟨bs 97, 0, 1, [(bs 112, (1, 0, bs 112))], [⟨0, bs 112, 1, emp, bs 118⟩]⟩
theorem ex7t : gets y7.tps (bs 97) = some yT := by kernel_rfl
set_option maxHeartbeats 4000000 in
set_option maxRecDepth 20000 in
theorem snd27 (ge : TypeId) (gf : Nat × Nat) (M : Mem) (hG : M 0 = some (szO ge gf)) : SoundCall Tryz.prog 27 [] M fun r M' => r = bool true ∧ M.le M' := by
 refine SoundCall.go tk27 pl27 mixed Tryz.func27 cb27 rfl (Nat.le_of_ble_eq_true rfl) ?_
 refine s_seq ?_
 refine s_region ?_
 refine o_q (q_as (v_raw rfl)) rfl rfl rfl ?_
 refine o_nil ?_
 refine s_seq ?_
 refine s_region ?_
 refine o_callx ((new_m hG (by decide) (by decide))) goes28 (ac (v_raw rfl) ac_nil) rfl ?_
 rintro r M0 ⟨b, O0, rfl, hX0, hO0⟩
 refine o_q (q_mv (v_tup rfl)) rfl rfl rfl ?_
 refine o_q (q_ext rfl rfl (mv)) rfl rfl rfl ?_
 refine o_q (q_ext rfl rfl (v_raw rfl)) rfl rfl rfl ?_
 refine o_q (q_as (mv)) rfl rfl rfl ?_
 refine o_q (q_as (v_raw rfl)) rfl rfl rfl ?_
 refine o_nil ?_
 refine s_seq ?_
 refine s_region ?_
 refine o_callx ((new_no (by decide))) goes28 (ac (v_raw rfl) ac_nil) rfl ?_
 rintro r M' ⟨rfl, rfl⟩
 refine o_q (q_mv (v_tup rfl)) rfl rfl rfl ?_
 refine o_q (q_ext rfl rfl (mv)) rfl rfl rfl ?_
 refine o_q (q_ext rfl rfl (v_raw rfl)) rfl rfl rfl ?_
 refine o_q (q_as (mv)) rfl rfl rfl ?_
 refine o_q (q_as (v_raw rfl)) rfl rfl rfl ?_
 refine o_nil ?_
 refine s_seq ?_
 refine s_seq ?_
 refine s_region ?_
 refine o_q (q_mv (mv)) rfl rfl rfl ?_
 refine o_q (q_peql und52 rfl rfl) rfl rfl rfl ?_
 refine o_q (q_mv (v_raw rfl)) rfl rfl rfl ?_
 refine o_yes rfl rfl rfl rfl ?_
 refine o_q (q_mv (v_raw rfl)) rfl rfl rfl ?_
 refine o_yes rfl rfl rfl rfl ?_
 refine o_q (q_neq rfl rfl) rfl rfl rfl ?_
 refine o_q (q_pick_c (t := false) rfl rfl (v_raw rfl)) rfl rfl rfl ?_
 refine o_q (q_mv (v_raw rfl)) rfl rfl rfl ?_
 refine o_yes rfl rfl rfl rfl ?_
 refine o_q (q_mv (v_raw rfl)) rfl rfl rfl ?_
 refine o_yes rfl rfl rfl rfl ?_
 refine o_q (q_neq rfl rfl) rfl rfl rfl ?_
 refine o_q (q_pick_c (t := false) rfl rfl (v_raw rfl)) rfl rfl rfl ?_
 refine o_nil ?_
 refine s_else rfl rfl ?_
 refine s_skip ?_
 refine s_seq ?_
 refine s_region ?_
 refine o_q (q_mv (mv)) rfl rfl rfl ?_
 refine o_q (q_b (cs := [_, _, .raw (.string { data := #[] }), .raw (.int .i64 0), .raw (.string { data := #[] }), .raw (.string { data := #[] }), .raw (.int .i64 0), .raw (.int .i64 0), .raw (.int .i64 0)]) bz49 bp49 (bf fo49_0 (e_raw rfl) rfl rfl (Nat.le_of_ble_eq_true rfl) rfl (bf fo49_1 (e_raw rfl) rfl rfl (Nat.le_of_ble_eq_true rfl) rfl bf_nil))) rfl rfl rfl ?_
 refine o_callx ((do_m hX0 (by decide) (by decide) ex1)) goes63 (ac (mv) (ac (v_agg rfl) ac_nil)) rfl ?_
 rintro r M1 ⟨rfl, O1, hX1, hC1⟩
 have hO1 := hO0.chg hC1
 refine o_alloc zc56 (fun B1 hB1 => ?_)
 have n1 := hX1.nof hB1
 have c1 : B1 ≠ 0 := fun e => nn hX1.g (by rw [← e]; exact hB1)
 have m1 := hO1.none hB1
 refine o_storew rfl mm mf rfl sz56 rfl rfl rfl rfl ?_
 refine o_nil ?_
 refine s_seq ?_
 refine s_region ?_
 refine o_q (q_mv (mv)) rfl rfl rfl ?_
 refine o_q (q_b (cs := [_, _, .raw (.string { data := #[] }), .raw (.int .i64 0), .raw (.string { data := #[] }), .raw (.string { data := #[] }), .raw (.int .i64 0), .raw (.int .i64 0), .raw (.int .i64 0)]) bz49 bp49 (bf fo49_0 (e_raw rfl) rfl rfl (Nat.le_of_ble_eq_true rfl) rfl (bf fo49_1 (e_raw rfl) rfl rfl (Nat.le_of_ble_eq_true rfl) rfl bf_nil))) rfl rfl rfl ?_
 refine o_callx ((do_m ((hX1.upd n1 c1).upd n1 c1) (by decide) (by decide) ex2)) goes63 (ac (mv) (ac (v_agg rfl) ac_nil)) rfl ?_
 rintro r M2 ⟨rfl, O2, hX2, hC2⟩
 have hO2 := ((hO1.upd m1).upd m1).chg hC2
 have n1' := hC2.nO (Mem.upd_self _ _ _) n1
 have q1' := hC2.keep (Mem.upd_self _ _ _) n1
 clear n1
 have q1 : M2 B1 = some (.cells [int 0, int 0, .sl (([] : List Rec).map enc) false]) := q1'
 have n1 := n1'
 clear q1' n1'
 refine o_alloc zc56 (fun B2 hB2 => ?_)
 have n2 := hX2.nof hB2
 have c2 : B2 ≠ 0 := fun e => nn hX2.g (by rw [← e]; exact hB2)
 have m2 := hO2.none hB2
 have f1_2 : B1 ≠ B2 := Mem.fresh_ne hB2 q1
 refine o_storew rfl mm mf rfl sz56 rfl rfl rfl rfl ?_
 refine o_nil ?_
 refine s_seq ?_
 refine s_region ?_
 refine o_q (q_mv (mv)) rfl rfl rfl ?_
 refine o_q (q_b (cs := [_, _, _, _, .raw (.string { data := #[] }), _, .raw (.int .i64 0), .raw (.int .i64 0), .raw (.int .i64 0)]) bz49 bp49 (bf fo49_0 (e_raw rfl) rfl rfl (Nat.le_of_ble_eq_true rfl) rfl (bf fo49_1 (e_raw rfl) rfl rfl (Nat.le_of_ble_eq_true rfl) rfl (bf fo49_2 (e_raw rfl) rfl rfl (Nat.le_of_ble_eq_true rfl) rfl (bf fo49_3 (e_raw rfl) rfl rfl (Nat.le_of_ble_eq_true rfl) rfl (bf fo49_5 (e_raw rfl) rfl rfl (Nat.le_of_ble_eq_true rfl) rfl bf_nil)))))) rfl rfl rfl ?_
 refine o_callx ((do_m ((hX2.upd n2 c2).upd n2 c2) (by decide) (by decide) ex3)) goes63 (ac (mv) (ac (v_agg rfl) ac_nil)) rfl ?_
 rintro r M3 ⟨rfl, O3, hX3, hC3⟩
 have hO3 := ((hO2.upd m2).upd m2).chg hC3
 have n1' := hC3.nO ((upd_other f1_2).trans ((upd_other f1_2).trans q1)) n1
 have q1' := hC3.keep ((upd_other f1_2).trans ((upd_other f1_2).trans q1)) n1
 have n2' := hC3.nO (Mem.upd_self _ _ _) n2
 have q2' := hC3.keep (Mem.upd_self _ _ _) n2
 clear q1 n1
 have q1 : M3 B1 = some (.cells [int 0, int 0, .sl (([] : List Rec).map enc) false]) := q1'
 have n1 := n1'
 clear q1' n1'
 clear n2
 have q2 : M3 B2 = some (.cells [int 4, int 0, .sl (([] : List Rec).map enc) false]) := q2'
 have n2 := n2'
 clear q2' n2'
 refine o_alloc zc56 (fun B3 hB3 => ?_)
 have n3 := hX3.nof hB3
 have c3 : B3 ≠ 0 := fun e => nn hX3.g (by rw [← e]; exact hB3)
 have m3 := hO3.none hB3
 have f1_3 : B1 ≠ B3 := Mem.fresh_ne hB3 q1
 have f2_3 : B2 ≠ B3 := Mem.fresh_ne hB3 q2
 refine o_storew rfl mm mf rfl sz56 rfl rfl rfl rfl ?_
 refine o_nil ?_
 refine s_seq ?_
 refine s_region ?_
 refine o_q (q_mv (mv)) rfl rfl rfl ?_
 refine o_q (q_b (cs := [_, _, _, .raw (.int .i64 0), .raw (.string { data := #[] }), .raw (.string { data := #[] }), .raw (.int .i64 0), .raw (.int .i64 0), .raw (.int .i64 0)]) bz49 bp49 (bf fo49_0 (e_raw rfl) rfl rfl (Nat.le_of_ble_eq_true rfl) rfl (bf fo49_1 (e_raw rfl) rfl rfl (Nat.le_of_ble_eq_true rfl) rfl (bf fo49_2 (e_raw rfl) rfl rfl (Nat.le_of_ble_eq_true rfl) rfl bf_nil)))) rfl rfl rfl ?_
 refine o_callx ((do_m ((hX3.upd n3 c3).upd n3 c3) (by decide) (by decide) ex4)) goes63 (ac (mv) (ac (v_agg rfl) ac_nil)) rfl ?_
 rintro r M4 ⟨rfl, O4, hX4, hC4⟩
 have hO4 := ((hO3.upd m3).upd m3).chg hC4
 have n1' := hC4.nO ((upd_other f1_3).trans ((upd_other f1_3).trans q1)) n1
 have q1' := hC4.keep ((upd_other f1_3).trans ((upd_other f1_3).trans q1)) n1
 have n2' := hC4.nO ((upd_other f2_3).trans ((upd_other f2_3).trans q2)) n2
 have q2' := hC4.keep ((upd_other f2_3).trans ((upd_other f2_3).trans q2)) n2
 have n3' := hC4.nO (Mem.upd_self _ _ _) n3
 have q3' := hC4.keep (Mem.upd_self _ _ _) n3
 clear q1 n1
 have q1 : M4 B1 = some (.cells [int 0, int 0, .sl (([] : List Rec).map enc) false]) := q1'
 have n1 := n1'
 clear q1' n1'
 clear q2 n2
 have q2 : M4 B2 = some (.cells [int 4, int 0, .sl (([] : List Rec).map enc) false]) := q2'
 have n2 := n2'
 clear q2' n2'
 clear n3
 have q3 : M4 B3 = some (.cells [int 0, int 0, .sl (([] : List Rec).map enc) false]) := q3'
 have n3 := n3'
 clear q3' n3'
 refine o_alloc zc56 (fun B4 hB4 => ?_)
 have n4 := hX4.nof hB4
 have c4 : B4 ≠ 0 := fun e => nn hX4.g (by rw [← e]; exact hB4)
 have m4 := hO4.none hB4
 have f1_4 : B1 ≠ B4 := Mem.fresh_ne hB4 q1
 have f2_4 : B2 ≠ B4 := Mem.fresh_ne hB4 q2
 have f3_4 : B3 ≠ B4 := Mem.fresh_ne hB4 q3
 refine o_storew rfl mm mf rfl sz56 rfl rfl rfl rfl ?_
 refine o_nil ?_
 refine s_seq ?_
 refine s_region ?_
 refine o_q (q_mv (mv)) rfl rfl rfl ?_
 refine o_q (q_b (cs := [_, .raw (.string { data := #[] }), _, .raw (.int .i64 0), .raw (.string { data := #[] }), .raw (.string { data := #[] }), _, .raw (.int .i64 0), .raw (.int .i64 0)]) bz49 bp49 (bf fo49_0 (e_raw rfl) rfl rfl (Nat.le_of_ble_eq_true rfl) rfl (bf fo49_2 (e_raw rfl) rfl rfl (Nat.le_of_ble_eq_true rfl) rfl (bf fo49_6 (e_raw rfl) rfl rfl (Nat.le_of_ble_eq_true rfl) rfl bf_nil)))) rfl rfl rfl ?_
 refine o_callx ((do_m ((hX4.upd n4 c4).upd n4 c4) (by decide) (by decide) ex5)) goes63 (ac (mv) (ac (v_agg rfl) ac_nil)) rfl ?_
 rintro r M5 ⟨rfl, O5, hX5, hC5⟩
 have hO5 := ((hO4.upd m4).upd m4).chg hC5
 have n1' := hC5.nO ((upd_other f1_4).trans ((upd_other f1_4).trans q1)) n1
 have q1' := hC5.keep ((upd_other f1_4).trans ((upd_other f1_4).trans q1)) n1
 have n2' := hC5.nO ((upd_other f2_4).trans ((upd_other f2_4).trans q2)) n2
 have q2' := hC5.keep ((upd_other f2_4).trans ((upd_other f2_4).trans q2)) n2
 have n3' := hC5.nO ((upd_other f3_4).trans ((upd_other f3_4).trans q3)) n3
 have q3' := hC5.keep ((upd_other f3_4).trans ((upd_other f3_4).trans q3)) n3
 have n4' := hC5.nO (Mem.upd_self _ _ _) n4
 have q4' := hC5.keep (Mem.upd_self _ _ _) n4
 clear q1 n1
 have q1 : M5 B1 = some (.cells [int 0, int 0, .sl (([] : List Rec).map enc) false]) := q1'
 have n1 := n1'
 clear q1' n1'
 clear q2 n2
 have q2 : M5 B2 = some (.cells [int 4, int 0, .sl (([] : List Rec).map enc) false]) := q2'
 have n2 := n2'
 clear q2' n2'
 clear q3 n3
 have q3 : M5 B3 = some (.cells [int 0, int 0, .sl (([] : List Rec).map enc) false]) := q3'
 have n3 := n3'
 clear q3' n3'
 clear n4
 have q4 : M5 B4 = some (.cells [int 0, int 0, .sl (([] : List Rec).map enc) false]) := q4'
 have n4 := n4'
 clear q4' n4'
 refine o_alloc zc56 (fun B5 hB5 => ?_)
 have n5 := hX5.nof hB5
 have c5 : B5 ≠ 0 := fun e => nn hX5.g (by rw [← e]; exact hB5)
 have m5 := hO5.none hB5
 have f1_5 : B1 ≠ B5 := Mem.fresh_ne hB5 q1
 have f2_5 : B2 ≠ B5 := Mem.fresh_ne hB5 q2
 have f3_5 : B3 ≠ B5 := Mem.fresh_ne hB5 q3
 have f4_5 : B4 ≠ B5 := Mem.fresh_ne hB5 q4
 refine o_storew rfl mm mf rfl sz56 rfl rfl rfl rfl ?_
 refine o_nil ?_
 refine s_seq ?_
 refine s_region ?_
 refine o_q (q_mv (mv)) rfl rfl rfl ?_
 refine o_q (q_b (cs := [_, .raw (.string { data := #[] }), _, .raw (.int .i64 0), .raw (.string { data := #[] }), .raw (.string { data := #[] }), .raw (.int .i64 0), .raw (.int .i64 0), .raw (.int .i64 0)]) bz49 bp49 (bf fo49_0 (e_raw rfl) rfl rfl (Nat.le_of_ble_eq_true rfl) rfl (bf fo49_2 (e_raw rfl) rfl rfl (Nat.le_of_ble_eq_true rfl) rfl bf_nil))) rfl rfl rfl ?_
 refine o_callx ((do_m ((hX5.upd n5 c5).upd n5 c5) (by decide) (by decide) ex6)) goes63 (ac (mv) (ac (v_agg rfl) ac_nil)) rfl ?_
 rintro r M6 ⟨rfl, O6, hX6, hC6⟩
 have hO6 := ((hO5.upd m5).upd m5).chg hC6
 have n1' := hC6.nO ((upd_other f1_5).trans ((upd_other f1_5).trans q1)) n1
 have q1' := hC6.keep ((upd_other f1_5).trans ((upd_other f1_5).trans q1)) n1
 have n2' := hC6.nO ((upd_other f2_5).trans ((upd_other f2_5).trans q2)) n2
 have q2' := hC6.keep ((upd_other f2_5).trans ((upd_other f2_5).trans q2)) n2
 have n3' := hC6.nO ((upd_other f3_5).trans ((upd_other f3_5).trans q3)) n3
 have q3' := hC6.keep ((upd_other f3_5).trans ((upd_other f3_5).trans q3)) n3
 have n4' := hC6.nO ((upd_other f4_5).trans ((upd_other f4_5).trans q4)) n4
 have q4' := hC6.keep ((upd_other f4_5).trans ((upd_other f4_5).trans q4)) n4
 have n5' := hC6.nO (Mem.upd_self _ _ _) n5
 have q5' := hC6.keep (Mem.upd_self _ _ _) n5
 clear q1 n1
 have q1 : M6 B1 = some (.cells [int 0, int 0, .sl (([] : List Rec).map enc) false]) := q1'
 have n1 := n1'
 clear q1' n1'
 clear q2 n2
 have q2 : M6 B2 = some (.cells [int 4, int 0, .sl (([] : List Rec).map enc) false]) := q2'
 have n2 := n2'
 clear q2' n2'
 clear q3 n3
 have q3 : M6 B3 = some (.cells [int 0, int 0, .sl (([] : List Rec).map enc) false]) := q3'
 have n3 := n3'
 clear q3' n3'
 clear q4 n4
 have q4 : M6 B4 = some (.cells [int 0, int 0, .sl (([] : List Rec).map enc) false]) := q4'
 have n4 := n4'
 clear q4' n4'
 clear n5
 have q5 : M6 B5 = some (.cells [int 0, int 1, .sl ([(⟨0, bs 112, 1, emp, bs 118⟩ : Rec)].map enc) false]) := q5'
 have n5 := n5'
 clear q5' n5'
 refine o_alloc zc56 (fun B6 hB6 => ?_)
 have n6 := hX6.nof hB6
 have c6 : B6 ≠ 0 := fun e => nn hX6.g (by rw [← e]; exact hB6)
 have m6 := hO6.none hB6
 have f1_6 : B1 ≠ B6 := Mem.fresh_ne hB6 q1
 have f2_6 : B2 ≠ B6 := Mem.fresh_ne hB6 q2
 have f3_6 : B3 ≠ B6 := Mem.fresh_ne hB6 q3
 have f4_6 : B4 ≠ B6 := Mem.fresh_ne hB6 q4
 have f5_6 : B5 ≠ B6 := Mem.fresh_ne hB6 q5
 refine o_storew rfl mm mf rfl sz56 rfl rfl rfl rfl ?_
 refine o_nil ?_
 refine s_seq ?_
 refine s_region ?_
 refine o_q (q_mv (mv)) rfl rfl rfl ?_
 refine o_callx ((apply_m (s := garb) ((hX6.upd n6 c6).upd n6 c6) (by decide) (by decide) ex7)) goes29 (ac (mv) (ac (v_raw rfl) ac_nil)) rfl ?_
 rintro r M7 ⟨rfl, O7, hX7, hC7⟩
 have hO7 := ((hO6.upd m6).upd m6).chg hC7
 have n1' := hC7.nO ((upd_other f1_6).trans ((upd_other f1_6).trans q1)) n1
 have q1' := hC7.keep ((upd_other f1_6).trans ((upd_other f1_6).trans q1)) n1
 have n2' := hC7.nO ((upd_other f2_6).trans ((upd_other f2_6).trans q2)) n2
 have q2' := hC7.keep ((upd_other f2_6).trans ((upd_other f2_6).trans q2)) n2
 have n3' := hC7.nO ((upd_other f3_6).trans ((upd_other f3_6).trans q3)) n3
 have q3' := hC7.keep ((upd_other f3_6).trans ((upd_other f3_6).trans q3)) n3
 have n4' := hC7.nO ((upd_other f4_6).trans ((upd_other f4_6).trans q4)) n4
 have q4' := hC7.keep ((upd_other f4_6).trans ((upd_other f4_6).trans q4)) n4
 have n5' := hC7.nO ((upd_other f5_6).trans ((upd_other f5_6).trans q5)) n5
 have q5' := hC7.keep ((upd_other f5_6).trans ((upd_other f5_6).trans q5)) n5
 have n6' := hC7.nO (Mem.upd_self _ _ _) n6
 have q6' := hC7.keep (Mem.upd_self _ _ _) n6
 clear q1 n1
 have q1 : M7 B1 = some (.cells [int 0, int 0, .sl (([] : List Rec).map enc) false]) := q1'
 have n1 := n1'
 clear q1' n1'
 clear q2 n2
 have q2 : M7 B2 = some (.cells [int 4, int 0, .sl (([] : List Rec).map enc) false]) := q2'
 have n2 := n2'
 clear q2' n2'
 clear q3 n3
 have q3 : M7 B3 = some (.cells [int 0, int 0, .sl (([] : List Rec).map enc) false]) := q3'
 have n3 := n3'
 clear q3' n3'
 clear q4 n4
 have q4 : M7 B4 = some (.cells [int 0, int 0, .sl (([] : List Rec).map enc) false]) := q4'
 have n4 := n4'
 clear q4' n4'
 clear q5 n5
 have q5 : M7 B5 = some (.cells [int 0, int 1, .sl ([(⟨0, bs 112, 1, emp, bs 118⟩ : Rec)].map enc) false]) := q5'
 have n5 := n5'
 clear q5' n5'
 clear n6
 have q6 : M7 B6 = some (.cells [int 0, int 1, .sl (([] : List Rec).map enc) false]) := q6'
 have n6 := n6'
 clear q6' n6'
 refine o_alloc zc56 (fun B7 hB7 => ?_)
 have n7 := hX7.nof hB7
 have c7 : B7 ≠ 0 := fun e => nn hX7.g (by rw [← e]; exact hB7)
 have m7 := hO7.none hB7
 have f1_7 : B1 ≠ B7 := Mem.fresh_ne hB7 q1
 have f2_7 : B2 ≠ B7 := Mem.fresh_ne hB7 q2
 have f3_7 : B3 ≠ B7 := Mem.fresh_ne hB7 q3
 have f4_7 : B4 ≠ B7 := Mem.fresh_ne hB7 q4
 have f5_7 : B5 ≠ B7 := Mem.fresh_ne hB7 q5
 have f6_7 : B6 ≠ B7 := Mem.fresh_ne hB7 q6
 refine o_storew rfl mm mf rfl sz56 rfl rfl rfl rfl ?_
 refine o_nil ?_
 refine s_seq ?_
 refine s_region ?_
 refine o_q (q_mv (mv)) rfl rfl rfl ?_
 refine o_callx ((((hX7.upd n7 c7).upd n7 c7).at'.topic ex7t)) goes64 (ac (mv) (ac (v_raw rfl) ac_nil)) rfl ?_
 rintro r M' ⟨t, w, rfl, rfl, ht, hw, htw, -, -⟩
 refine o_q (q_mv (v_tup rfl)) rfl rfl rfl ?_
 refine o_q (q_ext rfl rfl (mv)) rfl rfl rfl ?_
 refine o_q (q_ext rfl rfl (v_raw rfl)) rfl rfl rfl ?_
 refine o_q (q_as (mv)) rfl rfl rfl ?_
 refine o_q (q_as (v_raw rfl)) rfl rfl rfl ?_
 refine o_nil ?_
 refine s_seq ?_
 refine s_region ?_
 refine o_q (q_fr fo56_0 rfl) rfl rfl rfl ?_
 refine o_q (q_ldm ag3 sz3 rfl mm rfl (v_raw rfl)) rfl rfl rfl ?_
 refine o_q (q_eql rfl rfl) rfl rfl rfl ?_
 refine o_q (q_mv (v_raw rfl)) rfl rfl rfl ?_
 refine o_yes rfl rfl rfl rfl ?_
 refine o_q (q_fr fo56_0 rfl) rfl rfl rfl ?_
 refine o_yes rfl rfl rfl rfl ?_
 refine o_q (q_ldm ag3 sz3 rfl mm rfl (v_raw rfl)) rfl rfl rfl ?_
 refine o_yes rfl rfl rfl rfl ?_
 refine o_q (q_eql rfl rfl) rfl rfl rfl ?_
 refine o_q (q_pick_c (t := true) rfl rfl (v_raw rfl)) rfl rfl rfl ?_
 refine o_q (q_mv (v_raw rfl)) rfl rfl rfl ?_
 refine o_yes rfl rfl rfl rfl ?_
 refine o_q (q_fr fo56_0 rfl) rfl rfl rfl ?_
 refine o_yes rfl rfl rfl rfl ?_
 refine o_q (q_ldm ag3 sz3 rfl mm rfl (v_raw rfl)) rfl rfl rfl ?_
 refine o_yes rfl rfl rfl rfl ?_
 refine o_q (q_eql rfl rfl) rfl rfl rfl ?_
 refine o_q (q_pick_c (t := true) rfl rfl (v_raw rfl)) rfl rfl rfl ?_
 refine o_q (q_mv (v_raw rfl)) rfl rfl rfl ?_
 refine o_yes rfl rfl rfl rfl ?_
 refine o_q (q_fr fo56_1 rfl) rfl rfl rfl ?_
 refine o_yes rfl rfl rfl rfl ?_
 refine o_q (q_ldm ag3 sz3 rfl mm rfl (v_raw rfl)) rfl rfl rfl ?_
 refine o_yes rfl rfl rfl rfl ?_
 refine o_q (q_eql rfl rfl) rfl rfl rfl ?_
 refine o_q (q_pick_c (t := true) rfl rfl (v_raw rfl)) rfl rfl rfl ?_
 refine o_q (q_mv (v_raw rfl)) rfl rfl rfl ?_
 refine o_yes rfl rfl rfl rfl ?_
 refine o_q (q_fr fo56_0 rfl) rfl rfl rfl ?_
 refine o_yes rfl rfl rfl rfl ?_
 refine o_q (q_ldm ag3 sz3 rfl mm rfl (v_raw rfl)) rfl rfl rfl ?_
 refine o_yes rfl rfl rfl rfl ?_
 refine o_q (q_eql rfl rfl) rfl rfl rfl ?_
 refine o_q (q_pick_c (t := true) rfl rfl (v_raw rfl)) rfl rfl rfl ?_
 refine o_q (q_mv (v_raw rfl)) rfl rfl rfl ?_
 refine o_yes rfl rfl rfl rfl ?_
 refine o_q (q_fr fo56_1 rfl) rfl rfl rfl ?_
 refine o_yes rfl rfl rfl rfl ?_
 refine o_q (q_ldm ag3 sz3 rfl mm rfl (v_raw rfl)) rfl rfl rfl ?_
 refine o_yes rfl rfl rfl rfl ?_
 refine o_q (q_eql rfl rfl) rfl rfl rfl ?_
 refine o_q (q_pick_c (t := true) rfl rfl (v_raw rfl)) rfl rfl rfl ?_
 refine o_q (q_mv (v_raw rfl)) rfl rfl rfl ?_
 refine o_yes rfl rfl rfl rfl ?_
 refine o_q (q_fr fo56_2 rfl) rfl rfl rfl ?_
 refine o_yes rfl rfl rfl rfl ?_
 refine o_q (q_ldm ag35 sz35 rfl mm rfl (v_sl rfl)) rfl rfl rfl ?_
 refine o_yes rfl rfl rfl rfl ?_
 refine o_q (q_len rfl und35 rfl) rfl rfl rfl ?_
 refine o_yes rfl rfl rfl rfl ?_
 refine o_q (q_eql rfl rfl) rfl rfl rfl ?_
 refine o_q (q_pick_c (t := true) rfl rfl (v_raw rfl)) rfl rfl rfl ?_
 refine o_q (q_mv (v_raw rfl)) rfl rfl rfl ?_
 refine o_yes rfl rfl rfl rfl ?_
 refine o_q (q_fr fo56_2 rfl) rfl rfl rfl ?_
 refine o_yes rfl rfl rfl rfl ?_
 refine o_q (q_ldm ag35 sz35 rfl mm rfl (v_sl rfl)) rfl rfl rfl ?_
 refine o_yes rfl rfl rfl rfl ?_
 refine o_q (q_idx und35 sz39 rfl rfl (by omega) (gm (l := [(⟨0, bs 112, 1, emp, bs 118⟩ : Rec)]) 0 (by first | omega | simp)) rfl) rfl rfl rfl ?_
 refine o_yes rfl rfl rfl rfl ?_
 refine o_q (q_f fo39_4 rfl) rfl rfl rfl ?_
 refine o_yes rfl rfl rfl rfl ?_
 refine o_q (q_ld ag9 sz9 rfl (gm (l := [(⟨0, bs 112, 1, emp, bs 118⟩ : Rec)]) 0 (by first | omega | simp)) rfl (v_raw rfl)) rfl rfl rfl ?_
 refine o_yes rfl rfl rfl rfl ?_
 refine o_q (q_seql rfl rfl) rfl rfl rfl ?_
 refine o_q (q_pick_c (t := true) rfl rfl (v_raw rfl)) rfl rfl rfl ?_
 refine o_q (q_mv (v_raw rfl)) rfl rfl rfl ?_
 refine o_yes rfl rfl rfl rfl ?_
 refine o_q (q_fr fo56_1 rfl) rfl rfl rfl ?_
 refine o_yes rfl rfl rfl rfl ?_
 refine o_q (q_ldm ag3 sz3 rfl mm rfl (v_raw rfl)) rfl rfl rfl ?_
 refine o_yes rfl rfl rfl rfl ?_
 refine o_q (q_eql rfl rfl) rfl rfl rfl ?_
 refine o_q (q_pick_c (t := true) rfl rfl (v_raw rfl)) rfl rfl rfl ?_
 refine o_q (q_mv (v_raw rfl)) rfl rfl rfl ?_
 refine o_yes rfl rfl rfl rfl ?_
 refine o_q (q_fr fo56_0 rfl) rfl rfl rfl ?_
 refine o_yes rfl rfl rfl rfl ?_
 refine o_q (q_ldm ag3 sz3 rfl mm rfl (v_raw rfl)) rfl rfl rfl ?_
 refine o_yes rfl rfl rfl rfl ?_
 refine o_q (q_eql rfl rfl) rfl rfl rfl ?_
 refine o_q (q_pick_c (t := true) rfl rfl (v_raw rfl)) rfl rfl rfl ?_
 refine o_q (q_mv (v_raw rfl)) rfl rfl rfl ?_
 refine o_yes rfl rfl rfl rfl ?_
 refine o_q (q_mv (mv)) rfl rfl rfl ?_
 refine o_yes rfl rfl rfl rfl ?_
 refine o_call ((count41 ((hX7.upd n7 c7).upd n7 c7).at')) goes33 (ac (mv) ac_nil) rfl ?_
 refine o_yes rfl rfl rfl rfl ?_
 refine o_q (q_eql rfl rfl) rfl rfl rfl ?_
 refine o_q (q_pick_c (t := true) rfl rfl (v_raw rfl)) rfl rfl rfl ?_
 refine o_q (q_mv (v_raw rfl)) rfl rfl rfl ?_
 refine o_yes rfl rfl rfl (decide_eq_true ex7c) ?_
 refine o_q (q_mv (v_raw rfl)) rfl rfl rfl ?_
 refine o_q (q_pick_c (t := true) rfl (decide_eq_true ex7c) (v_raw rfl)) rfl rfl rfl ?_
 refine o_q (q_mv (v_raw rfl)) rfl rfl rfl ?_
 refine o_yes rfl rfl rfl rfl ?_
 refine o_q (q_mv (mv)) rfl rfl rfl ?_
 refine o_yes rfl rfl rfl rfl ?_
 refine o_q (q_pneq und24 rfl rfl) rfl rfl rfl ?_
 refine o_q (q_pick_c (t := true) rfl rfl (v_raw rfl)) rfl rfl rfl ?_
 refine o_q (q_mv (v_raw rfl)) rfl rfl rfl ?_
 refine o_yes rfl rfl rfl rfl ?_
 refine o_q (q_mv (mv)) rfl rfl rfl ?_
 refine o_yes rfl rfl rfl rfl ?_
 refine o_call (((snd26 t w yT _ ht hw htw).det)) goes26 (ac (mv) ac_nil) rfl ?_
 refine o_yes rfl rfl rfl rfl ?_
 refine o_q (q_eql rfl rfl) rfl rfl rfl ?_
 refine o_q (q_pick_c (t := true) rfl rfl (v_raw rfl)) rfl rfl rfl ?_
 refine o_q (q_mv (v_raw rfl)) rfl rfl rfl ?_
 refine o_yes rfl rfl rfl rfl ?_
 refine o_q (q_mv (mv)) rfl rfl rfl ?_
 refine o_yes rfl rfl rfl rfl ?_
 refine o_call ((wanted25 ((hX7.upd n7 c7).upd n7 c7).at')) goes65 (ac (mv) ac_nil) rfl ?_
 refine o_yes rfl rfl rfl rfl ?_
 refine o_q (q_len rfl und118 rfl) rfl rfl rfl ?_
 refine o_yes rfl rfl rfl rfl ?_
 refine o_q (q_eql rfl rfl) rfl rfl rfl ?_
 refine o_q (q_pick_c (t := true) rfl rfl (v_raw rfl)) rfl rfl rfl ?_
 refine o_q (q_as (v_raw rfl)) rfl rfl rfl ?_
 refine o_nil ?_
 refine s_ret ?_
 refine s_end ?_
 exact ⟨congrArg bool (decide_eq_true (by rw [List.length_map]; exact congrArg Nat.cast ex7w)), ((hO7.upd m7).upd m7).le⟩
end C17
