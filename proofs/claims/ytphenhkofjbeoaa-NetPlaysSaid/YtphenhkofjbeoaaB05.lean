import Derived.Test.YtphenhkofjbeoaaA05
import Derived.Test.YtphenhkofjbeoaaProg
/-! Chapter 5: the net: what its functions compute. -/
open Go Go.Proofs Go.Am
set_option linter.unusedVariables false
set_option linter.unusedSimpArgs false
set_option autoImplicit false
namespace C05
theorem ag46 : aggT Try.prog 46 = some false := by kernel_rfl
theorem bz48 : (zeroT Try.prog 48).map (fun z => z.cells.toList.map AVal.raw) = some [.raw (.int .i64 0), .raw (.map none), .raw (.int .i64 0)] := by kernel_rfl
theorem bp48 : (aPlaces Try.prog 48).isSome = true := by kernel_rfl
theorem bz49 : (zeroT Try.prog 49).map (fun z => z.cells.toList.map AVal.raw) = some [.raw (.int .i64 0), .raw (.int .i64 0)] := by kernel_rfl
theorem bp49 : (aPlaces Try.prog 49).isSome = true := by kernel_rfl
theorem fo48_1 : fo Try.prog 48 1 = some (1, 1) := by kernel_rfl
theorem fo48_2 : fo Try.prog 48 2 = some (2, 1) := by kernel_rfl
theorem kt49 : KeyT Try.prog 49 keyV := keyT_arr2 (by kernel_rfl) (e := 3) (by kernel_rfl) (by kernel_rfl) (by kernel_rfl)
theorem slt40 : SlT Try.prog 40 9 1 16 := ⟨by kernel_rfl, by kernel_rfl, by kernel_rfl, by kernel_rfl, by decide⟩
theorem sz9 : sizeT Try.prog 9 = some 1 := by kernel_rfl
theorem sz46 : sizeT Try.prog 46 = some 1 := by kernel_rfl
theorem und40 : Try.prog.underlying 40 = some (.slice 9) := by kernel_rfl
theorem und46 : Try.prog.underlying 46 = some (.map 49 40) := by kernel_rfl
theorem und49 : Try.prog.underlying 49 = some (.array 2 3) := by kernel_rfl
theorem z40 : zeroT Try.prog 40 = some (.slice none 0 0) := by kernel_rfl
theorem zc9 : zeroCellsT Try.prog 9 = some [.raw (.string { data := #[] })] := by kernel_rfl
def tk14 : Nat → Nat → Option Nat := fun _ _ => none
def pl14 : Nat → List PStep
  | 1 => [.q 0, .q 1, .s 2 [], .q 3, .q 4, .q 5, .s 6 [1, 0], .q 7, .q 8, .q 9, .q 10, .q 11, .q 12, .q 13, .q 14, .q 15, .q 16, .q 17, .q 18, .q 19, .q 20, .q 21, .q 22, .q 23, .q 24, .q 25]
  | _ => []
theorem cb14 : Try.f14.body.map (codeB Try.prog Try.f14.ntmps tk14 pl14) = some true := by kernel_rfl
theorem goes14 : goesB Try.prog 14 = true := by kernel_rfl
-- (*carillon/net.Net).Joined params ['*net.Net', 'int', 'int'] results [['t', 6]] own [] names ['0:x', '1:a', '2:b', '3:x', '4:a', '5:b'] calls [28] paths 3

/-- Two nodes on one side. -/
def joined (n : Int) (side : Nat) (a b : Int) : Bool := decide (0 ≤ a ∧ a < n) && decide (0 ≤ b ∧ b < n) && decide (side / 2 ^ a.toNat % 2 = side / 2 ^ b.toNat % 2)
theorem divlt {m : Nat} (h : m < 2 ^ 63) (a : Nat) : m / 2 ^ a < 2 ^ 63 := Nat.lt_of_le_of_lt (Nat.div_le_self _ _) h
set_option maxHeartbeats 4000000 in
set_option maxRecDepth 20000 in
theorem snd14 (x r clk side : Nat) (n : Int) (l : List (En K2)) (q : K2 → List ByteArray) (M : Mem) (hN : NetAt M x r n side clk l q) (a b : Int) : SoundCall Try.prog 14 [ptr x, int a, int b] M fun r M' => r = bool (joined n side a b) ∧ M' = M := by
  obtain ⟨hx, hr, xr, hnd, hst, hsn, hq0, hq1, hbx, hbd, hql, ⟨hn1, hn7⟩, hs63⟩ := id hN
  have rx := xr.symm
  refine SoundCall.go tk14 pl14 mixed Try.func14 cb14 rfl (Nat.le_of_ble_eq_true rfl) ?_
  refine s_seq ?_
  refine s_region ?_
  refine o_q (q_as (v_raw rfl)) rfl rfl rfl ?_
  refine o_nil ?_
  refine s_seq ?_
  refine s_draw rfl ?_
  refine d_q rfl (q_mv ((by first | exact v_raw rfl | exact v_sptr rfl))) rfl rfl rfl ?_
  refine d_q rfl (q_mv (v_raw rfl)) rfl rfl rfl ?_
  refine d_s rfl ?_
  refine o_call ((snd28 x r clk side n l q _ hN a)) goes28 (ac ((by first | exact v_raw rfl | exact v_sptr rfl)) (ac (v_raw rfl) ac_nil)) rfl ?_
  refine o_nil ⟨(by simp [Mem.upd, *]), ?_⟩
  refine d_q rfl (q_mv (v_raw rfl)) rfl rfl rfl ?_
  refine d_cases (want := true) (j := 3) rfl rfl (fun h1 => ?_) (fun h1 => ?_)
  · have k1 := h1; try simp only [decide_eq_true_eq, decide_eq_false_iff_not, Bool.not_eq_true', Bool.not_eq_false', Bool.not_true, Bool.not_false, List.length_map, Decidable.not_not] at k1
    refine d_yes rfl (q_mv ((by first | exact v_raw rfl | exact v_sptr rfl))) rfl rfl rfl h1 rfl rfl ?_
    refine d_yes rfl (q_mv (v_raw rfl)) rfl rfl rfl h1 rfl rfl ?_
    refine d_s rfl ?_
    refine o_yes rfl rfl rfl h1 ?_
    refine o_call ((snd28 x r clk side n l q _ hN b)) goes28 (ac ((by first | exact v_raw rfl | exact v_sptr rfl)) (ac (v_raw rfl) ac_nil)) rfl ?_
    refine o_nil ⟨(by simp [Mem.upd, *]), ?_⟩
    refine d_q rfl (q_pick_c (t := true) rfl h1 (v_raw rfl)) rfl rfl rfl ?_
    refine d_q rfl (q_mv (v_raw rfl)) rfl rfl rfl ?_
    refine d_cases (want := true) (j := 8) rfl rfl (fun h2 => ?_) (fun h2 => ?_)
    · have k2 := h2; try simp only [decide_eq_true_eq, decide_eq_false_iff_not, Bool.not_eq_true', Bool.not_eq_false', Bool.not_true, Bool.not_false, List.length_map, Decidable.not_not] at k2
      refine d_yes rfl (q_mv ((by first | exact v_raw rfl | exact v_sptr rfl))) rfl rfl rfl h2 rfl rfl ?_
      refine d_yes rfl (q_nil rfl) rfl rfl rfl h2 rfl rfl ?_
      refine d_yes rfl (q_fr fo48_2 rfl) rfl rfl rfl h2 rfl rfl ?_
      refine d_yes rfl (q_ldm ag3 sz3 rfl (by repeat first | exact Mem.upd_self _ _ _ | assumption | refine Mem.upd_ne (by assumption) ?_) rfl (v_raw rfl)) rfl rfl rfl h2 rfl rfl ?_
      refine d_yes rfl (q_mv (v_raw rfl)) rfl rfl rfl h2 rfl rfl ?_
      refine d_yes rfl (q_shrn rfl rfl (by omega) (by omega)) rfl rfl rfl h2 rfl rfl ?_
      refine d_yes rfl (q_mv ((by first | exact v_raw rfl | exact v_sptr rfl))) rfl rfl rfl h2 rfl rfl ?_
      refine d_yes rfl (q_nil rfl) rfl rfl rfl h2 rfl rfl ?_
      refine d_yes rfl (q_fr fo48_2 rfl) rfl rfl rfl h2 rfl rfl ?_
      refine d_yes rfl (q_ldm ag3 sz3 rfl (by repeat first | exact Mem.upd_self _ _ _ | assumption | refine Mem.upd_ne (by assumption) ?_) rfl (v_raw rfl)) rfl rfl rfl h2 rfl rfl ?_
      refine d_yes rfl (q_mv (v_raw rfl)) rfl rfl rfl h2 rfl rfl ?_
      refine d_yes rfl (q_shrn rfl rfl (by omega) (by omega)) rfl rfl rfl h2 rfl rfl ?_
      refine d_yes rfl (q_xorn rfl rfl (divlt hs63 _) (divlt hs63 _)) rfl rfl rfl h2 rfl rfl ?_
      refine d_yes rfl (q_and1n rfl rfl (Nat.xor_lt_two_pow (divlt hs63 _) (divlt hs63 _))) rfl rfl rfl h2 rfl rfl ?_
      refine d_yes rfl (q_eql rfl rfl) rfl rfl rfl h2 rfl rfl ?_
      refine d_q rfl (q_pick_c (t := true) rfl h2 (v_raw rfl)) rfl rfl rfl ?_
      refine d_q rfl (q_as (v_raw rfl)) rfl rfl rfl ?_
      refine d_nil ?_
      refine s_ret ?_
      refine s_end ?_
      refine ⟨congrArg bool ?_, rfl⟩
      unfold joined
      simp [*, xor_mod2i]
    · have k2 := h2; try simp only [decide_eq_true_eq, decide_eq_false_iff_not, Bool.not_eq_true', Bool.not_eq_false', Bool.not_true, Bool.not_false, List.length_map, Decidable.not_not] at k2
      refine d_no rfl rfl rfl rfl h2 rfl ?_
      refine d_no rfl rfl rfl rfl h2 rfl ?_
      refine d_no rfl rfl rfl rfl h2 rfl ?_
      refine d_no rfl rfl rfl rfl h2 rfl ?_
      refine d_no rfl rfl rfl rfl h2 rfl ?_
      refine d_no rfl rfl rfl rfl h2 rfl ?_
      refine d_no rfl rfl rfl rfl h2 rfl ?_
      refine d_no rfl rfl rfl rfl h2 rfl ?_
      refine d_no rfl rfl rfl rfl h2 rfl ?_
      refine d_no rfl rfl rfl rfl h2 rfl ?_
      refine d_no rfl rfl rfl rfl h2 rfl ?_
      refine d_no rfl rfl rfl rfl h2 rfl ?_
      refine d_no rfl rfl rfl rfl h2 rfl ?_
      refine d_no rfl rfl rfl rfl h2 rfl ?_
      refine d_no rfl rfl rfl rfl h2 rfl ?_
      refine d_q rfl (q_pick_c (t := false) rfl h2 (v_raw rfl)) rfl rfl rfl ?_
      refine d_q rfl (q_as (v_raw rfl)) rfl rfl rfl ?_
      refine d_nil ?_
      refine s_ret ?_
      refine s_end ?_
      refine ⟨congrArg bool ?_, rfl⟩
      unfold joined
      simp [*, xor_mod2i]
  · have k1 := h1; try simp only [decide_eq_true_eq, decide_eq_false_iff_not, Bool.not_eq_true', Bool.not_eq_false', Bool.not_true, Bool.not_false, List.length_map, Decidable.not_not] at k1
    refine d_no rfl rfl rfl rfl h1 rfl ?_
    refine d_no rfl rfl rfl rfl h1 rfl ?_
    refine d_s rfl ?_
    refine o_no rfl rfl rfl rfl h1 ?_
    refine o_nil ⟨(by simp [Mem.upd, *]), ?_⟩
    refine d_q rfl (q_pick_c (t := false) rfl h1 (v_raw rfl)) rfl rfl rfl ?_
    refine d_q rfl (q_mv (v_raw rfl)) rfl rfl rfl ?_
    refine d_no rfl rfl rfl rfl rfl rfl ?_
    refine d_no rfl rfl rfl rfl rfl rfl ?_
    refine d_no rfl rfl rfl rfl rfl rfl ?_
    refine d_no rfl rfl rfl rfl rfl rfl ?_
    refine d_no rfl rfl rfl rfl rfl rfl ?_
    refine d_no rfl rfl rfl rfl rfl rfl ?_
    refine d_no rfl rfl rfl rfl rfl rfl ?_
    refine d_no rfl rfl rfl rfl rfl rfl ?_
    refine d_no rfl rfl rfl rfl rfl rfl ?_
    refine d_no rfl rfl rfl rfl rfl rfl ?_
    refine d_no rfl rfl rfl rfl rfl rfl ?_
    refine d_no rfl rfl rfl rfl rfl rfl ?_
    refine d_no rfl rfl rfl rfl rfl rfl ?_
    refine d_no rfl rfl rfl rfl rfl rfl ?_
    refine d_no rfl rfl rfl rfl rfl rfl ?_
    refine d_q rfl (q_pick_c (t := false) rfl rfl (v_raw rfl)) rfl rfl rfl ?_
    refine d_q rfl (q_as (v_raw rfl)) rfl rfl rfl ?_
    refine d_nil ?_
    refine s_ret ?_
    refine s_end ?_
    refine ⟨congrArg bool ?_, rfl⟩
    unfold joined
    simp [*, xor_mod2i]

def tk16 : Nat → Nat → Option Nat := fun _ _ => none
def pl16 : Nat → List PStep := fun _ => []
theorem cb16 : Try.f16.body.map (codeB Try.prog Try.f16.ntmps tk16 pl16) = some true := by kernel_rfl
theorem goes16 : goesB Try.prog 16 = true := by kernel_rfl
-- (*carillon/net.Net).Len params ['*net.Net', 'int', 'int'] results [['t', 6]] own [] names ['0:x', '1:from', '2:to', '3:x', '4:from', '5:to'] calls [] paths 1
set_option maxHeartbeats 4000000 in
set_option maxRecDepth 20000 in
theorem snd16 (x r clk side : Nat) (n : Int) (l : List (En K2)) (q : K2 → List ByteArray) (M : Mem) (hN : NetAt M x r n side clk l q) (a b : Int) : SoundCall Try.prog 16 [ptr x, int a, int b] M fun r M' => r = int (q (a, b)).length ∧ M' = M := by
  obtain ⟨hx, hr, xr, hnd, hst, hsn, hq0, hq1, hbx, hbd, hql, ⟨hn1, hn7⟩, hs63⟩ := id hN
  have rx := xr.symm
  obtain ⟨base, c, hlk, hat⟩ := hN.look (a, b)
  refine SoundCall.go tk16 pl16 mixed Try.func16 cb16 rfl (Nat.le_of_ble_eq_true rfl) ?_
  refine s_seq ?_
  refine s_region ?_
  refine o_q (q_as (v_raw rfl)) rfl rfl rfl ?_
  refine o_nil ?_
  refine s_seq ?_
  refine s_region ?_
  refine o_q (q_mv ((by first | exact v_raw rfl | exact v_sptr rfl))) rfl rfl rfl ?_
  refine o_q (q_nil rfl) rfl rfl rfl ?_
  refine o_q (q_fr fo48_1 rfl) rfl rfl rfl ?_
  refine o_q (q_ldm ag46 sz46 rfl (by repeat first | exact Mem.upd_self _ _ _ | assumption | refine Mem.upd_ne (by assumption) ?_) rfl (v_raw rfl)) rfl rfl rfl ?_
  refine o_q (q_mv (v_raw rfl)) rfl rfl rfl ?_
  refine o_q (q_mv (v_raw rfl)) rfl rfl rfl ?_
  refine o_q (q_b (cs := [_, _]) bz49 bp49 (bfa und49 sz3 (e_raw rfl) rfl rfl (Nat.le_of_ble_eq_true rfl) rfl (bfa und49 sz3 (e_raw rfl) rfl rfl (Nat.le_of_ble_eq_true rfl) rfl bf_nil))) rfl rfl rfl ?_
  refine x_lookup (k := (a, b)) und46 kt49 z40 rfl rfl hr ?_
  rw [hlk]
  refine o_q (q_lenr rfl und40 rfl) rfl rfl rfl ?_
  refine o_q (q_as (v_raw rfl)) rfl rfl rfl ?_
  refine o_nil ?_
  refine s_ret ?_
  refine s_end ?_
  exact ⟨rfl, rfl⟩

def tk10 : Nat → Nat → Option Nat := fun _ _ => none
def pl10 : Nat → List PStep := fun _ => []
theorem cb10 : Try.f10.body.map (codeB Try.prog Try.f10.ntmps tk10 pl10) = some true := by kernel_rfl
theorem goes10 : goesB Try.prog 10 = true := by kernel_rfl
-- (*carillon/net.Net).Cut params ['*net.Net', 'int'] results [] own [] names ['0:x', '1:side', '2:x', '3:side'] calls [] paths 1
set_option maxHeartbeats 4000000 in
set_option maxRecDepth 20000 in
theorem snd10 (x r clk side : Nat) (n : Int) (l : List (En K2)) (q : K2 → List ByteArray) (M : Mem) (hN : NetAt M x r n side clk l q) (O : Nat → Prop) (hO : O = Own x r l) (s : Int) (hs : -2 ^ 63 ≤ s ∧ s < 2 ^ 63) : SoundCall Try.prog 10 [ptr x, int s] M fun _ M' => ∃ O', NetO M' x n s.toNat q O' ∧ Chg M M' O O' := by
  obtain ⟨hx, hr, xr, hnd, hst, hsn, hq0, hq1, hbx, hbd, hql, ⟨hn1, hn7⟩, hs63⟩ := id hN
  have rx := xr.symm
  refine SoundCall.go tk10 pl10 mixed Try.func10 cb10 rfl (Nat.le_of_ble_eq_true rfl) ?_
  refine s_region ?_
  refine o_q (q_mv ((by first | exact v_raw rfl | exact v_sptr rfl))) rfl rfl rfl ?_
  refine o_q (q_mv (v_raw rfl)) rfl rfl rfl ?_
  refine o_q (q_max rfl rfl) rfl rfl rfl ?_
  refine o_q (q_nil rfl) rfl rfl rfl ?_
  refine o_q (q_fr fo48_2 rfl) rfl rfl rfl ?_
  refine o_store rfl (by repeat first | exact Mem.upd_self _ _ _ | assumption | refine Mem.upd_ne (by assumption) ?_) (by first | exact e_raw rfl | exact e_agg rfl | exact e_sl rfl | rfl) rfl sz3 rfl (Nat.le_of_ble_eq_true rfl) rfl rfl ?_
  refine o_nil ?_
  refine s_end ?_
  refine ⟨Own x r l, ⟨r, clk, l, ⟨(Mem.upd_self _ _ _).trans (show some (AObj.cells [int n, .raw (.map (some r)), int (max s 0)]) = _ by rw [show max s 0 = ((s.toNat : Nat) : Int) by omega]), (upd_other rx).trans hr, xr, hnd, hst, hsn, hq0, fun e he => (hq1 e he).frame fun b hb => upd_other (hbx e he b hb).1, hbx, hbd, hql, ⟨hn1, hn7⟩, by omega⟩, rfl⟩, ⟨fun c hc ho => upd_other fun e => ho (by rw [hO]; exact .inl e), fun c hc => .inl (by rw [hO]; exact hc)⟩⟩

def tk9 : Nat → Nat → Option Nat := fun _ _ => none
def pl9 : Nat → List PStep := fun _ => []
theorem cb9 : Try.f9.body.map (codeB Try.prog Try.f9.ntmps tk9 pl9) = some true := by kernel_rfl
theorem goes9 : goesB Try.prog 9 = true := by kernel_rfl
-- carillon/net.New params ['int'] results [['t', 2], ['t', 3]] own [] names ['0:n', '1:n'] calls [] paths 3
set_option maxHeartbeats 4000000 in
set_option maxRecDepth 20000 in
theorem snd9 (n : Int) (M : Mem) : SoundCall Try.prog 9 [int n] M fun r' M' => (¬ (1 ≤ n ∧ n ≤ 7) ∧ r' = .tup [.raw (.pointer none), int 1] ∧ M' = M) ∨ (1 ≤ n ∧ n ≤ 7) ∧ ∃ x O, r' = .tup [ptr x, int 0] ∧ NetO M' x n 0 (fun _ => []) O ∧ M.le M' ∧ ∀ c, O c → M c = none := by
  refine SoundCall.go tk9 pl9 mixed Try.func9 cb9 rfl (Nat.le_of_ble_eq_true rfl) ?_
  refine s_seq ?_
  refine s_region ?_
  refine o_q (q_as ((by first | exact v_raw rfl | exact v_sptr rfl))) rfl rfl rfl ?_
  refine o_q (q_as (v_raw rfl)) rfl rfl rfl ?_
  refine o_nil ?_
  refine s_seq ?_
  refine s_seq ?_
  refine s_region ?_
  refine o_q (q_mv (v_raw rfl)) rfl rfl rfl ?_
  refine o_q (q_lss rfl rfl) rfl rfl rfl ?_
  refine o_q (q_mv (v_raw rfl)) rfl rfl rfl ?_
  refine o_cases (want := false) (j := 2) rfl rfl (fun h1 => ?_) (fun h1 => ?_)
  · have k1 := h1; try simp only [decide_eq_true_eq, decide_eq_false_iff_not, Bool.not_eq_true', Bool.not_eq_false', Bool.not_true, Bool.not_false, List.length_map, Decidable.not_not] at k1
    refine o_yes rfl rfl rfl h1 ?_
    refine o_q (q_mv (v_raw rfl)) rfl rfl rfl ?_
    refine o_yes rfl rfl rfl h1 ?_
    refine o_q (q_gtr rfl rfl) rfl rfl rfl ?_
    refine o_q (q_pick_c (t := false) rfl h1 (v_raw rfl)) rfl rfl rfl ?_
    refine o_nil ?_
    refine s_cond rfl (fun h2 => ?_) (fun h2 => ?_)
    · have k2 := h2; try simp only [decide_eq_true_eq, decide_eq_false_iff_not, Bool.not_eq_true', Bool.not_eq_false', Bool.not_true, Bool.not_false, List.length_map, Decidable.not_not] at k2
      refine s_seq ?_
      refine s_region ?_
      refine o_q (q_as ((by first | exact v_raw rfl | exact v_sptr rfl))) rfl rfl rfl ?_
      refine o_q (q_as (v_raw rfl)) rfl rfl rfl ?_
      refine o_nil ?_
      refine s_ret ?_
      refine s_code_ret ?_
      refine s_end ?_
      exact .inl ⟨by omega, rfl, rfl⟩
    · have k2 := h2; try simp only [decide_eq_true_eq, decide_eq_false_iff_not, Bool.not_eq_true', Bool.not_eq_false', Bool.not_true, Bool.not_false, List.length_map, Decidable.not_not] at k2
      refine s_skip ?_
      refine s_seq ?_
      refine s_region ?_
      refine o_q (q_mv (v_raw rfl)) rfl rfl rfl ?_
      refine x_makeMap (ek := keyV) (fun B0 hB0 => ?_)
      refine o_q (q_b (cs := [_, _, .raw (.int .i64 0)]) bz48 bp48 (bf fo48_0 (e_raw rfl) rfl rfl (Nat.le_of_ble_eq_true rfl) rfl (bf fo48_1 (e_raw rfl) rfl rfl (Nat.le_of_ble_eq_true rfl) rfl bf_nil))) rfl rfl rfl ?_
      refine o_box (by first | exact e_raw rfl | exact e_agg rfl | exact e_sl rfl) rfl rfl (fun B1 hB1 => ?_)
      have hne : B0 ≠ B1 := Mem.fresh_ne hB1 (Mem.upd_self _ _ _)
      refine o_q (q_as ((by first | exact v_raw rfl | exact v_sptr rfl))) rfl rfl rfl ?_
      refine o_q (q_as (v_raw rfl)) rfl rfl rfl ?_
      refine o_nil ?_
      refine s_ret ?_
      refine s_end ?_
      refine .inr ⟨⟨by omega, by omega⟩, B1, Own B1 B0 [], rfl, ⟨B0, 0, [], ⟨Mem.upd_self _ _ _, (upd_other hne).trans (Mem.upd_self _ _ _), hne.symm, List.nodup_nil, (fun e he => by cases he), List.nodup_nil, fun _ _ => rfl, (fun e he => by cases he), (fun e he => by cases he), (fun e he => by cases he), fun _ => by simp, ⟨by omega, by omega⟩, by decide⟩, rfl⟩, Mem.le_upd (Mem.le_upd (Mem.le_refl M) hB0) (Mem.upd_none hB1).2, fun c hc => ?_⟩
      rcases hc with rfl | rfl | ⟨e, he, -⟩
      · exact (Mem.upd_none hB1).2
      · exact hB0
      · cases he
  · have k1 := h1; try simp only [decide_eq_true_eq, decide_eq_false_iff_not, Bool.not_eq_true', Bool.not_eq_false', Bool.not_true, Bool.not_false, List.length_map, Decidable.not_not] at k1
    refine o_no rfl rfl rfl rfl h1 ?_
    refine o_no rfl rfl rfl rfl h1 ?_
    refine o_q (q_pick_c (t := true) rfl h1 (v_raw rfl)) rfl rfl rfl ?_
    refine o_nil ?_
    refine s_then rfl rfl ?_
    refine s_seq ?_
    refine s_region ?_
    refine o_q (q_as ((by first | exact v_raw rfl | exact v_sptr rfl))) rfl rfl rfl ?_
    refine o_q (q_as (v_raw rfl)) rfl rfl rfl ?_
    refine o_nil ?_
    refine s_ret ?_
    refine s_code_ret ?_
    refine s_end ?_
    exact .inl ⟨by omega, rfl, rfl⟩

def tk33 : Nat → Nat → Option Nat := fun _ _ => none
def pl33 : Nat → List PStep := fun _ => []
theorem cb33 : Try.f33.body.map (codeB Try.prog Try.f33.ntmps tk33 pl33) = some true := by kernel_rfl
theorem goes33 : goesB Try.prog 33 = true := by kernel_rfl
-- slices.Clone[[]string,string] params ['[]string'] results [['t', 2]] own [5] names ['0:s', '1:s'] calls [] paths 2
set_option maxHeartbeats 4000000 in
set_option maxRecDepth 20000 in
theorem snd33 (base : Option Addr) (ts : List ByteArray) (c : Nat) (M : Mem) (hb : At str "".toUTF8 M base ts) (hts : 0 < ts.length ∧ ts.length ≤ 64) : SoundCall Try.prog 33 [.raw (.slice base ts.length c)] M fun r' M' => ∃ b k, r' = .raw (.slice (some ⟨b, 0, none⟩) ts.length (ts.length + k)) ∧ M b = none ∧ M' = M.upd b (.cells ((ts ++ List.replicate k "".toUTF8).map str)) := by
  have hne : ts ≠ [] := fun e => by rw [e] at hts; exact absurd hts.1 (by decide)
  obtain ⟨b0, k0, hb1, hb2⟩ := hb.at_ hne
  subst hb1
  refine SoundCall.go tk33 pl33 mixed Try.func33 cb33 rfl (Nat.le_of_ble_eq_true rfl) ?_
  refine s_seq ?_
  refine s_region ?_
  refine o_q (q_as (v_sl rfl)) rfl rfl rfl ?_
  refine o_nil ?_
  refine s_seq ?_
  refine s_seq ?_
  refine s_region ?_
  refine o_q (q_mv (v_raw rfl)) rfl rfl rfl ?_
  refine o_nilraw und40 rfl rfl (.inl rfl) (fun nh1 h1e h1n => ?_)
  refine o_nil ?_
  refine s_cond rfl (fun h2 => ?_) (fun h2 => ?_)
  · have k2 := h2; try simp only [decide_eq_true_eq, decide_eq_false_iff_not, Bool.not_eq_true', Bool.not_eq_false', Bool.not_true, Bool.not_false, List.length_map, Decidable.not_not] at k2
    refine s_seq ?_
    refine s_region ?_
    refine o_q (q_as (v_sl rfl)) rfl rfl rfl ?_
    refine o_nil ?_
    refine s_ret ?_
    refine s_code_ret ?_
    refine s_end ?_
    have := h1e rfl
    subst this
    cases h2
  · have k2 := h2; try simp only [decide_eq_true_eq, decide_eq_false_iff_not, Bool.not_eq_true', Bool.not_eq_false', Bool.not_true, Bool.not_false, List.length_map, Decidable.not_not] at k2
    refine s_skip ?_
    refine s_seq ?_
    refine s_region ?_
    refine o_q (q_bs slt40 pn rfl Els.nil (by decide)) rfl rfl rfl ?_
    refine o_q (q_mv (v_raw rfl)) rfl rfl rfl ?_
    refine o_appf (f := str) (z0 := "".toUTF8) slt40 rfl rfl zc9 (fun _ => ⟨rfl, rfl, rfl, rfl⟩) (by first | exact .inl rfl | exact .inr rfl) (src_at (fun _ => rfl) hb rfl) (by omega) (fun P1 C1 N1 hF1 => ?_)
    refine o_q (q_as (v_raw rfl)) rfl rfl rfl ?_
    refine o_nil ?_
    refine s_ret ?_
    refine s_end ?_
    obtain ⟨b, k, e1, e2, e3, e4⟩ := hF1.new hne
    subst e1; subst e3
    exact ⟨b, k, rfl, e2, e4⟩

def tk32 : Nat → Nat → Option Nat := fun _ _ => none
def pl32 : Nat → List PStep
  | 5 => [.q 0, .q 1, .q 2, .q 3, .q 4, .q 5, .s 6 [0, 1, 2, 3, 4, 5], .q 7]
  | _ => []
theorem cb32 : Try.f32.body.map (codeB Try.prog Try.f32.ntmps tk32 pl32) = some true := by kernel_rfl
theorem goes32 : goesB Try.prog 32 = true := by kernel_rfl
-- slices.Delete[[]string,string] params ['[]string', 'int', 'int'] results [['t', 6]] own [22] names ['0:s', '1:i', '2:j', '3:s', '4:i', '5:j', '7:oldlen'] calls [] paths 1

theorem del_app {α : Type} {ts : List α} {z : α} {i k : Nat} (hi : i < ts.length) : (ts ++ List.replicate k z).take i ++ ts.drop (i + 1) ++ (ts ++ List.replicate k z).drop (i + (ts.drop (i + 1)).length) = ts.eraseIdx i ++ (ts.drop (ts.length - 1) ++ List.replicate k z) := by
  rw [List.take_append_of_le_length (by omega), List.drop_append_of_le_length (by simp; omega), List.eraseIdx_eq_take_drop_succ]
  rw [show i + (ts.drop (i + 1)).length = ts.length - 1 by simp; omega]
theorem del_clr {α : Type} {ts : List α} {z : α} {i k : Nat} (hi : i < ts.length) : (ts.eraseIdx i ++ (ts.drop (ts.length - 1) ++ List.replicate k z)).take (ts.length - 1) ++ List.replicate 1 z ++ (ts.eraseIdx i ++ (ts.drop (ts.length - 1) ++ List.replicate k z)).drop (ts.length - 1 + 1) = ts.eraseIdx i ++ List.replicate (k + 1) z := by
  have h1 : (ts.eraseIdx i).length = ts.length - 1 := by rw [List.length_eraseIdx_of_lt hi]
  have h2 : (ts.drop (ts.length - 1)).length = 1 := by simp; omega
  generalize ts.eraseIdx i = A at *
  generalize ts.drop (ts.length - 1) = D at *
  generalize ts.length - 1 = n at *
  subst h1
  rw [List.take_left, ← List.drop_drop, List.drop_left, List.drop_append_of_le_length (by omega), List.drop_of_length_le (by omega), List.append_assoc]
  rfl
theorem src_tail {T : Nat → AVal} {M : Mem} {y : Operand} {ts : List ByteArray} {b i k c : Nat} (hi : i < ts.length) (hb : M b = some (.cells ((ts ++ List.replicate k "".toUTF8).map str))) (hy : ev T y = .raw (.slice (some ⟨b, if ts.length + k = i + 1 then 0 else 0 + (i + 1) * 1, none⟩) (ts.length - (i + 1)) c)) : srcM M (ev T y) = some (.sl ((ts.drop (i + 1)).map str) false) := by
  rw [src_off (fun _ => rfl) hb (by simp only [List.length_append, List.length_replicate]; split <;> omega) hy]
  by_cases h : ts.length + k = i + 1
  · rw [if_pos h, show ts.length - (i + 1) = 0 by omega, List.drop_of_length_le (show ts.length ≤ i + 1 by omega)]
    simp
  · rw [if_neg h, Nat.zero_add, Nat.mul_one, List.drop_append_of_le_length (by omega), List.take_append_of_le_length (by simp), List.take_of_length_le (by simp)]
set_option maxHeartbeats 4000000 in
set_option maxRecDepth 20000 in
theorem snd32 (b k i : Nat) (ts : List ByteArray) (M : Mem) (hb : M b = some (.cells ((ts ++ List.replicate k "".toUTF8).map str))) (hi : i < ts.length) (hts : ts.length ≤ 64) : SoundCall Try.prog 32 [rsl b ts.length (ts.length + k), int i, int ((i + 1 : Nat) : Int)] M fun r' M' => r' = rsl b (ts.length - 1) (ts.length + k) ∧ M' = M.upd b (.cells ((ts.eraseIdx i ++ List.replicate (k + 1) "".toUTF8).map str)) := by
  have hlen : (ts ++ List.replicate k "".toUTF8).length = ts.length + k := by simp
  have hfs : ∀ a, (str a).shut = str a ∧ (str a).cells = [str a] ∧ (str a).ok = true ∧ (str a).unit = true := fun _ => ⟨rfl, rfl, rfl, rfl⟩
  have hi1 : ((i : Int) + 1) = ((i + 1 : Nat) : Int) := rfl
  refine SoundCall.go tk32 pl32 mixed Try.func32 cb32 rfl (Nat.le_of_ble_eq_true rfl) ?_
  refine s_seq ?_
  refine s_region ?_
  refine o_q (q_as (v_sl rfl)) rfl rfl rfl ?_
  refine o_nil ?_
  refine s_seq ?_
  refine s_region ?_
  refine o_q (q_mv (v_raw rfl)) rfl rfl rfl ?_
  refine o_q (q_mv (v_raw rfl)) rfl rfl rfl ?_
  refine o_q (q_mv (v_raw rfl)) rfl rfl rfl ?_
  refine o_q (q_mv (v_raw rfl)) rfl rfl rfl ?_
  refine o_q (q_lenr rfl und40 rfl) rfl rfl rfl ?_
  refine o_q (q_slr und40 sz9 rfl rfl rfl rfl (bnd_lhm (by omega) (by omega) (by omega))) rfl rfl rfl ?_
  refine o_nil ?_
  refine s_seq ?_
  refine s_seq ?_
  refine s_region ?_
  refine o_q (q_mv (v_raw rfl)) rfl rfl rfl ?_
  refine o_q (q_mv (v_raw rfl)) rfl rfl rfl ?_
  refine o_q (q_eql rfl rfl) rfl rfl rfl ?_
  refine o_nil ?_
  refine s_else rfl (decide_eq_false (by omega)) ?_
  refine s_skip ?_
  refine s_seq ?_
  refine s_region ?_
  refine o_q (q_mv (v_raw rfl)) rfl rfl rfl ?_
  refine o_q (q_lenr rfl und40 rfl) rfl rfl rfl ?_
  refine o_q (q_as (v_raw rfl)) rfl rfl rfl ?_
  refine o_nil ?_
  refine s_seq ?_
  refine s_draw rfl ?_
  refine d_q rfl (q_mv (v_raw rfl)) rfl rfl rfl ?_
  refine d_q rfl (q_mv (v_raw rfl)) rfl rfl rfl ?_
  refine d_q rfl (q_slr und40 sz9 rfl rfl rfl rfl (bnd_h (by omega))) rfl rfl rfl ?_
  refine d_q rfl (q_mv (v_raw rfl)) rfl rfl rfl ?_
  refine d_q rfl (q_mv (v_raw rfl)) rfl rfl rfl ?_
  refine d_q rfl (q_slr und40 sz9 rfl rfl rfl rfl (bnd_l (by omega) (by omega))) rfl rfl rfl ?_
  refine d_s rfl ?_
  refine o_appr (b := b) (n := i) (c := ts.length + k) (l := ts ++ List.replicate k "".toUTF8) (m := ts.drop (i + 1)) (own := false) (f := str) (z0 := "".toUTF8) slt40 rfl rfl zc9 hfs (by show AVal.raw (.slice (some ⟨b, if ts.length + k = 0 then 0 else 0 + 0 * 1, none⟩) _ _) = _; simp) hb (by omega) (by omega) (src_tail hi hb rfl) (by simp; omega) (fun hroom => ?_) (fun hno => absurd (by simp; omega) hno)
  rw [del_app hi, show i + (ts.drop (i + 1)).length = ts.length - 1 by simp; omega]
  refine o_nil ⟨(by simp [Mem.upd, *]), ?_⟩
  refine d_q rfl (q_as (v_raw rfl)) rfl rfl rfl ?_
  refine d_nil ?_
  refine s_seq ?_
  refine s_region ?_
  refine o_q (q_mv (v_raw rfl)) rfl rfl rfl ?_
  refine o_q (q_mv (v_raw rfl)) rfl rfl rfl ?_
  refine o_q (q_lenr rfl und40 rfl) rfl rfl rfl ?_
  refine o_q (q_mv (v_raw rfl)) rfl rfl rfl ?_
  refine o_q (q_slr und40 sz9 rfl rfl rfl rfl (bnd_lh (by omega) (by omega))) rfl rfl rfl ?_
  refine o_clr (b := b) (off := ts.length - 1) (n := 1) (l := ts.eraseIdx i ++ (ts.drop (ts.length - 1) ++ List.replicate k "".toUTF8)) (f := str) (z0 := "".toUTF8) rfl und40 zc9 hfs (by show AVal.raw (.slice (some ⟨b, if ts.length + k = ts.length - 1 then 0 else 0 + (ts.length - 1) * 1, none⟩) (ts.length - (ts.length - 1)) _) = _; rw [if_neg (by omega), show ts.length - (ts.length - 1) = 1 by omega, Nat.zero_add, Nat.mul_one]) (Mem.upd_self _ _ _) (by simp [List.length_eraseIdx_of_lt hi]; omega) ?_
  rw [del_clr hi]
  refine o_nil ?_
  refine s_seq ?_
  refine s_region ?_
  refine o_q (q_mv (v_raw rfl)) rfl rfl rfl ?_
  refine o_q (q_as (v_raw rfl)) rfl rfl rfl ?_
  refine o_nil ?_
  refine s_ret ?_
  refine s_end ?_
  exact ⟨rfl, Mem.upd_upd _ _ _ _⟩
end C05
