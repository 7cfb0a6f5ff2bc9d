import Derived.Test.YticeppepdlgbhaaDoorMo1
/-! Chapter 17: a publish that was answered is answered the same. -/
open Go Go.Proofs Go.Am
set_option linter.unusedVariables false
set_option linter.unusedSimpArgs false
set_option autoImplicit false
namespace C17
theorem fo53_0 : fo Tryd.prog 53 0 = some (0, 9) := by kernel_rfl
theorem sz53 : sizeT Tryd.prog 53 = some 10 := by kernel_rfl
theorem und46 : Tryd.prog.underlying 46 = some (.slice 53) := by kernel_rfl
def tk5 : Nat → Nat → Option Nat := fun _ _ => none
def pl5 : Nat → List PStep
  | 31 => [.q 0, .q 1, .q 2, .q 3, .q 4, .q 5, .q 6, .q 7, .q 8, .q 9, .q 10, .q 11, .q 12, .q 13, .q 14, .q 15, .q 16, .q 17]
  | 33 => [.q 0, .q 1, .q 2, .q 3, .q 4, .q 5, .q 6, .q 7]
  | _ => []
theorem cb5 : Tryd.f5.body.map (codeB Tryd.prog Tryd.f5.ntmps tk5 pl5) = some true := by kernel_rfl

section
variable {ge : TypeId} {gf : Nat × Nat} {M M' : Mem} {b B : Nat} {n m : Int} {x : Mc} {O : Nat → Prop}
theorem Mch.mono (h : Mch ge gf M b n x O) (hm : n ≤ m) : Mch ge gf M b m x O := ⟨h.at', h.ok.mono hm, h.no, h.g⟩
theorem Out.of_upd {o : AObj} (h : Out (M.upd B o) M' O) (hB : M B = Option.none) : Out M M' O := fun d hd => by
  have e : M.upd B o d = M d := upd_other (mem_put hB hd)
  obtain ⟨h1, h2⟩ := h d (by rw [e]; exact hd)
  exact ⟨h1.trans e, h2⟩
end
abbrev pc (c : Cmd) : Cmd := ⟨2, c.topic, c.name, c.seq, c.key, c.val, 0, c.node, c.ask⟩
abbrev cmdC (c : Cmd) : List AVal := [int c.kind, str c.topic, str c.name, int c.seq, str c.key, str c.val, int c.n, int c.node, int c.ask]
theorem read12 {t w : Nat} {x : Tp} {l : List Rec} {off most : Int} {M : Mem} (h : readL x.recs off most = l) (ht : M t = some (.cells (tpC w x))) (hs : Sorted x.recs) (hlen : x.recs.length < 2 ^ 40) : SoundCall Tryd.prog 12 [ptr t, int off, int most] M fun r M' => r = .sl (l.map enc) true ∧ M' = M := by
  have := snd12 t w x off most M ht hs hlen
  rw [h] at this
  exact this
set_option maxHeartbeats 4000000 in
set_option maxRecDepth 20000 in
theorem snd5 (ge : TypeId) (gf : Nat × Nat) (deeds : List MDe) (c : Cmd) (betw : List MDe) (o1 o2 : Bool) (M : Mem) (hG : M 0 = some (szO ge gf)) (hdl : deeds.length < 2 ^ 60) (hbl : betw.length < 2 ^ 60) (hds : ∀ d ∈ deeds, d.c.topic.size < 2 ^ 62 ∧ d.c.name.size < 2 ^ 62) (hbs : ∀ d ∈ betw, d.c.topic.size < 2 ^ 62 ∧ d.c.name.size < 2 ^ 62) (hcs : c.topic.size < 2 ^ 62 ∧ c.name.size < 2 ^ 62) : SoundCall Tryd.prog 5 [.sl (deeds.map encMD) o1, encC c, .sl (betw.map encMD) o2] M fun r M' => r = bool true ∧ M.le M' := by
  have hlw : (deeds.map encMD).length = deeds.length := List.length_map _
  have hlj : (betw.map encMD).length = betw.length := List.length_map _
  refine SoundCall.go tk5 pl5 mixed Tryd.func5 cb5 rfl (Nat.le_of_ble_eq_true rfl) ?_
  refine s_seq ?_
  refine s_region ?_
  refine o_box (by first | exact e_raw rfl | exact e_agg rfl | exact e_sl rfl) rfl rfl (fun B1 hB1 => ?_)
  have c01 : (0 : Nat) ≠ B1 := Mem.fresh_ne hB1 hG
  refine o_q (q_as (v_raw rfl)) rfl rfl rfl ?_
  refine o_nil ?_
  refine s_seq ?_
  refine s_region ?_
  refine o_callx ((snd20 ge gf _ ((upd_other c01).trans hG)).det) goes20 ac_nil rfl ?_
  rintro r M' ⟨rfl, rfl⟩
  refine o_q (q_as (v_raw rfl)) rfl rfl rfl ?_
  refine o_nil ?_
  refine s_seq ?_
  refine s_region ?_
  refine o_callx ((new_m ((upd_other c01).trans hG) (by decide) (by decide))) goes21 (ac (v_raw rfl) ac_nil) rfl ?_
  rintro r M0 ⟨b, O0, rfl, hX0, hO0'⟩
  obtain ⟨hb1, nb1⟩ := hO0' B1 (nn (Mem.upd_self _ _ _))
  have hb1 := hb1.trans (Mem.upd_self _ _ _)
  have hO0 := hO0'.of_upd hB1
  refine o_q (q_mv (v_tup rfl)) rfl rfl rfl ?_
  refine o_q (q_ext rfl rfl (mv)) rfl rfl rfl ?_
  refine o_q (q_ext rfl rfl (v_raw rfl)) rfl rfl rfl ?_
  refine o_q (q_as (mv)) rfl rfl rfl ?_
  refine o_q (q_as (v_raw rfl)) rfl rfl rfl ?_
  refine o_nil ?_
  refine s_seq ?_
  refine s_seq ?_
  refine s_region ?_
  refine o_q (q_mv (mv)) rfl rfl rfl ?_
  refine o_q (q_peql und49 rfl rfl) rfl rfl rfl ?_
  refine o_nil ?_
  refine s_else rfl rfl ?_
  refine s_skip ?_
  refine s_seq ?_
  refine s_seq ?_
  refine s_region ?_
  refine o_q (q_as (v_raw rfl)) rfl rfl rfl ?_
  refine o_nil ?_
  refine s_block ?_
  refine s_loop (fun m S => ∃ T, ∃ M' : Mem, ∃ x : Mc, ∃ O : Nat → Prop, ∃ i : Nat, S = ⟨setT (setT (setT (setT (setT (setT T 0 (.sl (deeds.map encMD) o1)) 2 (.sl (betw.map encMD) o2)) 4 (ptr B1)) 7 (bool true)) 8 (ptr b)) 10 (int (i : Nat)), M'⟩ ∧ Mch ge gf M' b ((2 * i : Nat) : Int) x O ∧ M' B1 = some (.cells (cmdC c)) ∧ ¬ O B1 ∧ Out M M' O ∧ OM x ∧ i ≤ deeds.length ∧ i ≤ 40 ∧ m = deeds.length - i) deeds.length ?_ ?_
  · exact ⟨_, _, newM 3, O0, 0, St.mkT (kp (kp (kp (kp (kp (kp rfl rfl) rfl) rfl) rfl) rfl) rfl).symm, hX0, hb1, nb1, hO0, om_new 3, by omega, by omega, rfl⟩
  rintro m S ⟨T, M', x, O, i, rfl, hX, hb1, nb1, hO, hOM, hi, hi40, rfl⟩
  refine s_seq ?_
  refine s_seq ?_
  refine s_region ?_
  refine o_q (q_mv (v_raw rfl)) rfl rfl rfl ?_
  refine o_q (q_mv (v_sl rfl)) rfl rfl rfl ?_
  refine o_q (q_len rfl und46 rfl) rfl rfl rfl ?_
  refine o_q (q_lss rfl rfl) rfl rfl rfl ?_
  refine o_q (q_mv (v_raw rfl)) rfl rfl rfl ?_
  refine o_g (G := true) rfl rfl rfl rfl rfl (fun hG hc => (q_mv (v_raw rfl))) ?_
  refine o_g (G := true) rfl rfl rfl rfl rfl (fun hG hc => (q_lss (gv_on (gv_and hG hc) rfl) rfl)) ?_
  refine o_q (q_pand (c := _) (b := _) rfl rfl rfl) rfl rfl rfl ?_
  refine o_nil ?_
  refine s_cond rfl (fun h1 => ?_) (fun h1 => ?_)
  · have k1 := h1; try simp only [decide_eq_true_eq, decide_eq_false_iff_not, Bool.not_eq_true', Bool.not_eq_false', Bool.not_true, Bool.not_false, List.length_map, Decidable.not_not] at k1
    have hi2 : i < deeds.length := by
      simp only [Bool.and_eq_true, decide_eq_true_eq, List.length_map] at h1
      omega
    have hi4 : i < 40 := by
      simp only [Bool.and_eq_true, decide_eq_true_eq, List.length_map] at h1
      omega
    refine s_skip ?_
    refine s_seq ?_
    refine s_block ?_
    refine s_seq ?_
    refine s_region ?_
    refine o_q (q_mv (v_sl rfl)) rfl rfl rfl ?_
    refine o_q (q_mv (v_raw rfl)) rfl rfl rfl ?_
    refine o_q (q_idx und46 sz53 rfl rfl (by omega) (gm i (by first | omega | simp)) rfl) rfl rfl rfl ?_
    refine o_q (q_f fo53_0 rfl) rfl rfl rfl ?_
    refine o_q (q_ld ag48 sz48 rfl (gm i (by first | omega | simp)) rfl (v_agg rfl)) rfl rfl rfl ?_
    refine o_alloc zc48 (fun B2 hB2 => ?_)
    have n2 := hX.nof hB2
    have m2 := hO.none hB2
    have c2 : B2 ≠ 0 := fun e => nn hX.g (by rw [← e]; exact hB2)
    have f1_2 : B1 ≠ B2 := Mem.fresh_ne hB2 hb1
    refine o_storew rfl mm mf rfl sz48 rfl rfl rfl rfl ?_
    refine o_nil ?_
    refine s_seq ?_
    refine s_region ?_
    refine o_q (q_fr fo48_0 rfl) rfl rfl rfl ?_
    refine o_q (q_ldm ag3 sz3 rfl mm rfl (v_raw rfl)) rfl rfl rfl ?_
    refine o_q (q_neq rfl rfl) rfl rfl rfl ?_
    refine o_q (q_mv (v_raw rfl)) rfl rfl rfl ?_
    refine o_g (G := true) rfl rfl rfl rfl rfl (fun hG hc => (q_fr fo48_0 rfl)) ?_
    refine o_g (G := true) rfl rfl rfl rfl rfl (fun hG hc => (q_ldm ag3 sz3 (gv_on (gv_and hG hc) rfl) mm rfl (v_raw rfl))) ?_
    refine o_g (G := true) rfl rfl rfl rfl rfl (fun hG hc => (q_neq (gv_on (gv_and hG hc) rfl) rfl)) ?_
    refine o_q (q_pand (c := _) (b := _) rfl rfl rfl) rfl rfl rfl ?_
    refine o_nil ?_
    refine s_cond rfl (fun h2 => ?_) (fun h2 => ?_)
    · have k2 := h2; try simp only [decide_eq_true_eq, decide_eq_false_iff_not, Bool.not_eq_true', Bool.not_eq_false', Bool.not_true, Bool.not_false, List.length_map, Decidable.not_not] at k2
      have hk2 : deeds[i].c.kind ≠ 8 ∧ deeds[i].c.kind ≠ 9 := by
        simp only [Bool.and_eq_true, Bool.not_eq_true', decide_eq_false_iff_not] at h2
        exact h2
      refine s_region ?_
      refine o_q (q_mv (mv)) rfl rfl rfl ?_
      refine o_q (q_ldmw ag48 sz48 rfl mm rfl rfl) rfl rfl rfl ?_
      refine o_callx ((do_m ((hX.upd n2 c2).upd n2 c2) (by omega) (hds _ (List.getElem_mem hi2)) rfl)) goes22 (ac (mv) (ac (v_agg rfl) ac_nil)) rfl ?_
      rintro r M2 ⟨rfl, O2, hX2, hC2⟩
      have q1 := hC2.keep ((upd_other f1_2).trans ((upd_other f1_2).trans hb1)) nb1
      have w1 := hC2.nO ((upd_other f1_2).trans ((upd_other f1_2).trans hb1)) nb1
      have hO2 := ((hO.upd m2).upd m2).chg hC2
      have hOM2 := om_do hOM hk2
      have e2 : ((2 * i : Nat) : Int) + 2 = ((2 * (i + 1) : Nat) : Int) := by omega
      rw [e2] at hX2
      refine o_nil ?_
      refine s_blk_normal ?_
      refine s_region ?_
      refine o_q (q_mv (v_raw rfl)) rfl rfl rfl ?_
      refine o_q (q_add rfl rfl (wrap64 (by omega) (by omega))) rfl rfl rfl ?_
      refine o_q (q_as (v_raw rfl)) rfl rfl rfl ?_
      refine o_nil ?_
      refine s_inv ?_
      exact ⟨deeds.length - (i + 1), by omega, _, _, (doM x deeds[i].c).1, O2, i + 1, St.mkT (kp (kp (kp (kp (kp (kp rfl rfl) rfl) rfl) rfl) rfl) rfl).symm, hX2, q1, w1, hO2, hOM2, by omega, by omega, rfl⟩
    · have k2 := h2; try simp only [decide_eq_true_eq, decide_eq_false_iff_not, Bool.not_eq_true', Bool.not_eq_false', Bool.not_true, Bool.not_false, List.length_map, Decidable.not_not] at k2
      refine s_skip ?_
      refine s_blk_normal ?_
      refine s_region ?_
      refine o_q (q_mv (v_raw rfl)) rfl rfl rfl ?_
      refine o_q (q_add rfl rfl (wrap64 (by omega) (by omega))) rfl rfl rfl ?_
      refine o_q (q_as (v_raw rfl)) rfl rfl rfl ?_
      refine o_nil ?_
      refine s_inv ?_
      exact ⟨deeds.length - (i + 1), by omega, _, _, x, O, i + 1, St.mkT (kp (kp (kp (kp (kp (kp rfl rfl) rfl) rfl) rfl) rfl) rfl).symm, ((hX.upd n2 c2).upd n2 c2).mono (by omega), ((upd_other f1_2).trans ((upd_other f1_2).trans hb1)), nb1, (hO.upd m2).upd m2, hOM, by omega, by omega, rfl⟩
  · have k1 := h1; try simp only [decide_eq_true_eq, decide_eq_false_iff_not, Bool.not_eq_true', Bool.not_eq_false', Bool.not_true, Bool.not_false, List.length_map, Decidable.not_not] at k1
    refine s_exit ?_
    refine s_code_exit ?_
    refine s_inv_exit ?_
    refine s_blk_here ?_
    refine s_seq ?_
    refine s_region ?_
    refine o_q (q_fr fo48_0 rfl) rfl rfl rfl ?_
    refine o_store rfl mm me rfl sz3 rfl (Nat.le_of_ble_eq_true rfl) rfl rfl ?_
    refine o_nil ?_
    refine s_seq ?_
    refine s_region ?_
    refine o_q (q_fr fo48_6 rfl) rfl rfl rfl ?_
    refine o_store rfl mm me rfl sz3 rfl (Nat.le_of_ble_eq_true rfl) rfl rfl ?_
    refine o_nil ?_
    refine s_seq ?_
    refine s_region ?_
    refine o_q (q_mv (mv)) rfl rfl rfl ?_
    refine o_q (q_ldmw ag48 sz48 rfl mm rfl rfl) rfl rfl rfl ?_
    refine o_callx ((do_m (c := pc c) ((hX.upd nb1 c01.symm).upd nb1 c01.symm) (by omega) hcs rfl)) goes22 (ac (mv) (ac (v_agg rfl) ac_nil)) rfl ?_
    rintro r M3 ⟨rfl, O3, hX3, hC3⟩
    have q1 : M3 B1 = some (.cells (cmdC (pc c))) := hC3.keep (Mem.upd_self _ _ _) nb1
    have w1 := hC3.nO (Mem.upd_self _ _ _) nb1
    have hO3 := ((hO.upd hB1).upd hB1).chg hC3
    have hOM3 : OM (doM x (pc c)).1 := om_do hOM ⟨(show (2 : Int) ≠ 8 by decide), (show (2 : Int) ≠ 9 by decide)⟩
    refine o_alloc zc55 (fun B3 hB3 => ?_)
    have n3 := hX3.nof hB3
    have m3 := hO3.none hB3
    have c3 : B3 ≠ 0 := fun e => nn hX3.g (by rw [← e]; exact hB3)
    have f1_3 : B1 ≠ B3 := Mem.fresh_ne hB3 q1
    refine o_storew rfl mm mf rfl sz55 rfl rfl rfl rfl ?_
    refine o_nil ?_
    refine s_seq ?_
    refine s_seq ?_
    refine s_region ?_
    refine o_q (q_fr fo55_0 rfl) rfl rfl rfl ?_
    refine o_q (q_ldm ag3 sz3 rfl mm rfl (v_raw rfl)) rfl rfl rfl ?_
    refine o_q (q_neq rfl rfl) rfl rfl rfl ?_
    refine o_nil ?_
    refine s_cond rfl (fun h3 => ?_) (fun h3 => ?_)
    · have k3 := h3; try simp only [decide_eq_true_eq, decide_eq_false_iff_not, Bool.not_eq_true', Bool.not_eq_false', Bool.not_true, Bool.not_false, List.length_map, Decidable.not_not] at k3
      refine s_seq ?_
      refine s_region ?_
      refine o_q (q_mv (v_raw rfl)) rfl rfl rfl ?_
      refine o_q (q_as (v_raw rfl)) rfl rfl rfl ?_
      refine o_nil ?_
      refine s_ret ?_
      refine s_code_ret ?_
      refine s_end ?_
      exact ⟨rfl, ((hO3.upd m3).upd m3).le⟩
    · have k3 := h3; try simp only [decide_eq_true_eq, decide_eq_false_iff_not, Bool.not_eq_true', Bool.not_eq_false', Bool.not_true, Bool.not_false, List.length_map, Decidable.not_not] at k3
      have h0 : (doM x (pc c)).2.code = 0 := by
        simp only [Bool.not_eq_false', decide_eq_true_eq] at h3
        exact h3
      obtain ⟨hr, hrec, hgot⟩ := got_one hOM rfl h0
      obtain ⟨n1, hn1⟩ : ∃ n1, n1 = (doM x (pc c)).2.n := ⟨_, rfl⟩
      refine s_skip ?_
      refine s_seq ?_
      refine s_seq ?_
      refine s_region ?_
      refine o_q (q_as (v_raw rfl)) rfl rfl rfl ?_
      refine o_nil ?_
      refine s_block ?_
      refine s_loop (fun m S => ∃ T, ∃ M' : Mem, ∃ x : Mc, ∃ O : Nat → Prop, ∃ i : Nat, S = ⟨setT (setT (setT (setT (setT (setT T 2 (.sl (betw.map encMD) o2)) 4 (ptr B1)) 7 (bool true)) 8 (ptr b)) 12 (ptr B3)) 13 (int (i : Nat)), M'⟩ ∧ Mch ge gf M' b ((82 + 2 * i : Nat) : Int) x O ∧ M' B1 = some (.cells (cmdC (pc c))) ∧ ¬ O B1 ∧ M' B3 = some (.cells [int 0, int n1, .sl (([] : List Rec).map enc) false]) ∧ ¬ O B3 ∧ Out M M' O ∧ OM x ∧ Got x (pc c) n1 ∧ i ≤ betw.length ∧ i ≤ 40 ∧ m = betw.length - i) betw.length ?_ ?_
      · exact ⟨_, _, (doM x (pc c)).1, O3, 0, St.mkT (kp (kp (kp (kp (kp (kp rfl rfl) rfl) rfl) rfl) rfl) rfl).symm, ((hX3.upd n3 c3).upd n3 c3).mono (by omega), ((upd_other f1_3).trans ((upd_other f1_3).trans q1)), w1, (Eq.trans (Mem.upd_self _ _ _) (by show some (AObj.cells [int (doM x (pc c)).2.code, int (doM x (pc c)).2.n, .sl ((doM x (pc c)).2.recs.map enc) false]) = _; rw [h0, hrec, hn1])), n3, (hO3.upd m3).upd m3, hOM3, (by rw [hn1]; exact hgot), by omega, by omega, rfl⟩
      rintro m S ⟨T, M', x, O, i, rfl, hX, hb1, nb1, hb3, nb3, hO, hOM, hGt, hi, hi40, rfl⟩
      refine s_seq ?_
      refine s_seq ?_
      refine s_region ?_
      refine o_q (q_mv (v_raw rfl)) rfl rfl rfl ?_
      refine o_q (q_mv (v_sl rfl)) rfl rfl rfl ?_
      refine o_q (q_len rfl und46 rfl) rfl rfl rfl ?_
      refine o_q (q_lss rfl rfl) rfl rfl rfl ?_
      refine o_q (q_mv (v_raw rfl)) rfl rfl rfl ?_
      refine o_g (G := true) rfl rfl rfl rfl rfl (fun hG hc => (q_mv (v_raw rfl))) ?_
      refine o_g (G := true) rfl rfl rfl rfl rfl (fun hG hc => (q_lss (gv_on (gv_and hG hc) rfl) rfl)) ?_
      refine o_q (q_pand (c := _) (b := _) rfl rfl rfl) rfl rfl rfl ?_
      refine o_nil ?_
      refine s_cond rfl (fun h4 => ?_) (fun h4 => ?_)
      · have k4 := h4; try simp only [decide_eq_true_eq, decide_eq_false_iff_not, Bool.not_eq_true', Bool.not_eq_false', Bool.not_true, Bool.not_false, List.length_map, Decidable.not_not] at k4
        have hi2 : i < betw.length := by
          simp only [Bool.and_eq_true, decide_eq_true_eq, List.length_map] at h4
          omega
        have hi4 : i < 40 := by
          simp only [Bool.and_eq_true, decide_eq_true_eq, List.length_map] at h4
          omega
        refine s_skip ?_
        refine s_seq ?_
        refine s_block ?_
        refine s_seq ?_
        refine s_region ?_
        refine o_q (q_mv (v_sl rfl)) rfl rfl rfl ?_
        refine o_q (q_mv (v_raw rfl)) rfl rfl rfl ?_
        refine o_q (q_idx und46 sz53 rfl rfl (by omega) (gm i (by first | omega | simp)) rfl) rfl rfl rfl ?_
        refine o_q (q_f fo53_0 rfl) rfl rfl rfl ?_
        refine o_q (q_ld ag48 sz48 rfl (gm i (by first | omega | simp)) rfl (v_agg rfl)) rfl rfl rfl ?_
        refine o_alloc zc48 (fun B4 hB4 => ?_)
        have n4 := hX.nof hB4
        have m4 := hO.none hB4
        have c4 : B4 ≠ 0 := fun e => nn hX.g (by rw [← e]; exact hB4)
        have f1_4 : B1 ≠ B4 := Mem.fresh_ne hB4 hb1
        have f3_4 : B3 ≠ B4 := Mem.fresh_ne hB4 hb3
        refine o_storew rfl mm mf rfl sz48 rfl rfl rfl rfl ?_
        refine o_nil ?_
        refine s_seq ?_
        refine s_seq ?_
        refine s_region ?_
        refine o_q (q_fr fo48_0 rfl) rfl rfl rfl ?_
        refine o_q (q_ldm ag3 sz3 rfl mm rfl (v_raw rfl)) rfl rfl rfl ?_
        refine o_q (q_eql rfl rfl) rfl rfl rfl ?_
        refine o_q (q_mv (v_raw rfl)) rfl rfl rfl ?_
        refine o_g (G := true) rfl rfl rfl rfl rfl (fun hG hc => (q_fr fo48_0 rfl)) ?_
        refine o_g (G := true) rfl rfl rfl rfl rfl (fun hG hc => (q_ldm ag3 sz3 (gv_on (gv_and hG hc) rfl) mm rfl (v_raw rfl))) ?_
        refine o_g (G := true) rfl rfl rfl rfl rfl (fun hG hc => (q_eql (gv_on (gv_and hG hc) rfl) rfl)) ?_
        refine o_q (q_por (c := _) (b := _) rfl rfl rfl) rfl rfl rfl ?_
        refine o_q (q_mv (v_raw rfl)) rfl rfl rfl ?_
        refine o_g (G := true) rfl rfl rfl rfl rfl (fun hG hc => (q_fr fo48_0 rfl)) ?_
        refine o_g (G := true) rfl rfl rfl rfl rfl (fun hG hc => (q_ldm ag3 sz3 (gv_on (gv_and hG hc) rfl) mm rfl (v_raw rfl))) ?_
        refine o_g (G := true) rfl rfl rfl rfl rfl (fun hG hc => (q_eql (gv_on (gv_and hG hc) rfl) rfl)) ?_
        refine o_g (G := true) rfl rfl rfl rfl rfl (fun hG hc => (q_mv (v_raw (gv_on (gv_and hG hc) rfl)))) ?_
        refine o_g rfl rfl rfl rfl rfl (fun hG hc => (q_fr fo48_1 rfl)) ?_
        refine o_g rfl rfl rfl rfl rfl (fun hG hc => (q_ldm ag9 sz9 (gv_on (gv_and hG hc) rfl) mm rfl (v_raw rfl))) ?_
        refine o_g rfl rfl rfl rfl rfl (fun hG hc => (q_fr fo48_1 rfl)) ?_
        refine o_g rfl rfl rfl rfl rfl (fun hG hc => (q_ldm ag9 sz9 (gv_on (gv_and hG hc) rfl) mm rfl (v_raw rfl))) ?_
        refine o_g rfl rfl rfl rfl rfl (fun hG hc => (q_seql (gv_on (gv_and hG hc) rfl) (gv_on (gv_and hG hc) rfl))) ?_
        refine o_g (G := true) rfl rfl rfl rfl rfl (fun hG hc => (q_pand (c := _) (b := _) (gv_and hG hc) rfl rfl)) ?_
        refine o_g (G := true) rfl rfl rfl rfl rfl (fun hG hc => (q_mv (v_raw (gv_on (gv_and hG hc) rfl)))) ?_
        refine o_g rfl rfl rfl rfl rfl (fun hG hc => (q_fr fo48_2 rfl)) ?_
        refine o_g rfl rfl rfl rfl rfl (fun hG hc => (q_ldm ag9 sz9 (gv_on (gv_and hG hc) rfl) mm rfl (v_raw rfl))) ?_
        refine o_g rfl rfl rfl rfl rfl (fun hG hc => (q_fr fo48_2 rfl)) ?_
        refine o_g rfl rfl rfl rfl rfl (fun hG hc => (q_ldm ag9 sz9 (gv_on (gv_and hG hc) rfl) mm rfl (v_raw rfl))) ?_
        refine o_g rfl rfl rfl rfl rfl (fun hG hc => (q_seql (gv_on (gv_and hG hc) rfl) (gv_on (gv_and hG hc) rfl))) ?_
        refine o_g (G := true) rfl rfl rfl rfl rfl (fun hG hc => (q_pand (c := _) (b := _) (gv_and hG hc) rfl rfl)) ?_
        refine o_g (G := true) rfl rfl rfl rfl rfl (fun hG hc => (q_mv (v_raw (gv_on (gv_and hG hc) rfl)))) ?_
        refine o_g rfl rfl rfl rfl rfl (fun hG hc => (q_fr fo48_3 rfl)) ?_
        refine o_g rfl rfl rfl rfl rfl (fun hG hc => (q_ldm ag3 sz3 (gv_on (gv_and hG hc) rfl) mm rfl (v_raw rfl))) ?_
        refine o_g rfl rfl rfl rfl rfl (fun hG hc => (q_fr fo48_3 rfl)) ?_
        refine o_g rfl rfl rfl rfl rfl (fun hG hc => (q_ldm ag3 sz3 (gv_on (gv_and hG hc) rfl) mm rfl (v_raw rfl))) ?_
        refine o_g rfl rfl rfl rfl rfl (fun hG hc => (q_gtr (gv_on (gv_and hG hc) rfl) (gv_on (gv_and hG hc) rfl))) ?_
        refine o_g (G := true) rfl rfl rfl rfl rfl (fun hG hc => (q_pand (c := _) (b := _) (gv_and hG hc) rfl rfl)) ?_
        refine o_q (q_por (c := _) (b := _) rfl rfl rfl) rfl rfl rfl ?_
        refine o_nil ?_
        refine s_cond rfl (fun h5 => ?_) (fun h5 => ?_)
        · have k5 := h5; try simp only [decide_eq_true_eq, decide_eq_false_iff_not, Bool.not_eq_true', Bool.not_eq_false', Bool.not_true, Bool.not_false, List.length_map, Decidable.not_not] at k5
          refine s_exit ?_
          refine s_code_exit ?_
          refine s_blk_here ?_
          refine s_region ?_
          refine o_q (q_mv (v_raw rfl)) rfl rfl rfl ?_
          refine o_q (q_add rfl rfl (wrap64 (by omega) (by omega))) rfl rfl rfl ?_
          refine o_q (q_as (v_raw rfl)) rfl rfl rfl ?_
          refine o_nil ?_
          refine s_inv ?_
          exact ⟨betw.length - (i + 1), by omega, _, _, x, O, i + 1, St.mkT (kp (kp (kp (kp (kp (kp rfl rfl) rfl) rfl) rfl) rfl) rfl).symm, ((hX.upd n4 c4).upd n4 c4).mono (by omega), ((upd_other f1_4).trans ((upd_other f1_4).trans hb1)), nb1, ((upd_other f3_4).trans ((upd_other f3_4).trans hb3)), nb3, (hO.upd m4).upd m4, hOM, hGt, by omega, by omega, rfl⟩
        · have k5 := h5; try simp only [decide_eq_true_eq, decide_eq_false_iff_not, Bool.not_eq_true', Bool.not_eq_false', Bool.not_true, Bool.not_false, List.length_map, Decidable.not_not] at k5
          have hk2 : ¬ (betw[i].c.kind = 8 ∨ betw[i].c.kind = 9 ∨ (betw[i].c.kind = 2 ∧ betw[i].c.topic = (pc c).topic ∧ betw[i].c.name = (pc c).name ∧ (pc c).seq < betw[i].c.seq)) := by
            intro hc
            rw [← Bool.not_eq_true] at h5
            apply h5
            simp only [Bool.or_eq_true, Bool.and_eq_true, decide_eq_true_eq]
            rcases hc with hc | hc | ⟨g1, g2, g3, g4⟩
            · exact .inl (.inl hc)
            · exact .inl (.inr hc)
            · exact .inr ⟨⟨⟨g1, g2⟩, g3⟩, g4⟩
          refine s_skip ?_
          refine s_region ?_
          refine o_q (q_mv (mv)) rfl rfl rfl ?_
          refine o_q (q_ldmw ag48 sz48 rfl mm rfl rfl) rfl rfl rfl ?_
          refine o_callx ((do_m ((hX.upd n4 c4).upd n4 c4) (by omega) (hbs _ (List.getElem_mem hi2)) rfl)) goes22 (ac (mv) (ac (v_agg rfl) ac_nil)) rfl ?_
          rintro r M2 ⟨rfl, O2, hX2, hC2⟩
          have q1 := hC2.keep ((upd_other f1_4).trans ((upd_other f1_4).trans hb1)) nb1
          have w1 := hC2.nO ((upd_other f1_4).trans ((upd_other f1_4).trans hb1)) nb1
          have q3 := hC2.keep ((upd_other f3_4).trans ((upd_other f3_4).trans hb3)) nb3
          have w3 := hC2.nO ((upd_other f3_4).trans ((upd_other f3_4).trans hb3)) nb3
          have hO2 := ((hO.upd m4).upd m4).chg hC2
          have hOM2 := om_do hOM (c := betw[i].c) ⟨fun e => hk2 (.inl e), fun e => hk2 (.inr (.inl e))⟩
          have hG2 := got_do hOM hGt hk2
          have e2 : ((82 + 2 * i : Nat) : Int) + 2 = ((82 + 2 * (i + 1) : Nat) : Int) := by omega
          rw [e2] at hX2
          refine o_nil ?_
          refine s_blk_normal ?_
          refine s_region ?_
          refine o_q (q_mv (v_raw rfl)) rfl rfl rfl ?_
          refine o_q (q_add rfl rfl (wrap64 (by omega) (by omega))) rfl rfl rfl ?_
          refine o_q (q_as (v_raw rfl)) rfl rfl rfl ?_
          refine o_nil ?_
          refine s_inv ?_
          exact ⟨betw.length - (i + 1), by omega, _, _, (doM x betw[i].c).1, O2, i + 1, St.mkT (kp (kp (kp (kp (kp (kp rfl rfl) rfl) rfl) rfl) rfl) rfl).symm, hX2, q1, w1, q3, w3, hO2, hOM2, hG2, by omega, by omega, rfl⟩
      · have k4 := h4; try simp only [decide_eq_true_eq, decide_eq_false_iff_not, Bool.not_eq_true', Bool.not_eq_false', Bool.not_true, Bool.not_false, List.length_map, Decidable.not_not] at k4
        obtain ⟨y, nm, hy1, hy2, hkl, he2⟩ := got_two (c := pc c) hX.ok (by omega) rfl hr hGt
        have hOn := hOM _ y hy2
        obtain ⟨i0, hi0, hn0, hat⟩ := got_at hOn hkl
        refine s_exit ?_
        refine s_code_exit ?_
        refine s_inv_exit ?_
        refine s_blk_here ?_
        refine s_seq ?_
        refine s_region ?_
        refine o_q (q_mv (mv)) rfl rfl rfl ?_
        refine o_q (q_ldmw ag48 sz48 rfl mm rfl rfl) rfl rfl rfl ?_
        refine o_callx ((do_m (c := pc c) hX (by omega) hcs (Prod.ext rfl he2 : doM x (pc c) = ((doM x (pc c)).1, ⟨0, n1, []⟩)))) goes22 (ac (mv) (ac (v_agg rfl) ac_nil)) rfl ?_
        rintro r M6 ⟨rfl, O6, hX6, hC6⟩
        have q1 := hC6.keep hb1 nb1
        have w1 := hC6.nO hb1 nb1
        have q3 := hC6.keep hb3 nb3
        have w3 := hC6.nO hb3 nb3
        have hO6 := hO.chg hC6
        refine o_alloc zc55 (fun B5 hB5 => ?_)
        have n5 := hX6.nof hB5
        have m5 := hO6.none hB5
        have c5 : B5 ≠ 0 := fun e => nn hX6.g (by rw [← e]; exact hB5)
        have f1_5 : B1 ≠ B5 := Mem.fresh_ne hB5 q1
        have f3_5 : B3 ≠ B5 := Mem.fresh_ne hB5 q3
        refine o_storew rfl mm mf rfl sz55 rfl rfl rfl rfl ?_
        refine o_nil ?_
        refine s_seq ?_
        refine s_region ?_
        refine o_q (q_mv (mv)) rfl rfl rfl ?_
        refine o_q (q_fr fo48_1 rfl) rfl rfl rfl ?_
        refine o_q (q_ldm ag9 sz9 rfl mm rfl (v_raw rfl)) rfl rfl rfl ?_
        refine o_callx ((((hX6.upd n5 c5).upd n5 c5).at'.topic (k := c.topic) (y := y) hy1)) goes23 (ac (mv) (ac (v_raw rfl) ac_nil)) rfl ?_
        rintro r M' ⟨t, w, rfl, rfl, ht, hw, htw, -, -⟩
        have hT := (hX6.ok.tp _ y hy1).2
        have hTl := hT.len
        have hrd : readL y.recs 0 10000 = y.recs := readL_all (fun r hr => (hT.off r hr).1) (by omega)
        refine o_q (q_mv (v_tup rfl)) rfl rfl rfl ?_
        refine o_q (q_ext rfl rfl (mv)) rfl rfl rfl ?_
        refine o_q (q_ext rfl rfl (v_raw rfl)) rfl rfl rfl ?_
        refine o_q (q_as (mv)) rfl rfl rfl ?_
        refine o_q (q_as (v_raw rfl)) rfl rfl rfl ?_
        refine o_nil ?_
        refine s_seq ?_
        refine s_seq ?_
        refine s_region ?_
        refine o_q (q_mv (v_raw rfl)) rfl rfl rfl ?_
        refine o_q (q_not rfl) rfl rfl rfl ?_
        refine o_q (q_mv (v_raw rfl)) rfl rfl rfl ?_
        refine o_yes rfl rfl rfl rfl ?_
        refine o_q (q_mv (mv)) rfl rfl rfl ?_
        refine o_yes rfl rfl rfl rfl ?_
        refine o_q (q_peql und23 rfl rfl) rfl rfl rfl ?_
        refine o_q (q_pick_c (t := false) rfl rfl (v_raw rfl)) rfl rfl rfl ?_
        refine o_q (q_mv (v_raw rfl)) rfl rfl rfl ?_
        refine o_yes rfl rfl rfl rfl ?_
        refine o_q (q_fr fo55_0 rfl) rfl rfl rfl ?_
        refine o_yes rfl rfl rfl rfl ?_
        refine o_q (q_ldm ag3 sz3 rfl mm rfl (v_raw rfl)) rfl rfl rfl ?_
        refine o_yes rfl rfl rfl rfl ?_
        refine o_q (q_neq rfl rfl) rfl rfl rfl ?_
        refine o_q (q_pick_c (t := false) rfl rfl (v_raw rfl)) rfl rfl rfl ?_
        refine o_q (q_mv (v_raw rfl)) rfl rfl rfl ?_
        refine o_g (G := true) rfl rfl rfl rfl rfl (fun hG hc => (q_fr fo55_1 rfl)) ?_
        refine o_g (G := true) rfl rfl rfl rfl rfl (fun hG hc => (q_ldm ag3 sz3 (gv_on (gv_and hG hc) rfl) mm rfl (v_raw rfl))) ?_
        refine o_g (G := true) rfl rfl rfl rfl rfl (fun hG hc => (q_fr fo55_1 rfl)) ?_
        refine o_g (G := true) rfl rfl rfl rfl rfl (fun hG hc => (q_ldm ag3 sz3 (gv_on (gv_and hG hc) rfl) mm rfl (v_raw rfl))) ?_
        refine o_g (G := true) rfl rfl rfl rfl rfl (fun hG hc => (q_neq (gv_on (gv_and hG hc) rfl) (gv_on (gv_and hG hc) rfl))) ?_
        refine o_q (q_por (c := _) (b := _) rfl rfl rfl) rfl rfl rfl ?_
        refine o_nil ?_
        refine s_cond rfl (fun h6 => ?_) (fun h6 => ?_)
        · have k6 := h6; try simp only [decide_eq_true_eq, decide_eq_false_iff_not, Bool.not_eq_true', Bool.not_eq_false', Bool.not_true, Bool.not_false, List.length_map, Decidable.not_not] at k6
          simp at h6
        · have k6 := h6; try simp only [decide_eq_true_eq, decide_eq_false_iff_not, Bool.not_eq_true', Bool.not_eq_false', Bool.not_true, Bool.not_false, List.length_map, Decidable.not_not] at k6
          refine s_skip ?_
          refine s_seq ?_
          refine s_region ?_
          refine o_q (q_mv (mv)) rfl rfl rfl ?_
          refine o_call ((read12 hrd ht hT.srt (by omega))) goes12 (ac (mv) (ac (v_raw rfl) (ac (v_raw rfl) ac_nil))) rfl ?_
          refine o_q (q_as (v_sl rfl)) rfl rfl rfl ?_
          refine o_nil ?_
          refine s_seq ?_
          refine s_region ?_
          refine o_q (q_as (v_raw rfl)) rfl rfl rfl ?_
          refine o_nil ?_
          refine s_seq ?_
          refine s_seq ?_
          refine s_region ?_
          refine o_q (q_as (v_raw rfl)) rfl rfl rfl ?_
          refine o_nil ?_
          refine s_block ?_
          refine s_loop (fun m S => ∃ T, ∃ M7 : Mem, ∃ k : Nat, S = ⟨setT (setT (setT (setT (setT (setT T 4 (ptr B1)) 7 (bool true)) 12 (ptr B3)) 18 (.sl (y.recs.map enc) false)) 19 (int ((if i0 < k then 1 else 0 : Nat) : Int))) 20 (int (k : Nat)), M7⟩ ∧ M7 B1 = some (.cells (cmdC (pc c))) ∧ M7 B3 = some (.cells [int 0, int n1, .sl (([] : List Rec).map enc) false]) ∧ Out M M7 O6 ∧ k ≤ y.recs.length ∧ m = y.recs.length - k) y.recs.length ?_ ?_
          · exact ⟨_, _, 0, St.mkT (kp (kp (kp (kp (kp (kp rfl rfl) rfl) rfl) rfl) rfl) rfl).symm, ((upd_other f1_5).trans ((upd_other f1_5).trans q1)), ((upd_other f3_5).trans ((upd_other f3_5).trans q3)), (hO6.upd m5).upd m5, Nat.zero_le _, rfl⟩
          rintro m S ⟨T, M7, k, rfl, hb1, hb3, hO7, hk, rfl⟩
          refine s_seq ?_
          refine s_seq ?_
          refine s_region ?_
          refine o_q (q_mv (v_raw rfl)) rfl rfl rfl ?_
          refine o_q (q_mv (v_sl rfl)) rfl rfl rfl ?_
          refine o_q (q_len rfl und30 rfl) rfl rfl rfl ?_
          refine o_q (q_lss rfl rfl) rfl rfl rfl ?_
          refine o_nil ?_
          refine s_cond rfl (fun h7 => ?_) (fun h7 => ?_)
          · have k7 := h7; try simp only [decide_eq_true_eq, decide_eq_false_iff_not, Bool.not_eq_true', Bool.not_eq_false', Bool.not_true, Bool.not_false, List.length_map, Decidable.not_not] at k7
            have hk2 : k < y.recs.length := by omega
            have hif1 : (if i0 < k then 1 else 0 : Nat) ≤ 1 := by split <;> omega
            refine s_skip ?_
            refine s_seq ?_
            refine s_block ?_
            refine s_seq ?_
            refine s_draw rfl ?_
            refine d_q rfl (q_mv (v_sl rfl)) rfl rfl rfl ?_
            refine d_q rfl (q_mv (v_raw rfl)) rfl rfl rfl ?_
            refine d_q rfl (q_idx und30 sz60 rfl rfl (by omega) (gm k (by first | omega | simp)) rfl) rfl rfl rfl ?_
            refine d_q rfl (q_f fo60_1 rfl) rfl rfl rfl ?_
            refine d_q rfl (q_ld ag9 sz9 rfl (gm k (by first | omega | simp)) rfl (v_raw rfl)) rfl rfl rfl ?_
            refine d_q rfl (q_fr fo48_2 rfl) rfl rfl rfl ?_
            refine d_q rfl (q_ldm ag9 sz9 rfl mm rfl (v_raw rfl)) rfl rfl rfl ?_
            refine d_q rfl (q_seql rfl rfl) rfl rfl rfl ?_
            refine d_q rfl (q_mv (v_raw rfl)) rfl rfl rfl ?_
            refine d_cases (want := true) (j := 8) rfl rfl (fun h8 => ?_) (fun h8 => ?_)
            · have k8 := h8; try simp only [decide_eq_true_eq, decide_eq_false_iff_not, Bool.not_eq_true', Bool.not_eq_false', Bool.not_true, Bool.not_false, List.length_map, Decidable.not_not] at k8
              refine d_yes rfl (q_mv (v_sl rfl)) rfl rfl rfl h8 rfl rfl ?_
              refine d_yes rfl (q_mv (v_raw rfl)) rfl rfl rfl h8 rfl rfl ?_
              refine d_yes rfl (q_idx und30 sz60 rfl rfl (by omega) (gm k (by first | omega | simp)) rfl) rfl rfl rfl h8 rfl rfl ?_
              refine d_yes rfl (q_f fo60_2 rfl) rfl rfl rfl h8 rfl rfl ?_
              refine d_yes rfl (q_ld ag3 sz3 rfl (gm k (by first | omega | simp)) rfl (v_raw rfl)) rfl rfl rfl h8 rfl rfl ?_
              refine d_yes rfl (q_fr fo48_3 rfl) rfl rfl rfl h8 rfl rfl ?_
              refine d_yes rfl (q_ldm ag3 sz3 rfl mm rfl (v_raw rfl)) rfl rfl rfl h8 rfl rfl ?_
              refine d_yes rfl (q_eql rfl rfl) rfl rfl rfl h8 rfl rfl ?_
              refine d_q rfl (q_pick_c (t := true) rfl h8 (v_raw rfl)) rfl rfl rfl ?_
              refine d_nil ?_
              refine s_cond rfl (fun h9 => ?_) (fun h9 => ?_)
              · have k9 := h9; try simp only [decide_eq_true_eq, decide_eq_false_iff_not, Bool.not_eq_true', Bool.not_eq_false', Bool.not_true, Bool.not_false, List.length_map, Decidable.not_not] at k9
                refine s_seq ?_
                refine s_region ?_
                refine o_q (q_mv (v_raw rfl)) rfl rfl rfl ?_
                refine o_q (q_add rfl rfl (wrap64 (by omega) (by omega))) rfl rfl rfl ?_
                refine o_q (q_as (v_raw rfl)) rfl rfl rfl ?_
                refine o_nil ?_
                refine s_seq ?_
                refine s_draw rfl ?_
                refine d_q rfl (q_mv (v_sl rfl)) rfl rfl rfl ?_
                refine d_q rfl (q_mv (v_raw rfl)) rfl rfl rfl ?_
                refine d_q rfl (q_idx und30 sz60 rfl rfl (by omega) (gm k (by first | omega | simp)) rfl) rfl rfl rfl ?_
                refine d_q rfl (q_f fo60_0 rfl) rfl rfl rfl ?_
                refine d_q rfl (q_ld ag3 sz3 rfl (gm k (by first | omega | simp)) rfl (v_raw rfl)) rfl rfl rfl ?_
                refine d_q rfl (q_fr fo55_1 rfl) rfl rfl rfl ?_
                refine d_q rfl (q_ldm ag3 sz3 rfl mm rfl (v_raw rfl)) rfl rfl rfl ?_
                refine d_q rfl (q_neq rfl rfl) rfl rfl rfl ?_
                refine d_nil ?_
                refine s_cond rfl (fun h10 => ?_) (fun h10 => ?_)
                · have k10 := h10; try simp only [decide_eq_true_eq, decide_eq_false_iff_not, Bool.not_eq_true', Bool.not_eq_false', Bool.not_true, Bool.not_false, List.length_map, Decidable.not_not] at k10
                  exfalso
                  have hki := (hat k hk2).1 ⟨by simpa using h8, by simpa using h9⟩
                  have hof := hOn.off k hk2
                  simp only [Bool.not_eq_true', decide_eq_false_iff_not] at h10
                  omega
                · have k10 := h10; try simp only [decide_eq_true_eq, decide_eq_false_iff_not, Bool.not_eq_true', Bool.not_eq_false', Bool.not_true, Bool.not_false, List.length_map, Decidable.not_not] at k10
                  refine s_skip ?_
                  refine s_blk_normal ?_
                  refine s_region ?_
                  refine o_q (q_mv (v_raw rfl)) rfl rfl rfl ?_
                  refine o_q (q_add rfl rfl (wrap64 (by omega) (by omega))) rfl rfl rfl ?_
                  refine o_q (q_as (v_raw rfl)) rfl rfl rfl ?_
                  refine o_nil ?_
                  refine s_inv ?_
                  have hki := (hat k hk2).1 ⟨by simpa using h8, by simpa using h9⟩
                  exact ⟨y.recs.length - (k + 1), by omega, _, _, k + 1, St.mkT (kp (kp (kp (kp (kp (kp rfl rfl) rfl) rfl) rfl) (congrArg int (by rw [hki, if_neg (Nat.lt_irrefl i0), if_pos (Nat.lt_succ_self i0)]; rfl))) rfl).symm, hb1, hb3, hO7, by omega, rfl⟩
              · have k9 := h9; try simp only [decide_eq_true_eq, decide_eq_false_iff_not, Bool.not_eq_true', Bool.not_eq_false', Bool.not_true, Bool.not_false, List.length_map, Decidable.not_not] at k9
                refine s_skip ?_
                refine s_blk_normal ?_
                refine s_region ?_
                refine o_q (q_mv (v_raw rfl)) rfl rfl rfl ?_
                refine o_q (q_add rfl rfl (wrap64 (by omega) (by omega))) rfl rfl rfl ?_
                refine o_q (q_as (v_raw rfl)) rfl rfl rfl ?_
                refine o_nil ?_
                refine s_inv ?_
                have hki : k ≠ i0 := fun e => by have := (hat k hk2).2 e; simp_all
                have hif : (if i0 < k then 1 else 0 : Nat) = if i0 < k + 1 then 1 else 0 := by
                  by_cases g : i0 < k
                  · rw [if_pos g, if_pos (by omega)]
                  · rw [if_neg g, if_neg (by omega)]
                exact ⟨y.recs.length - (k + 1), by omega, _, _, k + 1, St.mkT (kp (kp (kp (kp (kp (kp rfl rfl) rfl) rfl) rfl) (congrArg (fun n : Nat => int (n : Int)) hif)) rfl).symm, hb1, hb3, hO7, by omega, rfl⟩
            · have k8 := h8; try simp only [decide_eq_true_eq, decide_eq_false_iff_not, Bool.not_eq_true', Bool.not_eq_false', Bool.not_true, Bool.not_false, List.length_map, Decidable.not_not] at k8
              refine d_no rfl rfl rfl rfl h8 rfl ?_
              refine d_no rfl rfl rfl rfl h8 rfl ?_
              refine d_no rfl rfl rfl rfl h8 rfl ?_
              refine d_no rfl rfl rfl rfl h8 rfl ?_
              refine d_no rfl rfl rfl rfl h8 rfl ?_
              refine d_no rfl rfl rfl rfl h8 rfl ?_
              refine d_no rfl rfl rfl rfl h8 rfl ?_
              refine d_no rfl rfl rfl rfl h8 rfl ?_
              refine d_q rfl (q_pick_c (t := false) rfl h8 (v_raw rfl)) rfl rfl rfl ?_
              refine d_nil ?_
              refine s_else rfl rfl ?_
              refine s_skip ?_
              refine s_blk_normal ?_
              refine s_region ?_
              refine o_q (q_mv (v_raw rfl)) rfl rfl rfl ?_
              refine o_q (q_add rfl rfl (wrap64 (by omega) (by omega))) rfl rfl rfl ?_
              refine o_q (q_as (v_raw rfl)) rfl rfl rfl ?_
              refine o_nil ?_
              refine s_inv ?_
              have hki : k ≠ i0 := fun e => by have := (hat k hk2).2 e; simp_all
              have hif : (if i0 < k then 1 else 0 : Nat) = if i0 < k + 1 then 1 else 0 := by
                by_cases g : i0 < k
                · rw [if_pos g, if_pos (by omega)]
                · rw [if_neg g, if_neg (by omega)]
              exact ⟨y.recs.length - (k + 1), by omega, _, _, k + 1, St.mkT (kp (kp (kp (kp (kp (kp rfl rfl) rfl) rfl) rfl) (congrArg (fun n : Nat => int (n : Int)) hif)) rfl).symm, hb1, hb3, hO7, by omega, rfl⟩
          · have k7 := h7; try simp only [decide_eq_true_eq, decide_eq_false_iff_not, Bool.not_eq_true', Bool.not_eq_false', Bool.not_true, Bool.not_false, List.length_map, Decidable.not_not] at k7
            refine s_exit ?_
            refine s_code_exit ?_
            refine s_inv_exit ?_
            refine s_blk_here ?_
            refine s_seq ?_
            refine s_region ?_
            refine o_q (q_mv (v_raw rfl)) rfl rfl rfl ?_
            refine o_q (q_mv (v_raw rfl)) rfl rfl rfl ?_
            refine o_g (G := true) rfl rfl rfl rfl rfl (fun hG hc => (q_mv (v_raw rfl))) ?_
            refine o_g (G := true) rfl rfl rfl rfl rfl (fun hG hc => (q_eql (gv_on (gv_and hG hc) rfl) rfl)) ?_
            refine o_q (q_pand (c := _) (b := _) rfl rfl rfl) rfl rfl rfl ?_
            refine o_q (q_as (v_raw rfl)) rfl rfl rfl ?_
            refine o_nil ?_
            refine s_ret ?_
            refine s_end ?_
            obtain rfl : k = y.recs.length := by omega
            exact ⟨congrArg bool (by rw [if_pos hi0]; rfl), hO7.le⟩
end C17
