import Derived.Test.YticeppepdlgbhaaDoorMp1
/-! Chapter 17: what is done of one topic changes nothing of another one. -/
open Go Go.Proofs Go.Am
set_option linter.unusedVariables false
set_option linter.unusedSimpArgs false
set_option autoImplicit false
namespace C17
theorem und62 : Tryd.prog.underlying 62 = some (.slice 48) := by kernel_rfl
theorem und63 : Tryd.prog.underlying 63 = some (.slice 4) := by kernel_rfl
def tk6 : Nat → Nat → Option Nat := fun _ _ => none
def pl6 : Nat → List PStep := fun _ => []
theorem cb6 : Tryd.f6.body.map (codeB Tryd.prog Tryd.f6.ntmps tk6 pl6) = some true := by kernel_rfl

abbrev cmdC (c : Cmd) : List AVal := [int c.kind, str c.topic, str c.name, int c.seq, str c.key, str c.val, int c.n, int c.node, int c.ask]
/-- Two machines that have no memory in common. -/
structure Duo (ge : TypeId) (gf : Nat × Nat) (M0 M : Mem) (b1 b2 : Nat) (n : Int) (x z : Mc) (O1 O2 : Nat → Prop) : Prop where
  a : Mch ge gf M b1 n x O1
  b : Mch ge gf M b2 n z O2
  dj : ∀ d, O1 d → ¬ O2 d
  oa : Out M0 M O1
  ob : Out M0 M O2
section
variable {ge : TypeId} {gf : Nat × Nat} {M0 M M' : Mem} {b1 b2 B : Nat} {n m : Int} {x z x' z' : Mc} {O1 O2 O' : Nat → Prop}
theorem Mch.mono (h : Mch ge gf M b1 n x O1) (hm : n ≤ m) : Mch ge gf M b1 m x O1 := ⟨h.at', h.ok.mono hm, h.no, h.g⟩
theorem Duo.fr (h : Duo ge gf M0 M b1 b2 n x z O1 O2) (hB : M0 B = none) (h1 : ¬ O1 B) (h2 : ¬ O2 B) (h0 : B ≠ 0) (hk : ∀ d, d ≠ B → M' d = M d) : Duo ge gf M0 M' b1 b2 n x z O1 O2 where
  a := h.a.fr (fun c hc => hk c fun e => h1 (by rw [← e]; exact hc)) (hk 0 (Ne.symm h0))
  b := h.b.fr (fun c hc => hk c fun e => h2 (by rw [← e]; exact hc)) (hk 0 (Ne.symm h0))
  dj := h.dj
  oa := fun d hd => ⟨(hk d (mem_put hB hd)).trans (h.oa d hd).1, (h.oa d hd).2⟩
  ob := fun d hd => ⟨(hk d (mem_put hB hd)).trans (h.ob d hd).1, (h.ob d hd).2⟩
theorem Duo.upd {o : AObj} (h : Duo ge gf M0 M b1 b2 n x z O1 O2) (hB : M0 B = none) (h1 : ¬ O1 B) (h2 : ¬ O2 B) (h0 : B ≠ 0) : Duo ge gf M0 (M.upd B o) b1 b2 n x z O1 O2 := h.fr hB h1 h2 h0 fun d hd => upd_other hd
theorem Duo.mono (h : Duo ge gf M0 M b1 b2 n x z O1 O2) (hm : n ≤ m) : Duo ge gf M0 M b1 b2 m x z O1 O2 := ⟨h.a.mono hm, h.b.mono hm, h.dj, h.oa, h.ob⟩
theorem Duo.stepA (h : Duo ge gf M0 M b1 b2 n x z O1 O2) (hm : n ≤ m) (hX : Mch ge gf M' b1 m x' O') (hC : Chg M M' O1 O') : Duo ge gf M0 M' b1 b2 m x' z O' O2 where
  a := hX
  b := (h.b.fr (fun c hc => hC.eq c (h.b.at'.ok c hc) fun h1 => h.dj c h1 hc) (hC.eq 0 (nn h.a.g) h.a.no)).mono hm
  dj := fun d hd h2 => (hC.new d hd).elim (fun h1 => h.dj d h1 h2) (h.b.at'.ok d h2)
  oa := h.oa.chg hC
  ob := fun d hd => ⟨(hC.eq d (by rw [(h.ob d hd).1]; exact hd) (h.oa d hd).2).trans (h.ob d hd).1, (h.ob d hd).2⟩
theorem Duo.stepB (h : Duo ge gf M0 M b1 b2 n x z O1 O2) (hm : n ≤ m) (hX : Mch ge gf M' b2 m z' O') (hC : Chg M M' O2 O') : Duo ge gf M0 M' b1 b2 m x z' O1 O' where
  a := (h.a.fr (fun c hc => hC.eq c (h.a.at'.ok c hc) (h.dj c hc)) (hC.eq 0 (nn h.b.g) h.b.no)).mono hm
  b := hX
  dj := fun d hd h2 => (hC.new d h2).elim (h.dj d hd) (h.a.at'.ok d hd)
  oa := fun d hd => ⟨(hC.eq d (by rw [(h.oa d hd).1]; exact hd) (h.ob d hd).2).trans (h.oa d hd).1, (h.oa d hd).2⟩
  ob := h.ob.chg hC
end
theorem farB_in {l : List Bool} {i : Nat} (h : i < l.length) : farB l i = l[i] := by unfold farB; rw [List.getElem?_eq_getElem h]; rfl
theorem farB_out {l : List Bool} {i : Nat} (h : ¬ i < l.length) : farB l i = false := by unfold farB; rw [List.getElem?_eq_none (by omega)]; rfl
theorem ck1_p {c : Cmd} (h : c.topic ≠ emp) : ck1 c = ⟨c.kind, tA, c.name, c.seq, c.key, c.val, c.n, c.node, c.ask⟩ := if_pos h
theorem ck1_n {c : Cmd} (h : ¬ c.topic ≠ emp) : ck1 c = c := if_neg h
theorem ck2_p {c : Cmd} (h : c.name ≠ emp ∧ c.kind ≠ 2) : ck2 c = ⟨c.kind, c.topic, sS, c.seq, c.key, c.val, c.n, c.node, c.ask⟩ := if_pos h
theorem ck2_n {c : Cmd} (h : ¬ (c.name ≠ emp ∧ c.kind ≠ 2)) : ck2 c = c := if_neg h
theorem ck3_p {f : Bool} {c : Cmd} (h : f = true ∧ c.topic ≠ emp) : ck3 f c = ⟨c.kind, tB, c.name, c.seq, c.key, c.val, c.n, c.node, c.ask⟩ := if_pos h
theorem ck3_n {f : Bool} {c : Cmd} (h : ¬ (f = true ∧ c.topic ≠ emp)) : ck3 f c = c := if_neg h
theorem ck4_p {f : Bool} {c : Cmd} (h : f = true ∧ c.name = sS) : ck4 f c = ⟨c.kind, c.topic, sT, c.seq, c.key, c.val, c.n, c.node, c.ask⟩ := if_pos h
theorem ck4_n {f : Bool} {c : Cmd} (h : ¬ (f = true ∧ c.name = sS)) : ck4 f c = c := if_neg h
theorem cook_size {f : Bool} {c : Cmd} (h : c.topic.size < 2 ^ 62 ∧ c.name.size < 2 ^ 62) : (cook f c).topic.size < 2 ^ 62 ∧ (cook f c).name.size < 2 ^ 62 := by
  have h1 : ∀ c : Cmd, (c.topic.size < 2 ^ 62 ∧ c.name.size < 2 ^ 62) → (ck1 c).topic.size < 2 ^ 62 ∧ (ck1 c).name.size < 2 ^ 62 := fun c h => by
    unfold ck1; split
    · exact ⟨(show 1 < 2 ^ 62 by decide), h.2⟩
    · exact h
  have h2 : ∀ c : Cmd, (c.topic.size < 2 ^ 62 ∧ c.name.size < 2 ^ 62) → (ck2 c).topic.size < 2 ^ 62 ∧ (ck2 c).name.size < 2 ^ 62 := fun c h => by
    unfold ck2; split
    · exact ⟨h.1, (show 1 < 2 ^ 62 by decide)⟩
    · exact h
  have h3 : ∀ c : Cmd, (c.topic.size < 2 ^ 62 ∧ c.name.size < 2 ^ 62) → (ck3 f c).topic.size < 2 ^ 62 ∧ (ck3 f c).name.size < 2 ^ 62 := fun c h => by
    unfold ck3; split
    · exact ⟨(show 1 < 2 ^ 62 by decide), h.2⟩
    · exact h
  have h4 : ∀ c : Cmd, (c.topic.size < 2 ^ 62 ∧ c.name.size < 2 ^ 62) → (ck4 f c).topic.size < 2 ^ 62 ∧ (ck4 f c).name.size < 2 ^ 62 := fun c h => by
    unfold ck4; split
    · exact ⟨h.1, (show 1 < 2 ^ 62 by decide)⟩
    · exact h
  exact h4 _ (h3 _ (h2 _ (h1 _ h)))
set_option maxHeartbeats 4000000 in
set_option maxRecDepth 20000 in
theorem snd6 (ge : TypeId) (gf : Nat × Nat) (cs : List Cmd) (other : List Bool) (o1 o2 : Bool) (M : Mem) (hG : M 0 = some (szO ge gf)) (hcl : cs.length < 2 ^ 60) (hol : other.length < 2 ^ 60) (hcs : ∀ c ∈ cs, c.topic.size < 2 ^ 62 ∧ c.name.size < 2 ^ 62) : SoundCall Tryd.prog 6 [.sl (cs.map encC) o1, .sl (other.map bool) o2] M fun r M' => r = bool true ∧ M.le M' := by
  have hlw : (cs.map encC).length = cs.length := List.length_map _
  have hlj : (other.map bool).length = other.length := List.length_map _
  refine SoundCall.go tk6 pl6 mixed Tryd.func6 cb6 rfl (Nat.le_of_ble_eq_true rfl) ?_
  refine s_seq ?_
  refine s_region ?_
  refine o_q (q_as (v_raw rfl)) rfl rfl rfl ?_
  refine o_nil ?_
  refine s_seq ?_
  refine s_region ?_
  refine o_call ((snd20 ge gf _ hG).det) goes20 ac_nil rfl ?_
  refine o_q (q_as (v_raw rfl)) rfl rfl rfl ?_
  refine o_nil ?_
  refine s_seq ?_
  refine s_region ?_
  refine o_callx ((new_m hG (by decide) (by decide))) goes21 (ac (v_raw rfl) ac_nil) rfl ?_
  rintro r M0 ⟨b1, O1, rfl, hX0, hO0⟩
  refine o_q (q_mv (v_tup rfl)) rfl rfl rfl ?_
  refine o_q (q_ext rfl rfl (mv)) rfl rfl rfl ?_
  refine o_q (q_ext rfl rfl (v_raw rfl)) rfl rfl rfl ?_
  refine o_q (q_as (mv)) rfl rfl rfl ?_
  refine o_q (q_as (v_raw rfl)) rfl rfl rfl ?_
  refine o_nil ?_
  refine s_seq ?_
  refine s_region ?_
  refine o_callx ((new_m hX0.g (by decide) (by decide))) goes21 (ac (v_raw rfl) ac_nil) rfl ?_
  rintro r M1 ⟨b2, O2, rfl, hZ0, hO1⟩
  have hD0 : Duo ge gf M M1 b1 b2 ((4 * 0 : Nat) : Int) (newM 3) (newM 3) O1 O2 := ⟨hX0.fr (fun c hc => (hO1 c (hX0.at'.ok c hc)).1) (hO1 0 (nn hX0.g)).1, hZ0, fun d hd => (hO1 d (hX0.at'.ok d hd)).2, fun d hd => ⟨((hO1 d (by rw [(hO0 d hd).1]; exact hd)).1).trans (hO0 d hd).1, (hO0 d hd).2⟩, fun d hd => ⟨((hO1 d (by rw [(hO0 d hd).1]; exact hd)).1).trans (hO0 d hd).1, (hO1 d (by rw [(hO0 d hd).1]; exact hd)).2⟩⟩
  refine o_q (q_mv (v_tup rfl)) rfl rfl rfl ?_
  refine o_q (q_ext rfl rfl (mv)) rfl rfl rfl ?_
  refine o_q (q_ext rfl rfl (v_raw rfl)) rfl rfl rfl ?_
  refine o_q (q_as (mv)) rfl rfl rfl ?_
  refine o_q (q_as (v_raw rfl)) rfl rfl rfl ?_
  refine o_nil ?_
  refine s_seq ?_
  refine s_seq ?_
  refine s_region ?_
  refine o_q (q_mv (mv)) rfl rfl rfl ?_
  refine o_q (q_peql und49 rfl rfl) rfl rfl rfl ?_
  refine o_q (q_mv (v_raw rfl)) rfl rfl rfl ?_
  refine o_yes rfl rfl rfl rfl ?_
  refine o_q (q_mv (mv)) rfl rfl rfl ?_
  refine o_yes rfl rfl rfl rfl ?_
  refine o_q (q_peql und49 rfl rfl) rfl rfl rfl ?_
  refine o_q (q_pick_c (t := false) rfl rfl (v_raw rfl)) rfl rfl rfl ?_
  refine o_nil ?_
  refine s_else rfl rfl ?_
  refine s_skip ?_
  refine s_seq ?_
  refine s_seq ?_
  refine s_region ?_
  refine o_q (q_as (v_raw rfl)) rfl rfl rfl ?_
  refine o_nil ?_
  refine s_block ?_
  refine s_loop (fun m S => ∃ T, ∃ M' : Mem, ∃ x z : Mc, ∃ O1 O2 : Nat → Prop, ∃ i : Nat, S = ⟨setT (setT (setT (setT (setT (setT T 0 (.sl (cs.map encC) o1)) 1 (.sl (other.map bool) o2)) 5 (bool true)) 6 (ptr b1)) 8 (ptr b2)) 10 (int (i : Nat)), M'⟩ ∧ Duo ge gf M M' b1 b2 ((4 * i : Nat) : Int) x z O1 O2 ∧ Rel x z ∧ i ≤ cs.length ∧ i ≤ 60 ∧ m = cs.length - i) cs.length ?_ ?_
  · exact ⟨_, _, newM 3, newM 3, O1, O2, 0, St.mkT (kp (kp (kp (kp (kp (kp rfl rfl) rfl) rfl) rfl) rfl) rfl).symm, hD0, rel_new 3, by omega, by omega, rfl⟩
  rintro m S ⟨T, M', x, z, O1, O2, i, rfl, hD, hR, hi, hi60, rfl⟩
  refine s_seq ?_
  refine s_seq ?_
  refine s_region ?_
  refine o_q (q_mv (v_raw rfl)) rfl rfl rfl ?_
  refine o_q (q_mv (v_sl rfl)) rfl rfl rfl ?_
  refine o_q (q_len rfl und62 rfl) rfl rfl rfl ?_
  refine o_q (q_lss rfl rfl) rfl rfl rfl ?_
  refine o_q (q_mv (v_raw rfl)) rfl rfl rfl ?_
  refine o_g (G := true) rfl rfl rfl rfl rfl (fun hG hc => (q_mv (v_raw rfl))) ?_
  refine o_g (G := true) rfl rfl rfl rfl rfl (fun hG hc => (q_lss (gv_on (gv_and hG hc) rfl) rfl)) ?_
  refine o_q (q_pand (c := _) (b := _) rfl rfl rfl) rfl rfl rfl ?_
  refine o_nil ?_
  refine s_cond rfl (fun h1 => ?_) (fun h1 => ?_)
  · have k1 := h1; try simp only [decide_eq_true_eq, decide_eq_false_iff_not, Bool.not_eq_true', Bool.not_eq_false', Bool.not_true, Bool.not_false, List.length_map, Decidable.not_not] at k1
    have hi2 : i < cs.length := by
      simp only [Bool.and_eq_true, decide_eq_true_eq, List.length_map] at h1
      omega
    have hi6 : i < 60 := by
      simp only [Bool.and_eq_true, decide_eq_true_eq, List.length_map] at h1
      omega
    refine s_skip ?_
    refine s_seq ?_
    refine s_block ?_
    refine s_seq ?_
    refine s_region ?_
    refine o_q (q_mv (v_sl rfl)) rfl rfl rfl ?_
    refine o_q (q_mv (v_raw rfl)) rfl rfl rfl ?_
    refine o_q (q_idx und62 sz48 rfl rfl (by omega) (gm i (by first | omega | simp)) rfl) rfl rfl rfl ?_
    refine o_q (q_lde ag48 sz48 rfl (gm i (by first | omega | simp)) rfl rfl) rfl rfl rfl ?_
    refine o_alloc zc48 (fun B1 hB1 => ?_)
    have na1 := hD.a.nof hB1
    have nb1 := hD.b.nof hB1
    have m1 := hD.oa.none hB1
    have c1 : B1 ≠ 0 := fun e => nn hD.a.g (by rw [← e]; exact hB1)
    refine o_storew rfl mm mf rfl sz48 rfl rfl rfl rfl ?_
    refine o_nil ?_
    refine s_seq ?_
    refine s_seq ?_
    refine s_region ?_
    refine o_q (q_fr fo48_0 rfl) rfl rfl rfl ?_
    refine o_q (q_ldm ag3 sz3 rfl mm rfl (v_raw rfl)) rfl rfl rfl ?_
    refine o_q (q_eql rfl rfl) rfl rfl rfl ?_
    refine o_q (q_mv (v_raw rfl)) rfl rfl rfl ?_
    refine o_g (G := true) rfl rfl rfl rfl rfl (fun hG hc => (q_fr fo48_0 rfl)) ?_
    refine o_g (G := true) rfl rfl rfl rfl rfl (fun hG hc => (q_ldm ag3 sz3 (gv_on (gv_and hG hc) rfl) mm rfl (v_raw rfl))) ?_
    refine o_g (G := true) rfl rfl rfl rfl rfl (fun hG hc => (q_eql (gv_on (gv_and hG hc) rfl) rfl)) ?_
    refine o_q (q_por (c := _) (b := _) rfl rfl rfl) rfl rfl rfl ?_
    refine o_nil ?_
    refine s_cond rfl (fun h2 => ?_) (fun h2 => ?_)
    · have k2 := h2; try simp only [decide_eq_true_eq, decide_eq_false_iff_not, Bool.not_eq_true', Bool.not_eq_false', Bool.not_true, Bool.not_false, List.length_map, Decidable.not_not] at k2
      refine s_exit ?_
      refine s_code_exit ?_
      refine s_blk_here ?_
      refine s_region ?_
      refine o_q (q_mv (v_raw rfl)) rfl rfl rfl ?_
      refine o_q (q_add rfl rfl (wrap64 (by omega) (by omega))) rfl rfl rfl ?_
      refine o_q (q_as (v_raw rfl)) rfl rfl rfl ?_
      refine o_nil ?_
      refine s_inv ?_
      exact ⟨cs.length - (i + 1), by omega, _, _, x, z, O1, O2, i + 1, St.mkT (kp (kp (kp (kp (kp (kp rfl rfl) rfl) rfl) rfl) rfl) rfl).symm, ((hD.upd m1 na1 nb1 c1).upd m1 na1 nb1 c1).mono (by omega), hR, by omega, by omega, rfl⟩
    · have k2 := h2; try simp only [decide_eq_true_eq, decide_eq_false_iff_not, Bool.not_eq_true', Bool.not_eq_false', Bool.not_true, Bool.not_false, List.length_map, Decidable.not_not] at k2
      have hkk : ¬ (cs[i].kind = 10 ∨ cs[i].kind = 11) := fun hc => by
        have e : (decide (cs[i].kind = 10) || decide (cs[i].kind = 11)) = true := by
          simp only [Bool.or_eq_true, decide_eq_true_eq]; exact hc
        exact absurd (e.symm.trans h2) (by decide)
      refine s_skip ?_
      refine s_seq ?_
      refine s_cut (fun S => ∃ T, ∃ f : Bool, ∃ M2 : Mem, S = ⟨setT (setT (setT (setT (setT (setT (setT (setT T 0 (.sl (cs.map encC) o1)) 1 (.sl (other.map bool) o2)) 5 (bool true)) 6 (ptr b1)) 8 (ptr b2)) 10 (int (i : Nat))) 11 (ptr B1)) 12 (bool f), M2⟩ ∧ M2 B1 = some (.cells (cmdC cs[i])) ∧ ∀ d, d ≠ B1 → M2 d = M' d) ?_ ?_
      · skip
        refine s_region ?_
        refine o_q (q_mv (v_raw rfl)) rfl rfl rfl ?_
        refine o_q (q_mv (v_sl rfl)) rfl rfl rfl ?_
        refine o_q (q_len rfl und63 rfl) rfl rfl rfl ?_
        refine o_q (q_lss rfl rfl) rfl rfl rfl ?_
        refine o_q (q_mv (v_raw rfl)) rfl rfl rfl ?_
        refine o_cases (want := true) (j := 4) rfl rfl (fun h3 => ?_) (fun h3 => ?_)
        · have k3 := h3; try simp only [decide_eq_true_eq, decide_eq_false_iff_not, Bool.not_eq_true', Bool.not_eq_false', Bool.not_true, Bool.not_false, List.length_map, Decidable.not_not] at k3
          refine o_yes rfl rfl rfl h3 ?_
          refine o_q (q_mv (v_sl rfl)) rfl rfl rfl ?_
          refine o_yes rfl rfl rfl h3 ?_
          refine o_q (q_mv (v_raw rfl)) rfl rfl rfl ?_
          refine o_yes rfl rfl rfl h3 ?_
          refine o_q (q_idx und63 sz4 rfl rfl (by omega) (gm i (by first | omega | simp)) rfl) rfl rfl rfl ?_
          refine o_yes rfl rfl rfl h3 ?_
          refine o_q (q_ld ag4 sz4 rfl (gm i (by first | omega | simp)) rfl (v_raw rfl)) rfl rfl rfl ?_
          refine o_q (q_pick_c (t := true) rfl h3 (v_raw rfl)) rfl rfl rfl ?_
          refine o_q (q_as (v_raw rfl)) rfl rfl rfl ?_
          refine o_nil ?_
          refine s_inv ?_
          exact ⟨_, farB other i, _, St.mkT (kp (kp (kp (kp (kp (kp (kp (kp rfl rfl) rfl) rfl) rfl) rfl) rfl) rfl) (congrArg bool (farB_in (by omega)).symm)).symm, Mem.upd_self _ _ _, (fun d hd => (upd_other hd).trans (upd_other hd))⟩
        · have k3 := h3; try simp only [decide_eq_true_eq, decide_eq_false_iff_not, Bool.not_eq_true', Bool.not_eq_false', Bool.not_true, Bool.not_false, List.length_map, Decidable.not_not] at k3
          refine o_no rfl rfl rfl rfl h3 ?_
          refine o_no rfl rfl rfl rfl h3 ?_
          refine o_no rfl rfl rfl rfl h3 ?_
          refine o_no rfl rfl rfl rfl h3 ?_
          refine o_q (q_pick_c (t := false) rfl h3 (v_raw rfl)) rfl rfl rfl ?_
          refine o_q (q_as (v_raw rfl)) rfl rfl rfl ?_
          refine o_nil ?_
          refine s_inv ?_
          exact ⟨_, farB other i, _, St.mkT (kp (kp (kp (kp (kp (kp (kp (kp rfl rfl) rfl) rfl) rfl) rfl) rfl) rfl) (congrArg bool (farB_out (by omega)).symm)).symm, Mem.upd_self _ _ _, (fun d hd => (upd_other hd).trans (upd_other hd))⟩
      rintro S ⟨T, f, M11, rfl, hb11, hk11⟩
      refine s_seq ?_
      refine s_seq ?_
      refine s_region ?_
      refine o_q (q_fr fo48_1 rfl) rfl rfl rfl ?_
      refine o_q (q_ldm ag9 sz9 rfl mm rfl (v_raw rfl)) rfl rfl rfl ?_
      refine o_q (q_sneq rfl rfl) rfl rfl rfl ?_
      refine o_nil ?_
      refine s_cut (fun S => ∃ T, ∃ M2 : Mem, S = ⟨setT (setT (setT (setT (setT (setT (setT (setT T 0 (.sl (cs.map encC) o1)) 1 (.sl (other.map bool) o2)) 5 (bool true)) 6 (ptr b1)) 8 (ptr b2)) 10 (int (i : Nat))) 11 (ptr B1)) 12 (bool f), M2⟩ ∧ M2 B1 = some (.cells (cmdC (ck1 cs[i]))) ∧ ∀ d, d ≠ B1 → M2 d = M' d) ?_ ?_
      · skip
        refine s_cond rfl (fun h4 => ?_) (fun h4 => ?_)
        · have k4 := h4; try simp only [decide_eq_true_eq, decide_eq_false_iff_not, Bool.not_eq_true', Bool.not_eq_false', Bool.not_true, Bool.not_false, List.length_map, Decidable.not_not] at k4
          refine s_region ?_
          refine o_q (q_fr fo48_1 rfl) rfl rfl rfl ?_
          refine o_store rfl mm me rfl sz9 rfl (Nat.le_of_ble_eq_true rfl) rfl rfl ?_
          refine o_nil ?_
          refine s_inv ?_
          exact ⟨_, _, St.mkT (kp (kp (kp (kp (kp (kp (kp (kp rfl rfl) rfl) rfl) rfl) rfl) rfl) rfl) rfl).symm, (by rw [ck1_p k4]; exact Mem.upd_self _ _ _), (fun d hd => (upd_other hd).trans (hk11 d hd))⟩
        · have k4 := h4; try simp only [decide_eq_true_eq, decide_eq_false_iff_not, Bool.not_eq_true', Bool.not_eq_false', Bool.not_true, Bool.not_false, List.length_map, Decidable.not_not] at k4
          refine s_skip ?_
          refine s_inv ?_
          exact ⟨_, _, St.mkT (kp (kp (kp (kp (kp (kp (kp (kp rfl rfl) rfl) rfl) rfl) rfl) rfl) rfl) rfl).symm, (by rw [ck1_n (fun hc => hc k4)]; exact hb11), hk11⟩
      rintro S ⟨T, M65, rfl, hb65, hk65⟩
      refine s_seq ?_
      refine s_seq ?_
      refine s_region ?_
      refine o_q (q_fr fo48_2 rfl) rfl rfl rfl ?_
      refine o_q (q_ldm ag9 sz9 rfl mm rfl (v_raw rfl)) rfl rfl rfl ?_
      refine o_q (q_sneq rfl rfl) rfl rfl rfl ?_
      refine o_q (q_mv (v_raw rfl)) rfl rfl rfl ?_
      refine o_g (G := true) rfl rfl rfl rfl rfl (fun hG hc => (q_fr fo48_0 rfl)) ?_
      refine o_g (G := true) rfl rfl rfl rfl rfl (fun hG hc => (q_ldm ag3 sz3 (gv_on (gv_and hG hc) rfl) mm rfl (v_raw rfl))) ?_
      refine o_g (G := true) rfl rfl rfl rfl rfl (fun hG hc => (q_neq (gv_on (gv_and hG hc) rfl) rfl)) ?_
      refine o_q (q_pand (c := _) (b := _) rfl rfl rfl) rfl rfl rfl ?_
      refine o_nil ?_
      refine s_cut (fun S => ∃ T, ∃ M2 : Mem, S = ⟨setT (setT (setT (setT (setT (setT (setT (setT T 0 (.sl (cs.map encC) o1)) 1 (.sl (other.map bool) o2)) 5 (bool true)) 6 (ptr b1)) 8 (ptr b2)) 10 (int (i : Nat))) 11 (ptr B1)) 12 (bool f), M2⟩ ∧ M2 B1 = some (.cells (cmdC (ck2 (ck1 cs[i])))) ∧ ∀ d, d ≠ B1 → M2 d = M' d) ?_ ?_
      · skip
        refine s_cond rfl (fun h5 => ?_) (fun h5 => ?_)
        · have k5 := h5; try simp only [decide_eq_true_eq, decide_eq_false_iff_not, Bool.not_eq_true', Bool.not_eq_false', Bool.not_true, Bool.not_false, List.length_map, Decidable.not_not] at k5
          refine s_region ?_
          refine o_q (q_fr fo48_2 rfl) rfl rfl rfl ?_
          refine o_store rfl mm me rfl sz9 rfl (Nat.le_of_ble_eq_true rfl) rfl rfl ?_
          refine o_nil ?_
          refine s_inv ?_
          have hh : (ck1 cs[i]).name ≠ emp ∧ (ck1 cs[i]).kind ≠ 2 := by
            simp only [Bool.and_eq_true, Bool.not_eq_true', decide_eq_false_iff_not] at h5
            exact h5
          exact ⟨_, _, St.mkT (kp (kp (kp (kp (kp (kp (kp (kp rfl rfl) rfl) rfl) rfl) rfl) rfl) rfl) rfl).symm, (by rw [ck2_p hh]; exact Mem.upd_self _ _ _), (fun d hd => (upd_other hd).trans (hk65 d hd))⟩
        · have k5 := h5; try simp only [decide_eq_true_eq, decide_eq_false_iff_not, Bool.not_eq_true', Bool.not_eq_false', Bool.not_true, Bool.not_false, List.length_map, Decidable.not_not] at k5
          refine s_skip ?_
          refine s_inv ?_
          have hh : ¬ ((ck1 cs[i]).name ≠ emp ∧ (ck1 cs[i]).kind ≠ 2) := fun hc => by
            have e : (!decide ((ck1 cs[i]).name = emp) && !decide ((ck1 cs[i]).kind = 2)) = true := by rw [decide_eq_false hc.1, decide_eq_false hc.2]; rfl
            exact absurd (e.symm.trans h5) (by decide)
          exact ⟨_, _, St.mkT (kp (kp (kp (kp (kp (kp (kp (kp rfl rfl) rfl) rfl) rfl) rfl) rfl) rfl) rfl).symm, (by rw [ck2_n hh]; exact hb65), hk65⟩
      rintro S ⟨T, M74, rfl, hb74, hk74⟩
      refine s_seq ?_
      refine s_seq ?_
      refine s_region ?_
      refine o_q (q_mv (v_raw rfl)) rfl rfl rfl ?_
      refine o_q (q_mv (v_raw rfl)) rfl rfl rfl ?_
      refine o_g (G := true) rfl rfl rfl rfl rfl (fun hG hc => (q_fr fo48_1 rfl)) ?_
      refine o_g (G := true) rfl rfl rfl rfl rfl (fun hG hc => (q_ldm ag9 sz9 (gv_on (gv_and hG hc) rfl) mm rfl (v_raw rfl))) ?_
      refine o_g (G := true) rfl rfl rfl rfl rfl (fun hG hc => (q_sneq (gv_on (gv_and hG hc) rfl) rfl)) ?_
      refine o_q (q_pand (c := _) (b := _) rfl rfl rfl) rfl rfl rfl ?_
      refine o_nil ?_
      refine s_cut (fun S => ∃ T, ∃ M2 : Mem, S = ⟨setT (setT (setT (setT (setT (setT (setT (setT T 0 (.sl (cs.map encC) o1)) 1 (.sl (other.map bool) o2)) 5 (bool true)) 6 (ptr b1)) 8 (ptr b2)) 10 (int (i : Nat))) 11 (ptr B1)) 12 (bool f), M2⟩ ∧ M2 B1 = some (.cells (cmdC (ck3 f (ck2 (ck1 cs[i]))))) ∧ ∀ d, d ≠ B1 → M2 d = M' d) ?_ ?_
      · skip
        refine s_cond rfl (fun h6 => ?_) (fun h6 => ?_)
        · have k6 := h6; try simp only [decide_eq_true_eq, decide_eq_false_iff_not, Bool.not_eq_true', Bool.not_eq_false', Bool.not_true, Bool.not_false, List.length_map, Decidable.not_not] at k6
          refine s_region ?_
          refine o_q (q_fr fo48_1 rfl) rfl rfl rfl ?_
          refine o_store rfl mm me rfl sz9 rfl (Nat.le_of_ble_eq_true rfl) rfl rfl ?_
          refine o_nil ?_
          refine s_inv ?_
          have hh : f = true ∧ (ck2 (ck1 cs[i])).topic ≠ emp := by
            simp only [Bool.and_eq_true, Bool.not_eq_true', decide_eq_false_iff_not] at h6
            exact h6
          exact ⟨_, _, St.mkT (kp (kp (kp (kp (kp (kp (kp (kp rfl rfl) rfl) rfl) rfl) rfl) rfl) rfl) rfl).symm, (by rw [ck3_p hh]; exact Mem.upd_self _ _ _), (fun d hd => (upd_other hd).trans (hk74 d hd))⟩
        · have k6 := h6; try simp only [decide_eq_true_eq, decide_eq_false_iff_not, Bool.not_eq_true', Bool.not_eq_false', Bool.not_true, Bool.not_false, List.length_map, Decidable.not_not] at k6
          refine s_skip ?_
          refine s_inv ?_
          have hh : ¬ (f = true ∧ (ck2 (ck1 cs[i])).topic ≠ emp) := fun hc => by
            have e : (f && !decide ((ck2 (ck1 cs[i])).topic = emp)) = true := by rw [decide_eq_false hc.2, hc.1]; rfl
            exact absurd (e.symm.trans h6) (by decide)
          exact ⟨_, _, St.mkT (kp (kp (kp (kp (kp (kp (kp (kp rfl rfl) rfl) rfl) rfl) rfl) rfl) rfl) rfl).symm, (by rw [ck3_n hh]; exact hb74), hk74⟩
      rintro S ⟨T, M81, rfl, hb81, hk81⟩
      refine s_seq ?_
      refine s_seq ?_
      refine s_region ?_
      refine o_q (q_mv (v_raw rfl)) rfl rfl rfl ?_
      refine o_q (q_mv (v_raw rfl)) rfl rfl rfl ?_
      refine o_g (G := true) rfl rfl rfl rfl rfl (fun hG hc => (q_fr fo48_2 rfl)) ?_
      refine o_g (G := true) rfl rfl rfl rfl rfl (fun hG hc => (q_ldm ag9 sz9 (gv_on (gv_and hG hc) rfl) mm rfl (v_raw rfl))) ?_
      refine o_g (G := true) rfl rfl rfl rfl rfl (fun hG hc => (q_seql (gv_on (gv_and hG hc) rfl) rfl)) ?_
      refine o_q (q_pand (c := _) (b := _) rfl rfl rfl) rfl rfl rfl ?_
      refine o_nil ?_
      refine s_cut (fun S => ∃ T, ∃ M2 : Mem, S = ⟨setT (setT (setT (setT (setT (setT (setT (setT T 0 (.sl (cs.map encC) o1)) 1 (.sl (other.map bool) o2)) 5 (bool true)) 6 (ptr b1)) 8 (ptr b2)) 10 (int (i : Nat))) 11 (ptr B1)) 12 (bool f), M2⟩ ∧ M2 B1 = some (.cells (cmdC (cook f cs[i]))) ∧ ∀ d, d ≠ B1 → M2 d = M' d) ?_ ?_
      · skip
        refine s_cond rfl (fun h7 => ?_) (fun h7 => ?_)
        · have k7 := h7; try simp only [decide_eq_true_eq, decide_eq_false_iff_not, Bool.not_eq_true', Bool.not_eq_false', Bool.not_true, Bool.not_false, List.length_map, Decidable.not_not] at k7
          refine s_region ?_
          refine o_q (q_fr fo48_2 rfl) rfl rfl rfl ?_
          refine o_store rfl mm me rfl sz9 rfl (Nat.le_of_ble_eq_true rfl) rfl rfl ?_
          refine o_nil ?_
          refine s_inv ?_
          have hh : f = true ∧ (ck3 f (ck2 (ck1 cs[i]))).name = sS := by
            simp only [Bool.and_eq_true, decide_eq_true_eq] at h7
            exact h7
          exact ⟨_, _, St.mkT (kp (kp (kp (kp (kp (kp (kp (kp rfl rfl) rfl) rfl) rfl) rfl) rfl) rfl) rfl).symm, (by unfold cook; rw [ck4_p hh]; exact Mem.upd_self _ _ _), (fun d hd => (upd_other hd).trans (hk81 d hd))⟩
        · have k7 := h7; try simp only [decide_eq_true_eq, decide_eq_false_iff_not, Bool.not_eq_true', Bool.not_eq_false', Bool.not_true, Bool.not_false, List.length_map, Decidable.not_not] at k7
          refine s_skip ?_
          refine s_inv ?_
          have hh : ¬ (f = true ∧ (ck3 f (ck2 (ck1 cs[i]))).name = sS) := fun hc => by
            have e : (f && decide ((ck3 f (ck2 (ck1 cs[i]))).name = sS)) = true := by rw [decide_eq_true hc.2, hc.1]; rfl
            exact absurd (e.symm.trans h7) (by decide)
          exact ⟨_, _, St.mkT (kp (kp (kp (kp (kp (kp (kp (kp rfl rfl) rfl) rfl) rfl) rfl) rfl) rfl) rfl).symm, (by unfold cook; rw [ck4_n hh]; exact hb81), hk81⟩
      rintro S ⟨T, M88, rfl, hb88, hk88⟩
      have hD88 := hD.fr m1 na1 nb1 c1 hk88
      have hrl := rep_len hD.a.ok (cook f cs[i])
      refine s_seq ?_
      refine s_region ?_
      refine o_q (q_mv (mv)) rfl rfl rfl ?_
      refine o_q (q_ldmw ag48 sz48 rfl mm rfl rfl) rfl rfl rfl ?_
      refine o_callx ((do_m (c := (cook f cs[i])) hD88.a (by omega) (cook_size (hcs _ (List.getElem_mem hi2))) rfl)) goes22 (ac (mv) (ac (v_agg rfl) ac_nil)) rfl ?_
      rintro r M3 ⟨rfl, O3, hX3, hC3⟩
      have hD3 := hD88.stepA (by omega) hX3 hC3
      have q1 := hC3.keep hb88 na1
      have w1 := hC3.nO hb88 na1
      refine o_alloc zc55 (fun B2 hB2 => ?_)
      have na2 := hD3.a.nof hB2
      have nb2 := hD3.b.nof hB2
      have m2 := hD3.oa.none hB2
      have c2 : B2 ≠ 0 := fun e => nn hD3.a.g (by rw [← e]; exact hB2)
      have f1_2 : B1 ≠ B2 := Mem.fresh_ne hB2 q1
      have f2_1 := f1_2.symm
      refine o_storew rfl mm mf rfl sz55 rfl rfl rfl rfl ?_
      refine o_nil ?_
      refine s_seq ?_
      refine s_seq ?_
      refine s_region ?_
      refine o_q (q_mv (v_raw rfl)) rfl rfl rfl ?_
      refine o_nil ?_
      refine s_cond rfl (fun h8 => ?_) (fun h8 => ?_)
      · have k8 := h8; try simp only [decide_eq_true_eq, decide_eq_false_iff_not, Bool.not_eq_true', Bool.not_eq_false', Bool.not_true, Bool.not_false, List.length_map, Decidable.not_not] at k8
        refine s_exit ?_
        refine s_code_exit ?_
        refine s_blk_here ?_
        refine s_region ?_
        refine o_q (q_mv (v_raw rfl)) rfl rfl rfl ?_
        refine o_q (q_add rfl rfl (wrap64 (by omega) (by omega))) rfl rfl rfl ?_
        refine o_q (q_as (v_raw rfl)) rfl rfl rfl ?_
        refine o_nil ?_
        refine s_inv ?_
        exact ⟨cs.length - (i + 1), by omega, _, _, (doM x (cook f cs[i])).1, z, O3, O2, i + 1, St.mkT (kp (kp (kp (kp (kp (kp rfl rfl) rfl) rfl) rfl) rfl) rfl).symm, ((hD3.upd m2 na2 nb2 c2).upd m2 na2 nb2 c2).mono (by omega), far hR hD.a.ok (by rw [h8]; exact (cook_far _).1) (by rw [cook_kind, h8]; exact (cook_far _).2) (by rw [cook_kind]; exact hkk), by omega, by omega, rfl⟩
      · have k8 := h8; try simp only [decide_eq_true_eq, decide_eq_false_iff_not, Bool.not_eq_true', Bool.not_eq_false', Bool.not_true, Bool.not_false, List.length_map, Decidable.not_not] at k8
        have hnr := near (c := (cook f cs[i])) hR hD.a.ok (by rw [h8]; exact (cook_near _).1) (by rw [cook_kind, h8]; exact (cook_near _).2) (by rw [cook_kind]; exact hkk)
        refine s_skip ?_
        refine s_seq ?_
        refine s_region ?_
        refine o_q (q_mv (mv)) rfl rfl rfl ?_
        refine o_q (q_ldmw ag48 sz48 rfl mm rfl rfl) rfl rfl rfl ?_
        refine o_callx ((do_m (c := (cook f cs[i])) ((hD3.upd m2 na2 nb2 c2).upd m2 na2 nb2 c2).b (by omega) (cook_size (hcs _ (List.getElem_mem hi2))) rfl)) goes22 (ac (mv) (ac (v_agg rfl) ac_nil)) rfl ?_
        rintro r M4 ⟨rfl, O4, hX4, hC4⟩
        have hD4 := ((hD3.upd m2 na2 nb2 c2).upd m2 na2 nb2 c2).stepB (by omega) hX4 hC4
        have q2 := hC4.keep (Mem.upd_self _ _ _) nb2
        have w2 := hC4.nO (Mem.upd_self _ _ _) nb2
        refine o_alloc zc55 (fun B3 hB3 => ?_)
        have na3 := hD4.a.nof hB3
        have nb3 := hD4.b.nof hB3
        have m3 := hD4.oa.none hB3
        have c3 : B3 ≠ 0 := fun e => nn hD4.a.g (by rw [← e]; exact hB3)
        have f2_3 : B2 ≠ B3 := Mem.fresh_ne hB3 q2
        have f3_2 := f2_3.symm
        refine o_storew rfl mm mf rfl sz55 rfl rfl rfl rfl ?_
        refine o_nil ?_
        refine s_seq ?_
        refine s_region ?_
        refine o_q (q_ldmw ag55 sz55 rfl mm rfl rfl) rfl rfl rfl ?_
        refine o_q (q_ldmw ag55 sz55 rfl mm rfl rfl) rfl rfl rfl ?_
        refine o_call (((snd24 (doM x (cook f cs[i])).2.code (doM x (cook f cs[i])).2.n (doM z (cook f cs[i])).2.code (doM z (cook f cs[i])).2.n (doM x (cook f cs[i])).2.recs (doM z (cook f cs[i])).2.recs false false _ (by omega)).det)) goes24 (ac (v_agg rfl) (ac (v_agg rfl) ac_nil)) rfl ?_
        refine o_q (q_as (v_raw rfl)) rfl rfl rfl ?_
        refine o_nil ?_
        refine s_seq ?_
        refine s_region ?_
        refine o_q (q_mv (v_raw rfl)) rfl rfl rfl ?_
        refine o_q (q_not rfl) rfl rfl rfl ?_
        refine o_nil ?_
        refine s_cond rfl (fun h9 => ?_) (fun h9 => ?_)
        · have k9 := h9; try simp only [decide_eq_true_eq, decide_eq_false_iff_not, Bool.not_eq_true', Bool.not_eq_false', Bool.not_true, Bool.not_false, List.length_map, Decidable.not_not] at k9
          exfalso
          rw [hnr.1] at h9
          simp at h9
        · have k9 := h9; try simp only [decide_eq_true_eq, decide_eq_false_iff_not, Bool.not_eq_true', Bool.not_eq_false', Bool.not_true, Bool.not_false, List.length_map, Decidable.not_not] at k9
          refine s_skip ?_
          refine s_blk_normal ?_
          refine s_region ?_
          refine o_q (q_mv (v_raw rfl)) rfl rfl rfl ?_
          refine o_q (q_add rfl rfl (wrap64 (by omega) (by omega))) rfl rfl rfl ?_
          refine o_q (q_as (v_raw rfl)) rfl rfl rfl ?_
          refine o_nil ?_
          refine s_inv ?_
          exact ⟨cs.length - (i + 1), by omega, _, _, (doM x (cook f cs[i])).1, (doM z (cook f cs[i])).1, O3, O4, i + 1, St.mkT (kp (kp (kp (kp (kp (kp rfl rfl) rfl) rfl) rfl) rfl) rfl).symm, ((hD4.upd m3 na3 nb3 c3).upd m3 na3 nb3 c3).mono (by omega), hnr.2, by omega, by omega, rfl⟩
  · have k1 := h1; try simp only [decide_eq_true_eq, decide_eq_false_iff_not, Bool.not_eq_true', Bool.not_eq_false', Bool.not_true, Bool.not_false, List.length_map, Decidable.not_not] at k1
    refine s_exit ?_
    refine s_code_exit ?_
    refine s_inv_exit ?_
    refine s_blk_here ?_
    refine s_seq ?_
    refine s_region ?_
    refine o_q (q_mv (v_raw rfl)) rfl rfl rfl ?_
    refine o_q (q_as (v_raw rfl)) rfl rfl rfl ?_
    refine o_nil ?_
    refine s_ret ?_
    refine s_end ?_
    exact ⟨rfl, hD.oa.le⟩
end C17
