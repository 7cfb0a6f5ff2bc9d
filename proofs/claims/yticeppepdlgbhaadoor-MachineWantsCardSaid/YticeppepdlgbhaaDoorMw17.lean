import Derived.Test.YticeppepdlgbhaaDoorMa10
/-! Chapter 17: who is wanted. -/
open Go Go.Proofs Go.Am
set_option linter.unusedVariables false
set_option linter.unusedSimpArgs false
set_option autoImplicit false
namespace C17
theorem by4 : bytesT Tryd.prog 4 = some 1 := by kernel_rfl
theorem und63 : Tryd.prog.underlying 63 = some (.slice 4) := by kernel_rfl
theorem zc4 : zeroCellsT Tryd.prog 4 = some [.raw (.bool false)] := by kernel_rfl
def tk7 : Nat → Nat → Option Nat := fun _ _ => none
def pl7 : Nat → List PStep := fun _ => []
theorem cb7 : Tryd.f7.body.map (codeB Tryd.prog Tryd.f7.ntmps tk7 pl7) = some true := by kernel_rfl

theorem wL_set' {w : W7} {n o : Nat} {v : Bool} (h : n < 7) (ho : o = n) : splice (wL w) o [bool v] = wL (w.set n v) := by subst ho; exact wL_set h
def wC (n : Nat) (v : Bool) : Cmd := ⟨if v then 10 else 11, emp, emp, 0, emp, emp, n, 0, 0⟩
theorem wC_right {n : Nat} (v : Bool) (h : n < 7) : rightC (wC n v) = true := by
  have : n = 0 ∨ n = 1 ∨ n = 2 ∨ n = 3 ∨ n = 4 ∨ n = 5 ∨ n = 6 := by omega
  cases v <;> rcases this with rfl | rfl | rfl | rfl | rfl | rfl | rfl <;> decide +kernel
theorem doM_want (x : Mc) {n : Nat} (v : Bool) (h : n < 7) : doM x (wC n v) = ((doM x (wC n v)).1, ⟨if x.want.set n v = .zero then 7 else 0, if x.want.set n v = .zero then 0 else (((x.want.set n v).idx 7).length : Int), []⟩) ∧ (doM x (wC n v)).1.want = if x.want.set n v = .zero then x.want else x.want.set n v := by
  have e : doM x (wC n v) = wanM (cntM x (bytC (wC n v))) (wC n v) := by
    unfold doM
    rw [if_pos (wC_right v h)]
    unfold doC
    have k : (wC n v).kind = 10 ∨ (wC n v).kind = 11 := by cases v <;> simp [wC]
    rw [if_neg (by omega), if_neg (by omega), if_neg (by omega), if_neg (by omega)]
  have w : wanW (cntM x (bytC (wC n v))) (wC n v) = x.want.set n v := by
    unfold wanW
    have e1 : (wC n v).n.toNat = n := rfl
    have e2 : decide ((wC n v).kind = 10) = v := by cases v <;> rfl
    rw [e1, e2]; rfl
  rw [e]
  unfold wanM
  rw [w]
  by_cases hz : x.want.set n v = .zero
  · simp only [if_pos hz]; exact ⟨trivial, rfl⟩
  · simp only [if_neg hz]; exact ⟨trivial, trivial⟩
def manyN (w : W7) (n k : Nat) : Nat := ((List.range k).filter fun j => w.get j && decide (j ≠ n)).length
theorem many_succ (w : W7) (n k : Nat) : manyN w n (k + 1) = manyN w n k + if w.get k && decide (k ≠ n) then 1 else 0 := by
  unfold manyN
  rw [List.range_succ, List.filter_append, List.length_append]
  cases h : (w.get k && decide (k ≠ n))
  · rw [List.filter_cons, if_neg (by show ¬ (w.get k && decide (k ≠ n)) = true; rw [h]; decide)]; rfl
  · rw [List.filter_cons, if_pos (by show (w.get k && decide (k ≠ n)) = true; exact h)]; rfl
theorem many_le (w : W7) (n k : Nat) : manyN w n k ≤ k := by
  have := List.length_filter_le (fun j => w.get j && decide (j ≠ n)) (List.range k)
  rw [List.length_range] at this; exact this
def wB (w : W7) (n : Nat) : Bool := (decide (w.set n false = .zero) == decide (manyN w n 7 = 0)) && decide (((w.set n false).idx 7).length = manyN w n 7) && decide (((w.set n true).idx 7).length = manyN w n 7 + 1) && !decide (w.set n true = .zero)
theorem wB_all (w : W7) {n : Nat} (h : n < 7) : wB w n = true := by
  have : n = 0 ∨ n = 1 ∨ n = 2 ∨ n = 3 ∨ n = 4 ∨ n = 5 ∨ n = 6 := by omega
  obtain ⟨a, b, c, d, e, f, g⟩ := w
  rcases this with rfl | rfl | rfl | rfl | rfl | rfl | rfl <;> revert a b c d e f g <;> decide +kernel
theorem want_zero (w : W7) {n : Nat} (v : Bool) (h : n < 7) : w.set n v = .zero ↔ v = false ∧ manyN w n 7 = 0 := by
  have h1 := wB_all w h
  unfold wB at h1
  simp only [Bool.and_eq_true, beq_iff_eq, decide_eq_decide, decide_eq_true_eq, Bool.not_eq_true', decide_eq_false_iff_not] at h1
  cases v
  · rw [h1.1.1.1]; simp
  · exact ⟨fun h2 => absurd h2 h1.2, fun h2 => absurd h2.1 (by decide)⟩
theorem want_len (w : W7) {n : Nat} (v : Bool) (h : n < 7) : ((w.set n v).idx 7).length = manyN w n 7 + if v then 1 else 0 := by
  have h1 := wB_all w h
  unfold wB at h1
  simp only [Bool.and_eq_true, beq_iff_eq, decide_eq_decide, decide_eq_true_eq, Bool.not_eq_true', decide_eq_false_iff_not] at h1
  cases v
  · exact h1.1.1.2
  · exact h1.1.2
theorem idx_pre (w : W7) (k : Nat) : ∀ n, k ≤ n → ∃ r, w.idx n = w.idx k ++ r := by
  intro n
  induction n with
  | zero => intro h; obtain rfl : k = 0 := by omega
            exact ⟨[], by simp⟩
  | succ n ih =>
    intro h
    by_cases e : k = n + 1
    · subst e; exact ⟨[], by simp⟩
    · obtain ⟨r, hr⟩ := ih (by omega)
      exact ⟨r ++ if w.get n then [n] else [], by rw [idx_succ, hr, List.append_assoc]⟩
theorem idx_at {w : W7} {k : Nat} (hk : k < 7) (h : w.get k = true) : ∃ hl : (w.idx k).length < (w.idx 7).length, (w.idx 7)[(w.idx k).length] = k := by
  obtain ⟨r, hr⟩ := idx_pre w (k + 1) 7 (by omega)
  rw [idx_succ w k, if_pos h] at hr
  refine ⟨by rw [hr]; simp, ?_⟩
  simp only [hr, List.append_assoc]
  rw [List.getElem_append_right (Nat.le_refl _)]
  simp
def pickW (z : Int) : Int := (if z < 0 then -(z + 1) else z).tmod 7
theorem pickW_nat {z : Int} (h : -2 ^ 63 ≤ z ∧ z < 2 ^ 63) : ∃ n : Nat, pickW z = n ∧ n < 7 := by
  unfold pickW
  split
  · have h1 := Int.tmod_lt_of_pos (-(z + 1)) (b := 7) (by decide)
    have h2 := Int.tmod_nonneg 7 (a := -(z + 1)) (by omega)
    exact ⟨((-(z + 1)).tmod 7).toNat, by omega, by omega⟩
  · have h1 := Int.tmod_lt_of_pos z (b := 7) (by decide)
    have h2 := Int.tmod_nonneg 7 (a := z) (by omega)
    exact ⟨(z.tmod 7).toNat, by omega, by omega⟩
set_option maxHeartbeats 4000000 in
set_option maxRecDepth 20000 in
theorem snd7a (ge : TypeId) (gf : Nat × Nat) (nodes : Int) (who : List Int) (join : List Bool) (o1 o2 : Bool) (M : Mem) (hG : M 0 = some (szO ge gf)) (hno : nodes < 1 ∨ 7 < nodes) : SoundCall Tryd.prog 7 [int nodes, .sl (who.map int) o1, .sl (join.map bool) o2] M fun r M' => r = bool true ∧ M.le M' := by
  refine SoundCall.go tk7 pl7 mixed Tryd.func7 cb7 rfl (Nat.le_of_ble_eq_true rfl) ?_
  refine s_seq ?_
  refine s_region ?_
  refine o_q (q_as (v_raw rfl)) rfl rfl rfl ?_
  refine o_nil ?_
  refine s_seq ?_
  refine s_region ?_
  refine o_call (((snd20 ge gf M hG).det)) goes20 ac_nil rfl ?_
  refine o_q (q_as (v_raw rfl)) rfl rfl rfl ?_
  refine o_nil ?_
  refine s_seq ?_
  refine s_region ?_
  refine o_q (q_mv (v_raw rfl)) rfl rfl rfl ?_
  refine o_callx ((new_no hno)) goes21 (ac (v_raw rfl) ac_nil) rfl ?_
  rintro r M' ⟨rfl, rfl⟩
  refine o_q (q_mv (v_tup rfl)) rfl rfl rfl ?_
  refine o_q (q_ext rfl rfl (mv)) rfl rfl rfl ?_
  refine o_q (q_ext rfl rfl (v_raw rfl)) rfl rfl rfl ?_
  refine o_q (q_as (mv)) rfl rfl rfl ?_
  refine o_q (q_as (v_raw rfl)) rfl rfl rfl ?_
  refine o_nil ?_
  refine s_seq ?_
  refine s_seq ?_
  refine s_region ?_
  refine o_q (q_mv (v_raw rfl)) rfl rfl rfl ?_
  refine o_q (q_neq rfl rfl) rfl rfl rfl ?_
  refine o_q (q_mv (v_raw rfl)) rfl rfl rfl ?_
  refine o_no rfl rfl rfl rfl rfl ?_
  refine o_no rfl rfl rfl rfl rfl ?_
  refine o_q (q_pick_c (t := true) rfl rfl (v_raw rfl)) rfl rfl rfl ?_
  refine o_nil ?_
  refine s_then rfl rfl ?_
  refine s_seq ?_
  refine s_region ?_
  refine o_q (q_mv (v_raw rfl)) rfl rfl rfl ?_
  refine o_q (q_mv (v_raw rfl)) rfl rfl rfl ?_
  refine o_yes rfl rfl rfl rfl ?_
  refine o_q (q_mv (mv)) rfl rfl rfl ?_
  refine o_yes rfl rfl rfl rfl ?_
  refine o_q (q_peql und49 rfl rfl) rfl rfl rfl ?_
  refine o_q (q_pick_c (t := true) rfl rfl (v_raw rfl)) rfl rfl rfl ?_
  refine o_q (q_as (v_raw rfl)) rfl rfl rfl ?_
  refine o_nil ?_
  refine s_ret ?_
  refine s_code_ret ?_
  refine s_end ?_
  exact ⟨rfl, Mem.le_refl _⟩

set_option maxHeartbeats 4000000 in
set_option maxRecDepth 20000 in
theorem snd7b (ge : TypeId) (gf : Nat × Nat) (nodes : Int) (who : List Int) (join : List Bool) (o1 o2 : Bool) (M : Mem) (hG : M 0 = some (szO ge gf)) (hok : 1 ≤ nodes ∧ nodes ≤ 7) (hwl : who.length < 2 ^ 60) (hjl : join.length < 2 ^ 60) (hwr : ∀ z ∈ who, -2 ^ 63 ≤ z ∧ z < 2 ^ 63) : SoundCall Tryd.prog 7 [int nodes, .sl (who.map int) o1, .sl (join.map bool) o2] M fun r M' => r = bool true ∧ M.le M' := by
  have hlw : (who.map int).length = who.length := List.length_map _
  have hlj : (join.map bool).length = join.length := List.length_map _
  refine SoundCall.go tk7 pl7 mixed Tryd.func7 cb7 rfl (Nat.le_of_ble_eq_true rfl) ?_
  refine s_seq ?_
  refine s_region ?_
  refine o_q (q_as (v_raw rfl)) rfl rfl rfl ?_
  refine o_nil ?_
  refine s_seq ?_
  refine s_region ?_
  refine o_call (((snd20 ge gf M hG).det)) goes20 ac_nil rfl ?_
  refine o_q (q_as (v_raw rfl)) rfl rfl rfl ?_
  refine o_nil ?_
  refine s_seq ?_
  refine s_region ?_
  refine o_q (q_mv (v_raw rfl)) rfl rfl rfl ?_
  refine o_callx ((new_m hG hok.1 hok.2)) goes21 (ac (v_raw rfl) ac_nil) rfl ?_
  rintro r M0 ⟨b, O0, rfl, hX0, hO0⟩
  refine o_q (q_mv (v_tup rfl)) rfl rfl rfl ?_
  refine o_q (q_ext rfl rfl (mv)) rfl rfl rfl ?_
  refine o_q (q_ext rfl rfl (v_raw rfl)) rfl rfl rfl ?_
  refine o_q (q_as (mv)) rfl rfl rfl ?_
  refine o_q (q_as (v_raw rfl)) rfl rfl rfl ?_
  refine o_nil ?_
  refine s_seq ?_
  refine s_seq ?_
  refine s_region ?_
  refine o_q (q_mv (v_raw rfl)) rfl rfl rfl ?_
  refine o_q (q_neq rfl rfl) rfl rfl rfl ?_
  refine o_q (q_mv (v_raw rfl)) rfl rfl rfl ?_
  refine o_yes rfl rfl rfl rfl ?_
  refine o_q (q_mv (mv)) rfl rfl rfl ?_
  refine o_yes rfl rfl rfl rfl ?_
  refine o_q (q_peql und49 rfl rfl) rfl rfl rfl ?_
  refine o_q (q_pick_c (t := false) rfl rfl (v_raw rfl)) rfl rfl rfl ?_
  refine o_nil ?_
  refine s_else rfl rfl ?_
  refine s_skip ?_
  refine s_seq ?_
  refine s_region ?_
  refine o_makeSlice und63 sz4 by4 zc4 rfl (by decide) rfl rfl (by omega) (by omega) (by omega) (by omega) (fun B1 hB1 => ?_)
  have m1 := hO0.none hB1
  have n1 := hX0.nof hB1
  have c1 : B1 ≠ 0 := fun e => nn hX0.g (by rw [← e]; exact hB1)
  refine o_q (q_as (v_raw rfl)) rfl rfl rfl ?_
  refine o_nil ?_
  refine s_seq ?_
  refine s_seq ?_
  refine s_region ?_
  refine o_q (q_as (v_raw rfl)) rfl rfl rfl ?_
  refine o_nil ?_
  refine s_block ?_
  refine s_loop (fun m S => ∃ T, ∃ i : Nat, S = ⟨setT (setT (setT (setT (setT (setT (setT T 1 (.sl (who.map int) o1)) 2 (.sl (join.map bool) o2)) 7 (bool true)) 8 (ptr b)) 10 (.raw (.slice (some ⟨B1, 0, none⟩) 7 7))) 0 (int nodes)) 11 (int (i : Nat)), M0.upd B1 (.cells (wL (W7.pre i)))⟩ ∧ i ≤ nodes.toNat ∧ m = nodes.toNat - i) nodes.toNat ?_ ?_
  · exact ⟨_, 0, St.mkT (kp (kp (kp (kp (kp (kp (kp rfl rfl) rfl) rfl) rfl) rfl) rfl) rfl).symm, by omega, rfl⟩
  rintro m S ⟨T, i, rfl, hi, rfl⟩
  refine s_seq ?_
  refine s_seq ?_
  refine s_region ?_
  refine o_q (q_mv (v_raw rfl)) rfl rfl rfl ?_
  refine o_q (q_mv (v_raw rfl)) rfl rfl rfl ?_
  refine o_q (q_lss rfl rfl) rfl rfl rfl ?_
  refine o_nil ?_
  refine s_cond rfl (fun h1 => ?_) (fun h1 => ?_)
  · have k1 := h1; try simp only [decide_eq_true_eq, decide_eq_false_iff_not, Bool.not_eq_true', Bool.not_eq_false', Bool.not_true, Bool.not_false, List.length_map, Decidable.not_not] at k1
    refine s_skip ?_
    refine s_seq ?_
    refine s_block ?_
    refine s_region ?_
    refine o_q (q_mv (v_raw rfl)) rfl rfl rfl ?_
    refine o_q (q_mv (v_raw rfl)) rfl rfl rfl ?_
    refine o_q (q_idxr und63 sz4 rfl rfl (by omega) (by omega)) rfl rfl rfl ?_
    refine o_store rfl mm me rfl sz4 rfl (by show 0 + ((i : Nat) : Int).toNat * 1 + 1 ≤ 7; omega) rfl (wL_set' (w := W7.pre i) (n := i) (v := true) (o := 0 + ((i : Nat) : Int).toNat * 1) (by omega) (by omega)) ?_
    refine o_nil ?_
    refine s_blk_normal ?_
    refine s_region ?_
    refine o_q (q_mv (v_raw rfl)) rfl rfl rfl ?_
    refine o_q (q_add rfl rfl (wrap64 (by omega) (by omega))) rfl rfl rfl ?_
    refine o_q (q_as (v_raw rfl)) rfl rfl rfl ?_
    refine o_nil ?_
    refine s_inv ?_
    exact ⟨nodes.toNat - (i + 1), by omega, _, i + 1, Eq.trans (congrArg (St.mk _) (Mem.upd_upd _ _ _ _)) (St.mkT (kp (kp (kp (kp (kp (kp (kp rfl rfl) rfl) rfl) rfl) rfl) rfl) rfl).symm), by omega, rfl⟩
  · have k1 := h1; try simp only [decide_eq_true_eq, decide_eq_false_iff_not, Bool.not_eq_true', Bool.not_eq_false', Bool.not_true, Bool.not_false, List.length_map, Decidable.not_not] at k1
    refine s_exit ?_
    refine s_code_exit ?_
    refine s_inv_exit ?_
    refine s_blk_here ?_
    refine s_seq ?_
    refine s_seq ?_
    refine s_region ?_
    refine o_q (q_as (v_raw rfl)) rfl rfl rfl ?_
    refine o_nil ?_
    refine s_block ?_
    refine s_loop (fun m S => ∃ T, ∃ M' : Mem, ∃ x : Mc, ∃ O : Nat → Prop, ∃ i : Nat, S = ⟨setT (setT (setT (setT (setT (setT T 1 (.sl (who.map int) o1)) 2 (.sl (join.map bool) o2)) 7 (bool true)) 8 (ptr b)) 10 (.raw (.slice (some ⟨B1, 0, none⟩) 7 7))) 12 (int (i : Nat)), M'⟩ ∧ Mch ge gf M' b ((2 * i : Nat) : Int) x O ∧ M' B1 = some (.cells (wL x.want)) ∧ ¬ O B1 ∧ Out M M' O ∧ i ≤ who.length ∧ i ≤ 40 ∧ m = who.length - i) who.length ?_ ?_
    · obtain rfl : i = nodes.toNat := by omega
      exact ⟨_, _, newM nodes.toNat, O0, 0, St.mkT (kp (kp (kp (kp (kp (kp rfl rfl) rfl) rfl) rfl) rfl) rfl).symm, hX0.upd n1 c1, Mem.upd_self _ _ _, n1, hO0.upd m1, by omega, by omega, rfl⟩
    rintro m S ⟨T, M', x, O, i, rfl, hX, hb1, nb1, hO, hiw, hi40, rfl⟩
    refine s_seq ?_
    refine s_seq ?_
    refine s_region ?_
    refine o_q (q_mv (v_raw rfl)) rfl rfl rfl ?_
    refine o_q (q_mv (v_sl rfl)) rfl rfl rfl ?_
    refine o_q (q_len rfl und66 rfl) rfl rfl rfl ?_
    refine o_q (q_lss rfl rfl) rfl rfl rfl ?_
    refine o_q (q_mv (v_raw rfl)) rfl rfl rfl ?_
    refine o_g (G := true) rfl rfl rfl rfl rfl (fun hG hc => (q_mv (v_raw rfl))) ?_
    refine o_g (G := true) rfl rfl rfl rfl rfl (fun hG hc => (q_mv (v_sl rfl))) ?_
    refine o_g (G := true) rfl rfl rfl rfl rfl (fun hG hc => (q_len rfl und63 (gv_on (gv_and hG hc) rfl))) ?_
    refine o_g (G := true) rfl rfl rfl rfl rfl (fun hG hc => (q_lss (gv_on (gv_and hG hc) rfl) (gv_on (gv_and hG hc) rfl))) ?_
    refine o_q (q_pand (c := _) (b := _) rfl rfl rfl) rfl rfl rfl ?_
    refine o_q (q_mv (v_raw rfl)) rfl rfl rfl ?_
    refine o_g (G := true) rfl rfl rfl rfl rfl (fun hG hc => (q_mv (v_raw rfl))) ?_
    refine o_g (G := true) rfl rfl rfl rfl rfl (fun hG hc => (q_lss (gv_on (gv_and hG hc) rfl) rfl)) ?_
    refine o_q (q_pand (c := _) (b := _) rfl rfl rfl) rfl rfl rfl ?_
    refine o_nil ?_
    refine s_cond rfl (fun h2 => ?_) (fun h2 => ?_)
    · have k2 := h2; try simp only [decide_eq_true_eq, decide_eq_false_iff_not, Bool.not_eq_true', Bool.not_eq_false', Bool.not_true, Bool.not_false, List.length_map, Decidable.not_not] at k2
      have hiw2 : i < who.length := by
        simp only [Bool.and_eq_true, decide_eq_true_eq, List.length_map] at h2
        omega
      have hij : i < join.length := by
        simp only [Bool.and_eq_true, decide_eq_true_eq, List.length_map] at h2
        omega
      have hi4 : i < 40 := by
        simp only [Bool.and_eq_true, decide_eq_true_eq, List.length_map] at h2
        omega
      have hwz := hwr who[i] (List.getElem_mem _)
      refine s_skip ?_
      refine s_seq ?_
      refine s_block ?_
      refine s_seq ?_
      refine s_region ?_
      refine o_q (q_mv (v_sl rfl)) rfl rfl rfl ?_
      refine o_q (q_mv (v_raw rfl)) rfl rfl rfl ?_
      refine o_q (q_idx und66 sz3 rfl rfl (by omega) (gm i (by first | omega | simp)) rfl) rfl rfl rfl ?_
      refine o_q (q_ld ag3 sz3 rfl (gm i (by first | omega | simp)) rfl (v_raw rfl)) rfl rfl rfl ?_
      refine o_q (q_as (v_raw rfl)) rfl rfl rfl ?_
      refine o_nil ?_
      refine s_seq ?_
      refine s_seq ?_
      refine s_region ?_
      refine o_q (q_mv (v_raw rfl)) rfl rfl rfl ?_
      refine o_q (q_lss rfl rfl) rfl rfl rfl ?_
      refine o_nil ?_
      refine s_cut (fun S => ∃ T, S = ⟨setT (setT (setT (setT (setT (setT (setT T 1 (.sl (who.map int) o1)) 2 (.sl (join.map bool) o2)) 7 (bool true)) 8 (ptr b)) 10 (.raw (.slice (some ⟨B1, 0, none⟩) 7 7))) 12 (int (i : Nat))) 13 (int (if who[i] < 0 then -(who[i] + 1) else who[i])), M'⟩) ?_ ?_
      · skip
        refine s_cond rfl (fun h3 => ?_) (fun h3 => ?_)
        · have k3 := h3; try simp only [decide_eq_true_eq, decide_eq_false_iff_not, Bool.not_eq_true', Bool.not_eq_false', Bool.not_true, Bool.not_false, List.length_map, Decidable.not_not] at k3
          refine s_region ?_
          refine o_q (q_mv (v_raw rfl)) rfl rfl rfl ?_
          refine o_q (q_add rfl rfl (wrap64 (by omega) (by omega))) rfl rfl rfl ?_
          refine o_q (q_neg rfl (wrap64 (by omega) (by omega))) rfl rfl rfl ?_
          refine o_q (q_as (v_raw rfl)) rfl rfl rfl ?_
          refine o_nil ?_
          refine s_inv ?_
          exact ⟨_, St.mkT (kp (kp (kp (kp (kp (kp (kp rfl rfl) rfl) rfl) rfl) rfl) rfl) (congrArg int (if_pos k3).symm)).symm⟩
        · have k3 := h3; try simp only [decide_eq_true_eq, decide_eq_false_iff_not, Bool.not_eq_true', Bool.not_eq_false', Bool.not_true, Bool.not_false, List.length_map, Decidable.not_not] at k3
          refine s_skip ?_
          refine s_inv ?_
          exact ⟨_, St.mkT (kp (kp (kp (kp (kp (kp (kp rfl rfl) rfl) rfl) rfl) rfl) rfl) (congrArg int (if_neg k3).symm)).symm⟩
      rintro S ⟨T, rfl⟩
      refine s_seq ?_
      refine s_cut (fun S => ∃ T, ∃ n : Nat, S = ⟨setT (setT (setT (setT (setT (setT (setT T 1 (.sl (who.map int) o1)) 2 (.sl (join.map bool) o2)) 7 (bool true)) 8 (ptr b)) 10 (.raw (.slice (some ⟨B1, 0, none⟩) 7 7))) 12 (int (i : Nat))) 13 (int (n : Nat)), M'⟩ ∧ n < 7) ?_ ?_
      · skip
        refine s_region ?_
        refine o_q (q_mv (v_raw rfl)) rfl rfl rfl ?_
        refine o_q (q_rem rfl rfl (by decide)) rfl rfl rfl ?_
        refine o_q (q_as (v_raw rfl)) rfl rfl rfl ?_
        refine o_nil ?_
        refine s_inv ?_
        obtain ⟨n, hn, hn7⟩ := pickW_nat (hwr who[i] (List.getElem_mem _))
        exact ⟨_, n, St.mkT (kp (kp (kp (kp (kp (kp (kp rfl rfl) rfl) rfl) rfl) rfl) rfl) (congrArg int hn)).symm, hn7⟩
      rintro S ⟨T, n, rfl, hn7⟩
      refine s_seq ?_
      refine s_region ?_
      refine o_q (q_as (v_raw rfl)) rfl rfl rfl ?_
      refine o_nil ?_
      refine s_seq ?_
      refine s_seq ?_
      refine s_region ?_
      refine o_q (q_as (v_raw rfl)) rfl rfl rfl ?_
      refine o_nil ?_
      refine s_block ?_
      refine s_loop (fun m S => ∃ T, ∃ k : Nat, S = ⟨setT (setT (setT (setT (setT (setT (setT (setT (setT T 1 (.sl (who.map int) o1)) 2 (.sl (join.map bool) o2)) 7 (bool true)) 8 (ptr b)) 10 (.raw (.slice (some ⟨B1, 0, none⟩) 7 7))) 12 (int (i : Nat))) 13 (int (n : Nat))) 14 (int (manyN x.want n k : Nat))) 15 (int (k : Nat)), M'⟩ ∧ k ≤ 7 ∧ m = 7 - k) 7 ?_ ?_
      · exact ⟨_, 0, St.mkT (kp (kp (kp (kp (kp (kp (kp (kp (kp rfl rfl) rfl) rfl) rfl) rfl) rfl) rfl) rfl) rfl).symm, by omega, rfl⟩
      rintro m S ⟨T, k, rfl, hk, rfl⟩
      refine s_seq ?_
      refine s_seq ?_
      refine s_region ?_
      refine o_q (q_mv (v_raw rfl)) rfl rfl rfl ?_
      refine o_q (q_lss rfl rfl) rfl rfl rfl ?_
      refine o_nil ?_
      refine s_cond rfl (fun h4 => ?_) (fun h4 => ?_)
      · have k4 := h4; try simp only [decide_eq_true_eq, decide_eq_false_iff_not, Bool.not_eq_true', Bool.not_eq_false', Bool.not_true, Bool.not_false, List.length_map, Decidable.not_not] at k4
        have hmk := many_le x.want n k
        refine s_skip ?_
        refine s_seq ?_
        refine s_block ?_
        refine s_seq ?_
        refine s_region ?_
        refine o_q (q_mv (v_raw rfl)) rfl rfl rfl ?_
        refine o_q (q_mv (v_raw rfl)) rfl rfl rfl ?_
        refine o_q (q_idxr und63 sz4 rfl rfl (by omega) (by omega)) rfl rfl rfl ?_
        refine o_q (q_ldm ag4 sz4 rfl mm (wL_get (w := x.want) (n := k) (o := 0 + ((k : Nat) : Int).toNat * 1) (by omega) (by omega)) (v_raw rfl)) rfl rfl rfl ?_
        refine o_q (q_mv (v_raw rfl)) rfl rfl rfl ?_
        refine o_g (G := true) rfl rfl rfl rfl rfl (fun hG hc => (q_mv (v_raw rfl))) ?_
        refine o_g (G := true) rfl rfl rfl rfl rfl (fun hG hc => (q_mv (v_raw rfl))) ?_
        refine o_g (G := true) rfl rfl rfl rfl rfl (fun hG hc => (q_neq (gv_on (gv_and hG hc) rfl) (gv_on (gv_and hG hc) rfl))) ?_
        refine o_q (q_pand (c := _) (b := _) rfl rfl rfl) rfl rfl rfl ?_
        refine o_nil ?_
        refine s_cond rfl (fun h5 => ?_) (fun h5 => ?_)
        · have k5 := h5; try simp only [decide_eq_true_eq, decide_eq_false_iff_not, Bool.not_eq_true', Bool.not_eq_false', Bool.not_true, Bool.not_false, List.length_map, Decidable.not_not] at k5
          refine s_region ?_
          refine o_q (q_mv (v_raw rfl)) rfl rfl rfl ?_
          refine o_q (q_add rfl rfl (wrap64 (by omega) (by omega))) rfl rfl rfl ?_
          refine o_q (q_as (v_raw rfl)) rfl rfl rfl ?_
          refine o_nil ?_
          refine s_blk_normal ?_
          refine s_region ?_
          refine o_q (q_mv (v_raw rfl)) rfl rfl rfl ?_
          refine o_q (q_add rfl rfl (wrap64 (by omega) (by omega))) rfl rfl rfl ?_
          refine o_q (q_as (v_raw rfl)) rfl rfl rfl ?_
          refine o_nil ?_
          refine s_inv ?_
          have e : manyN x.want n (k + 1) = manyN x.want n k + 1 := by
            rw [many_succ, if_pos]
            simp only [Bool.and_eq_true, Bool.not_eq_true', decide_eq_false_iff_not, decide_eq_true_eq] at h5 ⊢
            exact ⟨h5.1, by omega⟩
          exact ⟨7 - (k + 1), by omega, _, k + 1, St.mkT (kp (kp (kp (kp (kp (kp (kp (kp (kp rfl rfl) rfl) rfl) rfl) rfl) rfl) rfl) (congrArg int (by rw [e]; rfl))) rfl).symm, by omega, rfl⟩
        · have k5 := h5; try simp only [decide_eq_true_eq, decide_eq_false_iff_not, Bool.not_eq_true', Bool.not_eq_false', Bool.not_true, Bool.not_false, List.length_map, Decidable.not_not] at k5
          refine s_skip ?_
          refine s_blk_normal ?_
          refine s_region ?_
          refine o_q (q_mv (v_raw rfl)) rfl rfl rfl ?_
          refine o_q (q_add rfl rfl (wrap64 (by omega) (by omega))) rfl rfl rfl ?_
          refine o_q (q_as (v_raw rfl)) rfl rfl rfl ?_
          refine o_nil ?_
          refine s_inv ?_
          have e : manyN x.want n (k + 1) = manyN x.want n k := by
            rw [many_succ, if_neg, Nat.add_zero]
            intro hc
            have h9 : (x.want.get k && !decide ((k : Int) = (n : Int))) = true := by
              simp only [Bool.and_eq_true, decide_eq_true_eq] at hc
              rw [hc.1, decide_eq_false (by omega)]; rfl
            simp_all
          exact ⟨7 - (k + 1), by omega, _, k + 1, St.mkT (kp (kp (kp (kp (kp (kp (kp (kp (kp rfl rfl) rfl) rfl) rfl) rfl) rfl) rfl) (congrArg int (by rw [e]))) rfl).symm, by omega, rfl⟩
      · have k4 := h4; try simp only [decide_eq_true_eq, decide_eq_false_iff_not, Bool.not_eq_true', Bool.not_eq_false', Bool.not_true, Bool.not_false, List.length_map, Decidable.not_not] at k4
        obtain rfl : k = 7 := by omega
        refine s_exit ?_
        refine s_code_exit ?_
        refine s_inv_exit ?_
        refine s_blk_here ?_
        refine s_seq ?_
        refine s_region ?_
        refine o_q (q_as (v_raw rfl)) rfl rfl rfl ?_
        refine o_nil ?_
        refine s_seq ?_
        refine s_seq ?_
        refine s_region ?_
        refine o_q (q_mv (v_sl rfl)) rfl rfl rfl ?_
        refine o_q (q_mv (v_raw rfl)) rfl rfl rfl ?_
        refine o_q (q_idx und63 sz4 rfl rfl (by omega) (gm i (by first | omega | simp)) rfl) rfl rfl rfl ?_
        refine o_q (q_ld ag4 sz4 rfl (gm i (by first | omega | simp)) rfl (v_raw rfl)) rfl rfl rfl ?_
        refine o_nil ?_
        refine s_cut (fun S => ∃ T, S = ⟨setT (setT (setT (setT (setT (setT (setT (setT (setT T 1 (.sl (who.map int) o1)) 2 (.sl (join.map bool) o2)) 7 (bool true)) 8 (ptr b)) 10 (.raw (.slice (some ⟨B1, 0, none⟩) 7 7))) 12 (int (i : Nat))) 13 (int (n : Nat))) 14 (int (manyN x.want n 7 : Nat))) 16 (int (if join[i] then 10 else 11)), M'⟩) ?_ ?_
        · skip
          refine s_cond rfl (fun h6 => ?_) (fun h6 => ?_)
          · have k6 := h6; try simp only [decide_eq_true_eq, decide_eq_false_iff_not, Bool.not_eq_true', Bool.not_eq_false', Bool.not_true, Bool.not_false, List.length_map, Decidable.not_not] at k6
            refine s_region ?_
            refine o_q (q_as (v_raw rfl)) rfl rfl rfl ?_
            refine o_nil ?_
            refine s_inv ?_
            exact ⟨_, St.mkT (kp (kp (kp (kp (kp (kp (kp (kp (kp rfl rfl) rfl) rfl) rfl) rfl) rfl) rfl) rfl) (congrArg int (if_pos h6).symm)).symm⟩
          · have k6 := h6; try simp only [decide_eq_true_eq, decide_eq_false_iff_not, Bool.not_eq_true', Bool.not_eq_false', Bool.not_true, Bool.not_false, List.length_map, Decidable.not_not] at k6
            refine s_skip ?_
            refine s_inv ?_
            exact ⟨_, St.mkT (kp (kp (kp (kp (kp (kp (kp (kp (kp rfl rfl) rfl) rfl) rfl) rfl) rfl) rfl) rfl) (congrArg int (if_neg (by rw [show join[i] = false from h6]; decide)).symm)).symm⟩
        rintro S ⟨T, rfl⟩
        refine s_seq ?_
        refine s_region ?_
        refine o_q (q_mv (mv)) rfl rfl rfl ?_
        refine o_q (q_mv (v_raw rfl)) rfl rfl rfl ?_
        refine o_q (q_mv (v_raw rfl)) rfl rfl rfl ?_
        refine o_q (q_b (cs := [_, .raw (.string { data := #[] }), .raw (.string { data := #[] }), .raw (.int .i64 0), .raw (.string { data := #[] }), .raw (.string { data := #[] }), _, .raw (.int .i64 0), .raw (.int .i64 0)]) bz48 bp48 (bf fo48_0 (e_raw rfl) rfl rfl (Nat.le_of_ble_eq_true rfl) rfl (bf fo48_6 (e_raw rfl) rfl rfl (Nat.le_of_ble_eq_true rfl) rfl bf_nil))) rfl rfl rfl ?_
        refine o_callx ((do_m (c := wC n join[i]) hX (by omega) ⟨Nat.two_pow_pos 62, Nat.two_pow_pos 62⟩ (doM_want x join[i] hn7).1)) goes22 (ac (mv) (ac (v_agg rfl) ac_nil)) rfl ?_
        rintro r M2 ⟨rfl, O2, hX2, hC2⟩
        have e2 : ((2 * i : Nat) : Int) + 2 = ((2 * (i + 1) : Nat) : Int) := by omega
        rw [e2] at hX2
        have q1 := hC2.keep hb1 nb1
        have nb2 := hC2.nO hb1 nb1
        have hO2 := hO.chg hC2
        have hwn := (doM_want x join[i] hn7).2
        have hz := want_zero x.want join[i] hn7
        have hl7 := want_len x.want join[i] hn7
        have hml := many_le x.want n 7
        refine o_alloc zc55 (fun B2 hB2 => ?_)
        have n2 := hX2.nof hB2
        have m2 := hO2.none hB2
        have c2 : B2 ≠ 0 := fun e => nn hX2.g (by rw [← e]; exact hB2)
        have f12 : B1 ≠ B2 := Mem.fresh_ne hB2 q1
        have f21 := f12.symm
        refine o_storew rfl mm mf rfl sz55 rfl rfl rfl rfl ?_
        refine o_nil ?_
        refine s_seq ?_
        refine s_seq ?_
        refine s_region ?_
        refine o_q (q_mv (v_sl rfl)) rfl rfl rfl ?_
        refine o_q (q_mv (v_raw rfl)) rfl rfl rfl ?_
        refine o_q (q_idx und63 sz4 rfl rfl (by omega) (gm i (by first | omega | simp)) rfl) rfl rfl rfl ?_
        refine o_q (q_ld ag4 sz4 rfl (gm i (by first | omega | simp)) rfl (v_raw rfl)) rfl rfl rfl ?_
        refine o_q (q_not rfl) rfl rfl rfl ?_
        refine o_q (q_mv (v_raw rfl)) rfl rfl rfl ?_
        refine o_g (G := true) rfl rfl rfl rfl rfl (fun hG hc => (q_mv (v_raw rfl))) ?_
        refine o_g (G := true) rfl rfl rfl rfl rfl (fun hG hc => (q_eql (gv_on (gv_and hG hc) rfl) rfl)) ?_
        refine o_q (q_pand (c := _) (b := _) rfl rfl rfl) rfl rfl rfl ?_
        refine o_nil ?_
        refine s_cond rfl (fun h7 => ?_) (fun h7 => ?_)
        · have k7 := h7; try simp only [decide_eq_true_eq, decide_eq_false_iff_not, Bool.not_eq_true', Bool.not_eq_false', Bool.not_true, Bool.not_false, List.length_map, Decidable.not_not] at k7
          have hW : (x.want.set n join[i]) = .zero := by
            refine hz.2 ?_
            simp only [Bool.and_eq_true, Bool.not_eq_true', decide_eq_true_eq] at h7
            exact ⟨h7.1, by omega⟩
          refine s_seq ?_
          refine s_seq ?_
          refine s_region ?_
          refine o_q (q_fr fo55_0 rfl) rfl rfl rfl ?_
          refine o_q (q_ldm ag3 sz3 rfl mm rfl (v_raw rfl)) rfl rfl rfl ?_
          refine o_q (q_neq rfl rfl) rfl rfl rfl ?_
          refine o_nil ?_
          refine s_cond rfl (fun h8 => ?_) (fun h8 => ?_)
          · have k8 := h8; try simp only [decide_eq_true_eq, decide_eq_false_iff_not, Bool.not_eq_true', Bool.not_eq_false', Bool.not_true, Bool.not_false, List.length_map, Decidable.not_not] at k8
            exfalso
            rw [if_pos hW] at h8
            simp at h8
          · have k8 := h8; try simp only [decide_eq_true_eq, decide_eq_false_iff_not, Bool.not_eq_true', Bool.not_eq_false', Bool.not_true, Bool.not_false, List.length_map, Decidable.not_not] at k8
            refine s_skip ?_
            refine s_exit ?_
            refine s_code_exit ?_
            refine s_blk_here ?_
            refine s_region ?_
            refine o_q (q_mv (v_raw rfl)) rfl rfl rfl ?_
            refine o_q (q_add rfl rfl (wrap64 (by omega) (by omega))) rfl rfl rfl ?_
            refine o_q (q_as (v_raw rfl)) rfl rfl rfl ?_
            refine o_nil ?_
            refine s_inv ?_
            exact ⟨who.length - (i + 1), by omega, _, _, (doM x (wC n join[i])).1, O2, i + 1, St.mkT (kp (kp (kp (kp (kp (kp rfl rfl) rfl) rfl) rfl) rfl) rfl).symm, (hX2.upd n2 c2).upd n2 c2, (by rw [show (doM x (wC n join[i])).1.want = x.want from hwn.trans (if_pos hW), upd_other f12, upd_other f12]; exact q1), nb2, (hO2.upd m2).upd m2, by omega, by omega, rfl⟩
        · have k7 := h7; try simp only [decide_eq_true_eq, decide_eq_false_iff_not, Bool.not_eq_true', Bool.not_eq_false', Bool.not_true, Bool.not_false, List.length_map, Decidable.not_not] at k7
          have hW : ¬ (x.want.set n join[i]) = .zero := fun hc => by
            obtain ⟨g1, g2⟩ := hz.1 hc
            rw [g1] at h7
            simp [g2] at h7
          refine s_skip ?_
          refine s_seq ?_
          refine s_region ?_
          refine o_q (q_mv (v_raw rfl)) rfl rfl rfl ?_
          refine o_q (q_mv (v_raw rfl)) rfl rfl rfl ?_
          refine o_q (q_mv (v_sl rfl)) rfl rfl rfl ?_
          refine o_q (q_mv (v_raw rfl)) rfl rfl rfl ?_
          refine o_q (q_idx und63 sz4 rfl rfl (by omega) (gm i (by first | omega | simp)) rfl) rfl rfl rfl ?_
          refine o_q (q_ld ag4 sz4 rfl (gm i (by first | omega | simp)) rfl (v_raw rfl)) rfl rfl rfl ?_
          refine o_q (q_idxr und63 sz4 rfl rfl (by omega) (by omega)) rfl rfl rfl ?_
          refine o_store rfl mm me rfl sz4 rfl (by show 0 + ((n : Nat) : Int).toNat * 1 + 1 ≤ 7; omega) rfl (wL_set' (w := x.want) (n := n) (v := join[i]) (o := 0 + ((n : Nat) : Int).toNat * 1) (by omega) (by omega)) ?_
          refine o_nil ?_
          refine s_seq ?_
          refine s_seq ?_
          refine s_region ?_
          refine o_q (q_mv (v_sl rfl)) rfl rfl rfl ?_
          refine o_q (q_mv (v_raw rfl)) rfl rfl rfl ?_
          refine o_q (q_idx und63 sz4 rfl rfl (by omega) (gm i (by first | omega | simp)) rfl) rfl rfl rfl ?_
          refine o_q (q_ld ag4 sz4 rfl (gm i (by first | omega | simp)) rfl (v_raw rfl)) rfl rfl rfl ?_
          refine o_nil ?_
          refine s_cut (fun S => ∃ T, ∃ M3 : Mem, S = ⟨setT (setT (setT (setT (setT (setT (setT (setT (setT T 1 (.sl (who.map int) o1)) 2 (.sl (join.map bool) o2)) 7 (bool true)) 8 (ptr b)) 10 (.raw (.slice (some ⟨B1, 0, none⟩) 7 7))) 12 (int (i : Nat))) 13 (int (n : Nat))) 14 (int ((manyN x.want n 7 + (if join[i] then 1 else 0) : Nat) : Int))) 17 (ptr B2), M3⟩ ∧ M3 B2 = some (.cells [int 0, int (((x.want.set n join[i]).idx 7).length : Nat), .sl (([] : List Rec).map enc) false]) ∧ M3 B1 = some (.cells (wL (x.want.set n join[i]))) ∧ Mch ge gf M3 b ((2 * (i + 1) : Nat) : Int) (doM x (wC n join[i])).1 O2 ∧ Out M M3 O2) ?_ ?_
          · skip
            refine s_cond rfl (fun h9 => ?_) (fun h9 => ?_)
            · have k9 := h9; try simp only [decide_eq_true_eq, decide_eq_false_iff_not, Bool.not_eq_true', Bool.not_eq_false', Bool.not_true, Bool.not_false, List.length_map, Decidable.not_not] at k9
              refine s_region ?_
              refine o_q (q_mv (v_raw rfl)) rfl rfl rfl ?_
              refine o_q (q_add rfl rfl (wrap64 (by omega) (by omega))) rfl rfl rfl ?_
              refine o_q (q_as (v_raw rfl)) rfl rfl rfl ?_
              refine o_nil ?_
              refine s_inv ?_
              exact ⟨_, _, St.mkT (kp (kp (kp (kp (kp (kp (kp (kp (kp rfl rfl) rfl) rfl) rfl) rfl) rfl) rfl) (congrArg int (by rw [if_pos h9]; rfl))) rfl).symm, (Eq.trans (upd_other f21) (Eq.trans (Mem.upd_self _ _ _) (by simp only [if_neg hW]; rfl))), Mem.upd_self _ _ _, ((hX2.upd n2 c2).upd n2 c2).upd nb2 c1, ((hO2.upd m2).upd m2).upd m1⟩
            · have k9 := h9; try simp only [decide_eq_true_eq, decide_eq_false_iff_not, Bool.not_eq_true', Bool.not_eq_false', Bool.not_true, Bool.not_false, List.length_map, Decidable.not_not] at k9
              refine s_skip ?_
              refine s_inv ?_
              exact ⟨_, _, St.mkT (kp (kp (kp (kp (kp (kp (kp (kp (kp rfl rfl) rfl) rfl) rfl) rfl) rfl) rfl) (congrArg int (by rw [if_neg (by rw [show join[i] = false from h9]; decide)]; rfl))) rfl).symm, (Eq.trans (upd_other f21) (Eq.trans (Mem.upd_self _ _ _) (by simp only [if_neg hW]; rfl))), Mem.upd_self _ _ _, ((hX2.upd n2 c2).upd n2 c2).upd nb2 c1, ((hO2.upd m2).upd m2).upd m1⟩
          rintro S ⟨T, M3, rfl, hb2, hb3, hX3, hO3⟩
          refine s_seq ?_
          refine s_region ?_
          refine o_q (q_fr fo55_0 rfl) rfl rfl rfl ?_
          refine o_q (q_ldm ag3 sz3 rfl mm rfl (v_raw rfl)) rfl rfl rfl ?_
          refine o_q (q_neq rfl rfl) rfl rfl rfl ?_
          refine o_q (q_mv (v_raw rfl)) rfl rfl rfl ?_
          refine o_g (G := true) rfl rfl rfl rfl rfl (fun hG hc => (q_fr fo55_1 rfl)) ?_
          refine o_g (G := true) rfl rfl rfl rfl rfl (fun hG hc => (q_ldm ag3 sz3 (gv_on (gv_and hG hc) rfl) mm rfl (v_raw rfl))) ?_
          refine o_g (G := true) rfl rfl rfl rfl rfl (fun hG hc => (q_mv (v_raw rfl))) ?_
          refine o_g (G := true) rfl rfl rfl rfl rfl (fun hG hc => (q_neq (gv_on (gv_and hG hc) rfl) (gv_on (gv_and hG hc) rfl))) ?_
          refine o_q (q_por (c := _) (b := _) rfl rfl rfl) rfl rfl rfl ?_
          refine o_nil ?_
          refine s_cond rfl (fun h10 => ?_) (fun h10 => ?_)
          · have k10 := h10; try simp only [decide_eq_true_eq, decide_eq_false_iff_not, Bool.not_eq_true', Bool.not_eq_false', Bool.not_true, Bool.not_false, List.length_map, Decidable.not_not] at k10
            exfalso
            rw [hl7] at h10
            simp at h10
          · have k10 := h10; try simp only [decide_eq_true_eq, decide_eq_false_iff_not, Bool.not_eq_true', Bool.not_eq_false', Bool.not_true, Bool.not_false, List.length_map, Decidable.not_not] at k10
            refine s_skip ?_
            refine s_blk_normal ?_
            refine s_region ?_
            refine o_q (q_mv (v_raw rfl)) rfl rfl rfl ?_
            refine o_q (q_add rfl rfl (wrap64 (by omega) (by omega))) rfl rfl rfl ?_
            refine o_q (q_as (v_raw rfl)) rfl rfl rfl ?_
            refine o_nil ?_
            refine s_inv ?_
            exact ⟨who.length - (i + 1), by omega, _, _, (doM x (wC n join[i])).1, O2, i + 1, St.mkT (kp (kp (kp (kp (kp (kp rfl rfl) rfl) rfl) rfl) rfl) rfl).symm, hX3, (by rw [show (doM x (wC n join[i])).1.want = (x.want.set n join[i]) from hwn.trans (if_neg hW)]; exact hb3), nb2, hO3, by omega, by omega, rfl⟩
    · have k2 := h2; try simp only [decide_eq_true_eq, decide_eq_false_iff_not, Bool.not_eq_true', Bool.not_eq_false', Bool.not_true, Bool.not_false, List.length_map, Decidable.not_not] at k2
      refine s_exit ?_
      refine s_code_exit ?_
      refine s_inv_exit ?_
      refine s_blk_here ?_
      refine s_seq ?_
      refine s_region ?_
      refine o_q (q_mv (mv)) rfl rfl rfl ?_
      refine o_call ((wanted25 hX.at')) goes25 (ac (mv) ac_nil) rfl ?_
      refine o_q (q_as (v_sl rfl)) rfl rfl rfl ?_
      refine o_nil ?_
      refine s_seq ?_
      refine s_region ?_
      refine o_q (q_as (v_raw rfl)) rfl rfl rfl ?_
      refine o_nil ?_
      refine s_seq ?_
      refine s_seq ?_
      refine s_region ?_
      refine o_q (q_as (v_raw rfl)) rfl rfl rfl ?_
      refine o_nil ?_
      refine s_block ?_
      refine s_loop (fun m S => ∃ T, ∃ k : Nat, S = ⟨setT (setT (setT (setT (setT T 7 (bool true)) 10 (.raw (.slice (some ⟨B1, 0, none⟩) 7 7))) 18 (.sl ((x.want.idx 7).map natV) false)) 19 (int ((x.want.idx k).length : Nat))) 20 (int (k : Nat)), M'⟩ ∧ k ≤ 7 ∧ m = 7 - k) 7 ?_ ?_
      · exact ⟨_, 0, St.mkT (kp (kp (kp (kp (kp rfl rfl) rfl) rfl) rfl) rfl).symm, by omega, rfl⟩
      rintro m S ⟨T, k, rfl, hk, rfl⟩
      refine s_seq ?_
      refine s_seq ?_
      refine s_region ?_
      refine o_q (q_mv (v_raw rfl)) rfl rfl rfl ?_
      refine o_q (q_lss rfl rfl) rfl rfl rfl ?_
      refine o_nil ?_
      refine s_cond rfl (fun h11 => ?_) (fun h11 => ?_)
      · have k11 := h11; try simp only [decide_eq_true_eq, decide_eq_false_iff_not, Bool.not_eq_true', Bool.not_eq_false', Bool.not_true, Bool.not_false, List.length_map, Decidable.not_not] at k11
        have hil := idx_len x.want k
        refine s_skip ?_
        refine s_seq ?_
        refine s_block ?_
        refine s_seq ?_
        refine s_region ?_
        refine o_q (q_mv (v_raw rfl)) rfl rfl rfl ?_
        refine o_q (q_mv (v_raw rfl)) rfl rfl rfl ?_
        refine o_q (q_idxr und63 sz4 rfl rfl (by omega) (by omega)) rfl rfl rfl ?_
        refine o_q (q_ldm ag4 sz4 rfl mm (wL_get (w := x.want) (n := k) (o := 0 + ((k : Nat) : Int).toNat * 1) (by omega) (by omega)) (v_raw rfl)) rfl rfl rfl ?_
        refine o_nil ?_
        refine s_cond rfl (fun h12 => ?_) (fun h12 => ?_)
        · have k12 := h12; try simp only [decide_eq_true_eq, decide_eq_false_iff_not, Bool.not_eq_true', Bool.not_eq_false', Bool.not_true, Bool.not_false, List.length_map, Decidable.not_not] at k12
          obtain ⟨hat, hak⟩ := idx_at (w := x.want) (k := k) (by omega) h12
          refine s_seq ?_
          refine s_seq ?_
          refine s_region ?_
          refine o_q (q_mv (v_raw rfl)) rfl rfl rfl ?_
          refine o_q (q_mv (v_sl rfl)) rfl rfl rfl ?_
          refine o_q (q_len rfl und66 rfl) rfl rfl rfl ?_
          refine o_q (q_eql rfl rfl) rfl rfl rfl ?_
          refine o_q (q_mv (v_raw rfl)) rfl rfl rfl ?_
          refine o_g (G := true) rfl rfl rfl rfl rfl (fun hG hc => (q_mv (v_sl rfl))) ?_
          refine o_g (G := true) rfl rfl rfl rfl rfl (fun hG hc => (q_mv (v_raw rfl))) ?_
          refine o_g (G := true) rfl rfl rfl rfl rfl (fun hG hc => (q_idx und66 sz3 (gv_on (gv_and hG hc) rfl) (gv_on (gv_and hG hc) rfl) (by omega) (gm (x.want.idx k).length (by first | omega | simp)) rfl)) ?_
          refine o_g (G := true) rfl rfl rfl rfl rfl (fun hG hc => (q_ld ag3 sz3 (gv_on (gv_and hG hc) rfl) (gm (x.want.idx k).length (by first | omega | simp)) rfl (v_raw rfl))) ?_
          refine o_g (G := true) rfl rfl rfl rfl rfl (fun hG hc => (q_mv (v_raw rfl))) ?_
          refine o_g (G := true) rfl rfl rfl rfl rfl (fun hG hc => (q_neq (gv_on (gv_and hG hc) rfl) (gv_on (gv_and hG hc) rfl))) ?_
          refine o_q (q_por (c := _) (b := _) rfl rfl rfl) rfl rfl rfl ?_
          refine o_nil ?_
          refine s_cond rfl (fun h13 => ?_) (fun h13 => ?_)
          · have k13 := h13; try simp only [decide_eq_true_eq, decide_eq_false_iff_not, Bool.not_eq_true', Bool.not_eq_false', Bool.not_true, Bool.not_false, List.length_map, Decidable.not_not] at k13
            exfalso
            rw [List.length_map] at h13
            simp only [hak] at h13
            simp at h13
            omega
          · have k13 := h13; try simp only [decide_eq_true_eq, decide_eq_false_iff_not, Bool.not_eq_true', Bool.not_eq_false', Bool.not_true, Bool.not_false, List.length_map, Decidable.not_not] at k13
            refine s_skip ?_
            refine s_region ?_
            refine o_q (q_mv (v_raw rfl)) rfl rfl rfl ?_
            refine o_q (q_add rfl rfl (wrap64 (by omega) (by omega))) rfl rfl rfl ?_
            refine o_q (q_as (v_raw rfl)) rfl rfl rfl ?_
            refine o_nil ?_
            refine s_blk_normal ?_
            refine s_region ?_
            refine o_q (q_mv (v_raw rfl)) rfl rfl rfl ?_
            refine o_q (q_add rfl rfl (wrap64 (by omega) (by omega))) rfl rfl rfl ?_
            refine o_q (q_as (v_raw rfl)) rfl rfl rfl ?_
            refine o_nil ?_
            refine s_inv ?_
            exact ⟨7 - (k + 1), by omega, _, k + 1, St.mkT (kp (kp (kp (kp (kp rfl rfl) rfl) rfl) (congrArg int (by rw [idx_succ, if_pos h12]; simp))) rfl).symm, by omega, rfl⟩
        · have k12 := h12; try simp only [decide_eq_true_eq, decide_eq_false_iff_not, Bool.not_eq_true', Bool.not_eq_false', Bool.not_true, Bool.not_false, List.length_map, Decidable.not_not] at k12
          refine s_skip ?_
          refine s_blk_normal ?_
          refine s_region ?_
          refine o_q (q_mv (v_raw rfl)) rfl rfl rfl ?_
          refine o_q (q_add rfl rfl (wrap64 (by omega) (by omega))) rfl rfl rfl ?_
          refine o_q (q_as (v_raw rfl)) rfl rfl rfl ?_
          refine o_nil ?_
          refine s_inv ?_
          exact ⟨7 - (k + 1), by omega, _, k + 1, St.mkT (kp (kp (kp (kp (kp rfl rfl) rfl) rfl) (congrArg int (by rw [idx_succ, if_neg (by rw [show x.want.get k = false from h12]; decide), List.append_nil]))) rfl).symm, by omega, rfl⟩
      · have k11 := h11; try simp only [decide_eq_true_eq, decide_eq_false_iff_not, Bool.not_eq_true', Bool.not_eq_false', Bool.not_true, Bool.not_false, List.length_map, Decidable.not_not] at k11
        refine s_exit ?_
        refine s_code_exit ?_
        refine s_inv_exit ?_
        refine s_blk_here ?_
        refine s_seq ?_
        refine s_region ?_
        refine o_q (q_mv (v_raw rfl)) rfl rfl rfl ?_
        refine o_q (q_mv (v_raw rfl)) rfl rfl rfl ?_
        refine o_g (G := true) rfl rfl rfl rfl rfl (fun hG hc => (q_mv (v_raw rfl))) ?_
        refine o_g (G := true) rfl rfl rfl rfl rfl (fun hG hc => (q_mv (v_sl rfl))) ?_
        refine o_g (G := true) rfl rfl rfl rfl rfl (fun hG hc => (q_len rfl und66 (gv_on (gv_and hG hc) rfl))) ?_
        refine o_g (G := true) rfl rfl rfl rfl rfl (fun hG hc => (q_eql (gv_on (gv_and hG hc) rfl) (gv_on (gv_and hG hc) rfl))) ?_
        refine o_q (q_pand (c := _) (b := _) rfl rfl rfl) rfl rfl rfl ?_
        refine o_q (q_as (v_raw rfl)) rfl rfl rfl ?_
        refine o_nil ?_
        refine s_ret ?_
        refine s_end ?_
        obtain rfl : k = 7 := by omega
        exact ⟨congrArg bool (by rw [List.length_map]; simp), hO.le⟩
theorem wants7 (ge : TypeId) (gf : Nat × Nat) (nodes : Int) (who : List Int) (join : List Bool) (o1 o2 : Bool) (M : Mem) (hG : M 0 = some (szO ge gf)) (hwl : who.length < 2 ^ 60) (hjl : join.length < 2 ^ 60) (hwr : ∀ z ∈ who, -2 ^ 63 ≤ z ∧ z < 2 ^ 63) : SoundCall Tryd.prog 7 [int nodes, .sl (who.map int) o1, .sl (join.map bool) o2] M fun r M' => r = bool true ∧ M.le M' := by
  by_cases h : 1 ≤ nodes ∧ nodes ≤ 7
  · exact snd7b ge gf nodes who join o1 o2 M hG h hwl hjl hwr
  · exact snd7a ge gf nodes who join o1 o2 M hG (by omega)

end C17
