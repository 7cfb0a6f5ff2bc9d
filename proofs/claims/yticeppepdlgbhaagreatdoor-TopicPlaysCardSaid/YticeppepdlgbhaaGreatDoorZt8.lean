import Derived.Test.YticeppepdlgbhaaGreatDoorZt7
/-! Chapter 15: topic.Load. -/
open Go Go.Proofs Go.Am
set_option linter.unusedVariables false
set_option linter.unusedSimpArgs false
set_option autoImplicit false
namespace C17

def tk22 : Nat → Nat → Option Nat
 | 22, 4 => some 0
 | _, _ => none
def pl22 : Nat → List PStep
 | 2 => [.q 0, .q 1, .q 2, .q 3, .q 4, .q 5, .q 6, .s 7 [5, 4, 3, 1, 0], .q 8, .q 9, .q 10, .q 11, .q 12, .q 13, .q 14, .q 15, .q 16, .q 17, .q 18, .q 19, .q 20, .q 21, .q 22, .q 23, .q 24, .q 25, .q 26, .q 27]
 | 4 => [.q 0, .q 1, .q 2, .q 3, .q 4, .q 5, .q 6, .q 7, .q 8, .q 9, .q 10, .q 11, .q 12, .q 13, .s 14 [13, 12, 11, 10, 9, 8, 7, 6, 5, 4, 3, 2, 1, 0], .q 15, .s 16 [13, 12, 11, 10, 9, 8, 7, 6, 5, 4, 3, 2, 1, 0], .q 17]
 | 9 => [.q 0, .q 1, .q 2, .q 3, .s 4 [2, 1, 0], .q 5, .q 6, .q 7, .q 8, .q 9, .q 10, .q 11, .q 12, .q 13, .q 14, .q 15, .q 16, .q 17, .q 18, .q 19, .q 20, .q 21, .q 22, .q 23, .q 24, .q 25, .q 26, .q 27, .q 28, .q 29, .q 30, .q 31, .q 32]
 | 12 => [.q 0, .q 1, .q 2, .q 3, .q 4, .q 5, .q 6, .q 7, .q 8, .q 9, .q 10, .q 11, .q 12, .q 13, .q 14, .q 15, .q 16, .q 17, .s 18 []]
 | 16 => [.q 0, .q 1, .q 2, .q 3, .q 4, .q 5, .q 6, .q 7, .q 8, .q 9, .q 10, .q 11, .q 12, .q 13, .q 14, .q 15, .q 16]
 | 18 => [.q 0, .q 1, .q 2, .q 3, .q 4, .q 5, .q 6, .q 7, .q 8, .q 9, .q 10, .q 11, .q 12, .q 13, .q 14, .q 15, .q 16, .q 17, .q 18, .q 19, .q 20, .q 21, .q 22, .s 23 [22, 21, 20, 19, 18, 17, 16, 15, 14, 13, 12, 11, 10, 9, 8, 7, 6, 5, 4, 3, 2, 1, 0], .s 24 []]
 | 22 => [.q 0, .q 1, .q 2, .q 3, .q 5, .q 6, .s 4 [6, 5, 2, 1, 0], .q 7, .q 8, .q 9, .s 10 [8]]
 | _ => []
theorem cb22 : Tryz.f22.body.map (codeB Tryz.prog Tryz.f22.ntmps tk22 pl22) = some true := by kernel_rfl
theorem goes22 : goesB Tryz.prog 22 = true := by kernel_rfl

theorem len3 {Q : List Itm} (h : 3 ≤ Q.length) : ∃ a b c R, Q = a :: b :: c :: R := by
 match Q, h with
 | a :: b :: c :: R, _ => exact ⟨a, b, c, R, rfl⟩
theorem len5 {Q : List Itm} (h : 5 ≤ Q.length) : ∃ a b c d e R, Q = a :: b :: c :: d :: e :: R := by
 match Q, h with
 | a :: b :: c :: d :: e :: R, _ => exact ⟨a, b, c, d, e, R, rfl⟩
/-- The cells of a topic that is being made. -/
def tpV (m : Nat) (nm : ByteArray) (lo en : Int) (V : AVal) : List AVal := [str nm, int lo, int en, .raw (.map (some m)), V]
abbrev loadP (a b c : Itm) (n : Nat) (R : List Itm) : Option Tp := loadT (a :: b :: c :: ⟨3, n, emp⟩ :: R) n

theorem load_no {a b c d : Itm} {R : List Itm} {n : Nat} (h : okH a b c = false) : loadT (a :: b :: c :: d :: R) n = none := by
 unfold loadT
 dsimp only
 rw [h]; rfl
theorem load_yes {a b c d : Itm} {R : List Itm} {n : Nat} (h : okH a b c = true) : loadT (a :: b :: c :: d :: R) n = (prodsT c.n n R emp []).bind fun kv => (recsT c.n (R.drop (3 * n)) b.n []).map fun rs => ⟨a.s, b.n, c.n, kv, rs⟩ := by
 unfold loadT
 dsimp only
 rw [if_pos h]
theorem okH_w {a b c : Itm} (h : word a.s = false) : okH a b c = false := by unfold okH; rw [h]; rfl
theorem okH_b {a b c : Itm} (h : ¬ b.n ≤ c.n) : okH a b c = false := by unfold okH; rw [decide_eq_false h]; cases word a.s <;> rfl
theorem okH_c {a b c : Itm} (h : ¬ c.n ≤ great) : okH a b c = false := by unfold okH; rw [decide_eq_false h]; cases word a.s <;> cases decide (b.n ≤ c.n) <;> rfl
theorem okH_y {a b c : Itm} (h1 : word a.s = true) (h2 : b.n ≤ c.n) (h3 : c.n ≤ great) : okH a b c = true := by unfold okH; rw [h1, decide_eq_true h2, decide_eq_true h3]; rfl
theorem prods_no {en : Int} {k : Nat} {a b c : Itm} {Q : List Itm} {nm : ByteArray} {kv : List (ByteArray × (Int × Int × ByteArray))} (h : okP en nm a b c = false) : prodsT en (k + 1) (a :: b :: c :: Q) nm kv = none := by
 rw [prodsT, h]; rfl
theorem prods_yes {en : Int} {k : Nat} {a b c : Itm} {Q : List Itm} {nm : ByteArray} {kv : List (ByteArray × (Int × Int × ByteArray))} (h : okP en nm a b c = true) : prodsT en (k + 1) (a :: b :: c :: Q) nm kv = prodsT en k Q a.s (kput kv a.s ((b.n : Int), (c.n : Int), a.s)) := by
 rw [prodsT, if_pos h]
theorem recs_no {en lo : Int} {a b c d e : Itm} {Q : List Itm} {acc : List Rec} (h : okR en lo a b c d e = false) : recsT en (a :: b :: c :: d :: e :: Q) lo acc = none := by
 rw [recsT, h]; rfl
theorem recs_yes {en lo : Int} {a b c d e : Itm} {Q : List Itm} {acc : List Rec} (h : okR en lo a b c d e = true) : recsT en (a :: b :: c :: d :: e :: Q) lo acc = recsT en Q ((a.n : Int) + 1) (acc ++ [recO a b c d e]) := by
 rw [recsT, if_pos h]

theorem leN {M M' : Mem} {B : Nat} {o : AObj} (h : M.le M') (hB : M B = none) : M.le (M'.upd B o) := fun c x hx => (upd_other fun e => by rw [e, hB] at hx; cases hx).trans (h c x hx)
theorem right_own (r : Rec) (M : Mem) (B : Nat) (l : List AVal) (hb : M B = some (.cells l)) : SoundCall Tryz.prog 48 [enc r] M fun t M' => t = bool (right r) ∧ M' B = some (.cells (l.map nilOwn)) ∧ ∀ c o, c ≠ B → M c = some o → M' c = some o :=
 (snd48 r M).recast fun t M' h => ⟨M'.upd B (.cells (l.map nilOwn)), Mem.imp_nil (h.2 B _ hb), h.1, Mem.upd_self _ _ _, fun c o hc ho => (upd_other hc).trans (h.2 c o ho)⟩
theorem okP_no1 {en : Int} {nm : ByteArray} {a b c : Itm} (h : word a.s = false) : okP en nm a b c = false := by unfold okP; rw [h]; rfl
theorem okP_no {en : Int} {nm : ByteArray} {a b c : Itm} (h : ¬ (nm.data.toList < a.s.data.toList ∧ b.n ≤ great ∧ (c.n : Int) < en)) : okP en nm a b c = false := by
 unfold okP
 rw [Bool.eq_false_iff]
 intro e
 simp only [Bool.and_eq_true, decide_eq_true_eq] at e
 exact h e.2
theorem okP_yes {en : Int} {nm : ByteArray} {a b c : Itm} (h1 : word a.s = true) (h2 : nm.data.toList < a.s.data.toList) (h3 : b.n ≤ great) (h4 : (c.n : Int) < en) : okP en nm a b c = true := by
 unfold okP
 simp only [Bool.and_eq_true, decide_eq_true_eq]
 exact ⟨h1, h2, h3, h4⟩
theorem okR_no {en lo : Int} {a b c d e : Itm} (h : ¬ ((a.n : Int) < en ∧ c.n ≤ great ∧ right (recO a b c d e) = true ∧ lo ≤ (a.n : Int))) : okR en lo a b c d e = false := by
 unfold okR
 rw [Bool.eq_false_iff]
 intro e
 simp only [Bool.and_eq_true, decide_eq_true_eq] at e
 exact h e
theorem okR_yes {en lo : Int} {a b c d e : Itm} (h : (a.n : Int) < en ∧ c.n ≤ great ∧ right (recO a b c d e) = true ∧ lo ≤ (a.n : Int)) : okR en lo a b c d e = true := by
 unfold okR
 simp only [Bool.and_eq_true, decide_eq_true_eq]
 exact h
set_option maxHeartbeats 4000000 in
set_option maxRecDepth 20000 in
theorem snd22 (s : ByteArray) (a b c d : Itm) (R : List Itm) (n j : Nat) (M : Mem) (hR : R.length = 3 * n + 5 * j) (hn : n ≤ 333) (hj : j ≤ 1000) (h27 : SoundCall Tryz.prog 59 [str s] M fun r M' => (∃ o, r = .tup [.sl ((a :: b :: c :: d :: R).map encIt) o, int (n : Nat), bool true]) ∧ M.le M') : SoundCall Tryz.prog 22 [str s] M fun r M' => (loadT (a :: b :: c :: d :: R) n = none ∧ r = .tup [.raw (.pointer none), int 10] ∧ M.le M') ∨ ∃ x, loadT (a :: b :: c :: d :: R) n = some x ∧ ∃ t m l, M t = none ∧ M m = none ∧ t ≠ m ∧ r = .tup [ptr t, int 0] ∧ l.map nilOwn = tpC m x ∧ M' t = some (.cells l) ∧ M' m = some (tpK x) ∧ M.le M' := by
 have hlen0 : ((a :: b :: c :: d :: R).map encIt).length = R.length + 4 := by simp
 refine SoundCall.go tk22 pl22 mixed Tryz.func22 cb22 rfl (Nat.le_of_ble_eq_true rfl) ?_
 refine s_seq ?_
 refine s_region ?_
 refine o_q (q_as (mvQ)) rfl rfl rfl ?_
 refine o_q (q_as (v_raw rfl)) rfl rfl rfl ?_
 refine o_nil ?_
 refine s_seq ?_
 refine s_region ?_
 refine o_q (q_mv (v_raw rfl)) rfl rfl rfl ?_
 refine o_callx (h27) goes59 (ac (v_raw rfl) ac_nil) rfl ?_
 rintro r M1 ⟨⟨o, rfl⟩, hle1⟩
 refine o_q (q_mv (v_tup rfl)) rfl rfl rfl ?_
 refine o_q (q_ext rfl rfl (v_sl rfl)) rfl rfl rfl ?_
 refine o_q (q_ext rfl rfl (v_raw rfl)) rfl rfl rfl ?_
 refine o_q (q_ext rfl rfl (v_raw rfl)) rfl rfl rfl ?_
 refine o_q (q_as (v_sl rfl)) rfl rfl rfl ?_
 refine o_q (q_as (v_raw rfl)) rfl rfl rfl ?_
 refine o_q (q_as (v_raw rfl)) rfl rfl rfl ?_
 refine o_nil ?_
 refine s_seq ?_
 refine s_seq ?_
 refine s_draw rfl ?_
 refine d_q rfl (q_mv (v_raw rfl)) rfl rfl rfl ?_
 refine d_q rfl (q_not rfl) rfl rfl rfl ?_
 refine d_q rfl (q_mv (v_raw rfl)) rfl rfl rfl ?_
 refine d_yes rfl (q_mv (v_sl rfl)) rfl rfl rfl rfl rfl rfl ?_
 refine d_yes rfl (q_idx und105 sz102 rfl rfl (by omega) (gm 0 (by first | omega | simp)) rfl) rfl rfl rfl rfl rfl rfl ?_
 refine d_yes rfl (q_f fo102_2 rfl) rfl rfl rfl rfl rfl rfl ?_
 refine d_yes rfl (q_ld ag9 sz9 rfl (gm 0 (by first | omega | simp)) rfl (v_raw rfl)) rfl rfl rfl rfl rfl rfl ?_
 refine d_s rfl ?_
 refine o_yes rfl rfl rfl rfl ?_
 refine o_callx ((snd46 a.s _)) goes46 (ac (v_raw rfl) ac_nil) rfl ?_
 rintro r M2 ⟨rfl, hle2⟩
 have hl2 : M.le M2 := fun b o h => hle2 b o (hle1 b o h)
 refine o_nil ⟨(by simp [Mem.upd, *]), ?_⟩
 refine d_yes rfl (q_not rfl) rfl rfl rfl rfl rfl rfl ?_
 refine d_q rfl (q_pick_c (t := false) rfl rfl (v_raw rfl)) rfl rfl rfl ?_
 refine d_q rfl (q_mv (v_raw rfl)) rfl rfl rfl ?_
 refine d_cases (want := false) (j := 10) rfl rfl (fun h1 => ?_) (fun h1 => ?_)
 ·have k1 := h1; try simp only [decide_eq_true_eq, decide_eq_false_iff_not, Bool.not_eq_true', Bool.not_eq_false', Bool.not_true, Bool.not_false, List.length_map, Decidable.not_not] at k1
  have hw : word a.s = true := by simpa using h1
  refine d_yes rfl (q_mv (v_sl rfl)) rfl rfl rfl h1 rfl rfl ?_
  refine d_yes rfl (q_idx und105 sz102 rfl rfl (by omega) (gm 1 (by first | omega | simp)) rfl) rfl rfl rfl h1 rfl rfl ?_
  refine d_yes rfl (q_f fo102_1 rfl) rfl rfl rfl h1 rfl rfl ?_
  refine d_yes rfl (q_ld ag100 sz100 rfl (gm 1 (by first | omega | simp)) rfl (v_raw rfl)) rfl rfl rfl h1 rfl rfl ?_
  refine d_yes rfl (q_mv (v_sl rfl)) rfl rfl rfl h1 rfl rfl ?_
  refine d_yes rfl (q_idx und105 sz102 rfl rfl (by omega) (gm 2 (by first | omega | simp)) rfl) rfl rfl rfl h1 rfl rfl ?_
  refine d_yes rfl (q_f fo102_1 rfl) rfl rfl rfl h1 rfl rfl ?_
  refine d_yes rfl (q_ld ag100 sz100 rfl (gm 2 (by first | omega | simp)) rfl (v_raw rfl)) rfl rfl rfl h1 rfl rfl ?_
  refine d_yes rfl (q_gtr rfl rfl) rfl rfl rfl h1 rfl rfl ?_
  refine d_q rfl (q_pick_c (t := false) rfl h1 (v_raw rfl)) rfl rfl rfl ?_
  refine d_q rfl (q_mv (v_raw rfl)) rfl rfl rfl ?_
  refine d_cases (want := false) (j := 21) rfl rfl (fun h2 => ?_) (fun h2 => ?_)
  ·have k2 := h2; try simp only [decide_eq_true_eq, decide_eq_false_iff_not, Bool.not_eq_true', Bool.not_eq_false', Bool.not_true, Bool.not_false, List.length_map, Decidable.not_not] at k2
   have hx2 : ¬ ((c.n : Int) < (b.n : Int)) := of_decide_eq_false h2
   have hbc : b.n ≤ c.n := by omega
   refine d_yes rfl (q_mv (v_sl rfl)) rfl rfl rfl h2 rfl rfl ?_
   refine d_yes rfl (q_idx und105 sz102 rfl rfl (by omega) (gm 2 (by first | omega | simp)) rfl) rfl rfl rfl h2 rfl rfl ?_
   refine d_yes rfl (q_f fo102_1 rfl) rfl rfl rfl h2 rfl rfl ?_
   refine d_yes rfl (q_ld ag100 sz100 rfl (gm 2 (by first | omega | simp)) rfl (v_raw rfl)) rfl rfl rfl h2 rfl rfl ?_
   refine d_yes rfl (q_gtr rfl rfl) rfl rfl rfl h2 rfl rfl ?_
   refine d_q rfl (q_pick_c (t := false) rfl h2 (v_raw rfl)) rfl rfl rfl ?_
   refine d_nil ?_
   refine s_cond rfl (fun h3 => ?_) (fun h3 => ?_)
   ·have k3 := h3; try simp only [decide_eq_true_eq, decide_eq_false_iff_not, Bool.not_eq_true', Bool.not_eq_false', Bool.not_true, Bool.not_false, List.length_map, Decidable.not_not] at k3
    have hx2 : (9007199254740991 : Int) < (c.n : Int) := of_decide_eq_true h3
    have hcg : ¬ c.n ≤ great := by show ¬ c.n ≤ 9007199254740991; omega
    refine s_seq ?_
    refine s_region ?_
    refine o_q (q_as (mvQ)) rfl rfl rfl ?_
    refine o_q (q_as (v_raw rfl)) rfl rfl rfl ?_
    refine o_nil ?_
    refine s_ret ?_
    refine s_code_ret ?_
    refine s_end ?_
    exact ret_many (.inl rfl) rfl (rl_t rfl (rl_t rfl rl_nil)) rfl (.inl ⟨load_no (okH_c hcg), rfl, hl2⟩)
   ·have k3 := h3; try simp only [decide_eq_true_eq, decide_eq_false_iff_not, Bool.not_eq_true', Bool.not_eq_false', Bool.not_true, Bool.not_false, List.length_map, Decidable.not_not] at k3
    have hx2 : ¬ ((9007199254740991 : Int) < (c.n : Int)) := of_decide_eq_false h3
    have hcg2 : c.n ≤ 9007199254740991 := by omega
    have hcg : c.n ≤ great := hcg2
    have hyes := okH_y hw hbc hcg
    refine s_skip ?_
    refine s_seq ?_
    refine s_draw rfl ?_
    refine d_q rfl (q_mv (v_sl rfl)) rfl rfl rfl ?_
    refine d_q rfl (q_idx und105 sz102 rfl rfl (by omega) (gm 0 (by first | omega | simp)) rfl) rfl rfl rfl ?_
    refine d_q rfl (q_f fo102_2 rfl) rfl rfl rfl ?_
    refine d_q rfl (q_ld ag9 sz9 rfl (gm 0 (by first | omega | simp)) rfl (v_raw rfl)) rfl rfl rfl ?_
    refine d_q rfl (q_mv (v_sl rfl)) rfl rfl rfl ?_
    refine d_q rfl (q_idx und105 sz102 rfl rfl (by omega) (gm 1 (by first | omega | simp)) rfl) rfl rfl rfl ?_
    refine d_q rfl (q_f fo102_1 rfl) rfl rfl rfl ?_
    refine d_q rfl (q_ld ag100 sz100 rfl (gm 1 (by first | omega | simp)) rfl (v_raw rfl)) rfl rfl rfl ?_
    refine d_q rfl (q_i2i und100 und3 rfl (wrap64 (by omega) (by omega))) rfl rfl rfl ?_
    refine d_q rfl (q_mv (v_sl rfl)) rfl rfl rfl ?_
    refine d_q rfl (q_idx und105 sz102 rfl rfl (by omega) (gm 2 (by first | omega | simp)) rfl) rfl rfl rfl ?_
    refine d_q rfl (q_f fo102_1 rfl) rfl rfl rfl ?_
    refine d_q rfl (q_ld ag100 sz100 rfl (gm 2 (by first | omega | simp)) rfl (v_raw rfl)) rfl rfl rfl ?_
    refine d_q rfl (q_i2i und100 und3 rfl (wrap64 (by omega) (by omega))) rfl rfl rfl ?_
    refine d_s rfl ?_
    refine o_makeMap (fun B1 hB1 => ?_)
    have n1 := Mem.none_of_le hl2 hB1
    refine o_nil ⟨(by simp [Mem.upd, *]), ?_⟩
    refine d_q rfl (q_b (cs := [_, _, _, _, .raw (.slice none 0 0)]) bz87 bp87 (bf fo87_0 (e_raw rfl) rfl rfl (Nat.le_of_ble_eq_true rfl) rfl (bf fo87_1 (e_raw rfl) rfl rfl (Nat.le_of_ble_eq_true rfl) rfl (bf fo87_2 (e_raw rfl) rfl rfl (Nat.le_of_ble_eq_true rfl) rfl (bf fo87_3 (e_raw rfl) rfl rfl (Nat.le_of_ble_eq_true rfl) rfl bf_nil))))) rfl rfl rfl ?_
    refine d_s rfl ?_
    refine o_box (by first | exact e_raw rfl | exact e_agg rfl | exact e_sl rfl) rfl rfl (fun B2 hB2 => ?_)
    have f12 : B1 ≠ B2 := Mem.fresh_ne hB2 (Mem.upd_self _ _ _)
    have f21 := f12.symm
    have n2 := Mem.none_of_le hl2 (Mem.upd_none hB2).2
    refine o_nil ⟨(by simp [Mem.upd, *]), ?_⟩
    refine d_q rfl (q_as (mvQ)) rfl rfl rfl ?_
    refine d_nil ?_
    refine s_seq ?_
    refine s_region ?_
    refine o_q (q_as (v_raw rfl)) rfl rfl rfl ?_
    refine o_nil ?_
    refine s_seq ?_
    refine s_seq ?_
    refine s_region ?_
    refine o_q (q_mv (v_sl rfl)) rfl rfl rfl ?_
    refine o_q (q_slice und105 sz102 rfl elsIt (ab rfl rfl) ab_none (by first | (show 4 ≤ _; omega) | (show 3 ≤ _; omega) | (show 5 ≤ _; omega)) (by first | exact Nat.le_refl _ | omega | (simp; omega))) rfl rfl rfl ?_
    refine o_q (q_as (v_sl rfl)) rfl rfl rfl ?_
    refine o_nil ?_
    refine s_block ?_
    refine s_loop (fun m S => ∃ T, ∃ M' : Mem, ∃ Q : List Itm, ∃ k : Nat, ∃ nm : ByteArray, ∃ kv : List (ByteArray × (Int × Int × ByteArray)), S = ⟨setT (setT (setT (setT (setT T 2 (.raw (.pointer none))) 4 (.sl (Q.map encIt) false)) 5 (int (k : Nat))) 7 (ptr B2)) 8 (str nm), M'⟩ ∧ M' B2 = some (.cells (tpV B1 a.s b.n c.n (.raw (.slice none 0 0)))) ∧ M' B1 = some (.map (ents Value.string encL kv)) ∧ prodsT c.n n R emp [] = prodsT c.n k Q nm kv ∧ R.drop (3 * n) = Q.drop (3 * k) ∧ Q.length = 3 * k + 5 * j ∧ M.le M' ∧ k ≤ n ∧ m = k + 0) n ?_ ?_
    ·exact ⟨_, _, R, n, emp, [], St.mkT (kp (kp (kp (kp (kp rfl rfl) (congrArg (fun l => AVal.sl (l.drop 4) false) (List.take_length (l := (a :: b :: c :: d :: R).map encIt)))) rfl) rfl) rfl).symm, Mem.upd_self _ _ _, (upd_other f12).trans (Mem.upd_self _ _ _), rfl, rfl, hR, leU (leU hl2 hB1) hB2, Nat.le_refl _, rfl⟩
    rintro m S ⟨T, M', Q, k, nm, kv, rfl, hb, hm, hp, hdr, hQ, hle', hkn, hmk⟩
    refine s_seq ?_
    refine s_seq ?_
    refine s_region ?_
    refine o_q (q_mv (v_raw rfl)) rfl rfl rfl ?_
    refine o_q (q_gtr rfl rfl) rfl rfl rfl ?_
    refine o_nil ?_
    refine s_cond rfl (fun h4 => ?_) (fun h4 => ?_)
    ·have k4 := h4; try simp only [decide_eq_true_eq, decide_eq_false_iff_not, Bool.not_eq_true', Bool.not_eq_false', Bool.not_true, Bool.not_false, List.length_map, Decidable.not_not] at k4
     obtain ⟨k, rfl⟩ : ∃ k', k = k' + 1 := ⟨k - 1, by omega⟩
     obtain ⟨a1, b1, c1, Q, rfl⟩ := len3 (Q := Q) (by omega)
     rw [List.length_cons, List.length_cons, List.length_cons] at hQ
     have hlen3 : ((a1 :: b1 :: c1 :: Q).map encIt).length = Q.length + 3 := by simp
     refine s_skip ?_
     refine s_seq ?_
     refine s_block ?_
     refine s_seq ?_
     refine s_seq ?_
     refine s_draw rfl ?_
     refine d_q rfl (q_mv (v_sl rfl)) rfl rfl rfl ?_
     refine d_q rfl (q_idx und105 sz102 rfl rfl (by omega) (gm 0 (by first | omega | simp)) rfl) rfl rfl rfl ?_
     refine d_q rfl (q_f fo102_2 rfl) rfl rfl rfl ?_
     refine d_q rfl (q_ld ag9 sz9 rfl (gm 0 (by first | omega | simp)) rfl (v_raw rfl)) rfl rfl rfl ?_
     refine d_s rfl ?_
     refine o_callx ((snd46 a1.s _)) goes46 (ac (v_raw rfl) ac_nil) rfl ?_
     rintro r M3 ⟨rfl, hle3⟩
     have hb3 := hle3 _ _ hb
     have hm3 := hle3 _ _ hm
     have hl3 : M.le M3 := fun b o h => hle3 b o (hle' b o h)
     refine o_nil ⟨(by simp [Mem.upd, *]), ?_⟩
     refine d_q rfl (q_not rfl) rfl rfl rfl ?_
     refine d_q rfl (q_mv (v_raw rfl)) rfl rfl rfl ?_
     refine d_cases (want := false) (j := 6) rfl rfl (fun h5 => ?_) (fun h5 => ?_)
     ·have k5 := h5; try simp only [decide_eq_true_eq, decide_eq_false_iff_not, Bool.not_eq_true', Bool.not_eq_false', Bool.not_true, Bool.not_false, List.length_map, Decidable.not_not] at k5
      have hw1 : word a1.s = true := by simpa using h5
      refine d_yes rfl (q_mv (v_sl rfl)) rfl rfl rfl h5 rfl rfl ?_
      refine d_yes rfl (q_idx und105 sz102 rfl rfl (by omega) (gm 0 (by first | omega | simp)) rfl) rfl rfl rfl h5 rfl rfl ?_
      refine d_yes rfl (q_f fo102_2 rfl) rfl rfl rfl h5 rfl rfl ?_
      refine d_yes rfl (q_ld ag9 sz9 rfl (gm 0 (by first | omega | simp)) rfl (v_raw rfl)) rfl rfl rfl h5 rfl rfl ?_
      refine d_yes rfl (q_mv (v_raw rfl)) rfl rfl rfl h5 rfl rfl ?_
      refine d_yes rfl (q_sleq rfl rfl) rfl rfl rfl h5 rfl rfl ?_
      refine d_q rfl (q_pick_c (t := false) rfl h5 (v_raw rfl)) rfl rfl rfl ?_
      refine d_q rfl (q_mv (v_raw rfl)) rfl rfl rfl ?_
      refine d_cases (want := false) (j := 14) rfl rfl (fun h6 => ?_) (fun h6 => ?_)
      ·have k6 := h6; try simp only [decide_eq_true_eq, decide_eq_false_iff_not, Bool.not_eq_true', Bool.not_eq_false', Bool.not_true, Bool.not_false, List.length_map, Decidable.not_not] at k6
       have hlt : nm.data.toList < a1.s.data.toList := by simpa using h6
       refine d_yes rfl (q_mv (v_sl rfl)) rfl rfl rfl h6 rfl rfl ?_
       refine d_yes rfl (q_idx und105 sz102 rfl rfl (by omega) (gm 1 (by first | omega | simp)) rfl) rfl rfl rfl h6 rfl rfl ?_
       refine d_yes rfl (q_f fo102_1 rfl) rfl rfl rfl h6 rfl rfl ?_
       refine d_yes rfl (q_ld ag100 sz100 rfl (gm 1 (by first | omega | simp)) rfl (v_raw rfl)) rfl rfl rfl h6 rfl rfl ?_
       refine d_yes rfl (q_gtr rfl rfl) rfl rfl rfl h6 rfl rfl ?_
       refine d_q rfl (q_pick_c (t := false) rfl h6 (v_raw rfl)) rfl rfl rfl ?_
       refine d_q rfl (q_mv (v_raw rfl)) rfl rfl rfl ?_
       refine d_cases (want := false) (j := 21) rfl rfl (fun h7 => ?_) (fun h7 => ?_)
       ·have k7 := h7; try simp only [decide_eq_true_eq, decide_eq_false_iff_not, Bool.not_eq_true', Bool.not_eq_false', Bool.not_true, Bool.not_false, List.length_map, Decidable.not_not] at k7
        have hx2 : ¬ ((9007199254740991 : Int) < (b1.n : Int)) := of_decide_eq_false h7
        have hbg2 : b1.n ≤ 9007199254740991 := by omega
        have hbg : b1.n ≤ great := hbg2
        refine d_yes rfl (q_mv (v_sl rfl)) rfl rfl rfl h7 rfl rfl ?_
        refine d_yes rfl (q_idx und105 sz102 rfl rfl (by omega) (gm 2 (by first | omega | simp)) rfl) rfl rfl rfl h7 rfl rfl ?_
        refine d_yes rfl (q_f fo102_1 rfl) rfl rfl rfl h7 rfl rfl ?_
        refine d_yes rfl (q_ld ag100 sz100 rfl (gm 2 (by first | omega | simp)) rfl (v_raw rfl)) rfl rfl rfl h7 rfl rfl ?_
        refine d_yes rfl (q_mv (mvQ)) rfl rfl rfl h7 rfl rfl ?_
        refine d_yes rfl (q_nil rfl) rfl rfl rfl h7 rfl rfl ?_
        refine d_yes rfl (q_fr fo87_2 rfl) rfl rfl rfl h7 rfl rfl ?_
        refine d_yes rfl (q_ldm ag3 sz3 rfl mmQ rfl (v_raw rfl)) rfl rfl rfl h7 rfl rfl ?_
        refine d_yes rfl (q_i2i und3 und100 rfl (u64_wrap (by omega) (by omega))) rfl rfl rfl h7 rfl rfl ?_
        refine d_yes rfl (q_geq rfl rfl) rfl rfl rfl h7 rfl rfl ?_
        refine d_q rfl (q_pick_c (t := false) rfl h7 (v_raw rfl)) rfl rfl rfl ?_
        refine d_nil ?_
        refine s_cond rfl (fun h8 => ?_) (fun h8 => ?_)
        ·have k8 := h8; try simp only [decide_eq_true_eq, decide_eq_false_iff_not, Bool.not_eq_true', Bool.not_eq_false', Bool.not_true, Bool.not_false, List.length_map, Decidable.not_not] at k8
         have hx2 : (c.n : Int) ≤ (c1.n : Int) := of_decide_eq_true h8
         have hok : okP c.n nm a1 b1 c1 = false := okP_no fun hh => by
          have h3 := hh.2.2
          omega
         refine s_seq ?_
         refine s_region ?_
         refine o_q (q_as (mvQ)) rfl rfl rfl ?_
         refine o_q (q_as (v_raw rfl)) rfl rfl rfl ?_
         refine o_nil ?_
         refine s_ret ?_
         refine s_code_ret ?_
         refine s_blk_ret ?_
         refine s_code_ret ?_
         refine s_inv_ret ?_
         refine s_blk_ret ?_
         refine s_code_ret ?_
         refine s_end ?_
         exact ret_many (.inl rfl) rfl (rl_t rfl (rl_t rfl rl_nil)) rfl (.inl ⟨(by rw [load_yes hyes, hp, prods_no hok]; rfl), rfl, hl3⟩)
        ·have k8 := h8; try simp only [decide_eq_true_eq, decide_eq_false_iff_not, Bool.not_eq_true', Bool.not_eq_false', Bool.not_true, Bool.not_false, List.length_map, Decidable.not_not] at k8
         have hx2 : ¬ ((c.n : Int) ≤ (c1.n : Int)) := of_decide_eq_false h8
         have hok := okP_yes hw1 hlt hbg (show (c1.n : Int) < c.n by omega)
         refine s_skip ?_
         refine s_seq ?_
         refine s_region ?_
         refine o_q (q_mv (v_sl rfl)) rfl rfl rfl ?_
         refine o_q (q_idx und105 sz102 rfl rfl (by omega) (gm 0 (by first | omega | simp)) rfl) rfl rfl rfl ?_
         refine o_q (q_f fo102_2 rfl) rfl rfl rfl ?_
         refine o_q (q_ld ag9 sz9 rfl (gm 0 (by first | omega | simp)) rfl (v_raw rfl)) rfl rfl rfl ?_
         refine o_q (q_as (v_raw rfl)) rfl rfl rfl ?_
         refine o_nil ?_
         refine s_draw rfl ?_
         refine d_q rfl (q_mv (mvQ)) rfl rfl rfl ?_
         refine d_q rfl (q_nil rfl) rfl rfl rfl ?_
         refine d_q rfl (q_fr fo87_3 rfl) rfl rfl rfl ?_
         refine d_q rfl (q_ldm ag85 sz85 rfl mmQ rfl (v_raw rfl)) rfl rfl rfl ?_
         refine d_q rfl (q_mv (v_raw rfl)) rfl rfl rfl ?_
         refine d_q rfl (q_mv (v_sl rfl)) rfl rfl rfl ?_
         refine d_q rfl (q_idx und105 sz102 rfl rfl (by omega) (gm 1 (by first | omega | simp)) rfl) rfl rfl rfl ?_
         refine d_q rfl (q_f fo102_1 rfl) rfl rfl rfl ?_
         refine d_q rfl (q_ld ag100 sz100 rfl (gm 1 (by first | omega | simp)) rfl (v_raw rfl)) rfl rfl rfl ?_
         refine d_q rfl (q_i2i und100 und3 rfl (wrap64 (by omega) (by omega))) rfl rfl rfl ?_
         refine d_q rfl (q_mv (v_sl rfl)) rfl rfl rfl ?_
         refine d_q rfl (q_idx und105 sz102 rfl rfl (by omega) (gm 2 (by first | omega | simp)) rfl) rfl rfl rfl ?_
         refine d_q rfl (q_f fo102_1 rfl) rfl rfl rfl ?_
         refine d_q rfl (q_ld ag100 sz100 rfl (gm 2 (by first | omega | simp)) rfl (v_raw rfl)) rfl rfl rfl ?_
         refine d_q rfl (q_i2i und100 und3 rfl (wrap64 (by omega) (by omega))) rfl rfl rfl ?_
         refine d_q rfl (q_b (cs := [_, _]) bz90 bp90 (bf fo90_0 (e_raw rfl) rfl rfl (Nat.le_of_ble_eq_true rfl) rfl (bf fo90_1 (e_raw rfl) rfl rfl (Nat.le_of_ble_eq_true rfl) rfl bf_nil))) rfl rfl rfl ?_
         refine d_q rfl (q_mv (v_raw rfl)) rfl rfl rfl ?_
         refine d_q rfl (q_b (cs := [_, _, _]) bz92 bp92 (bf fo92_0 (e_agg rfl) rfl rfl (Nat.le_of_ble_eq_true rfl) rfl (bf fo92_1 (e_raw rfl) rfl rfl (Nat.le_of_ble_eq_true rfl) rfl bf_nil))) rfl rfl rfl ?_
         refine d_s rfl ?_
         refine o_mput und85 kt9 rfl rfl mmQ (f := encL) (v := ((b1.n : Int), (c1.n : Int), a1.s)) (v_agg rfl) ?_
         refine o_nil ⟨(by simp [Mem.upd, *]), ?_⟩
         refine d_nil ?_
         refine s_blk_normal ?_
         refine s_region ?_
         refine o_q (q_mv (v_sl rfl)) rfl rfl rfl ?_
         refine o_q (q_slice und105 sz102 rfl elsIt (ab rfl rfl) ab_none (by first | (show 4 ≤ _; omega) | (show 3 ≤ _; omega) | (show 5 ≤ _; omega)) (by first | exact Nat.le_refl _ | omega | (simp; omega))) rfl rfl rfl ?_
         refine o_q (q_mv (v_raw rfl)) rfl rfl rfl ?_
         refine o_q (q_sub rfl rfl (wrap64 (by omega) (by omega))) rfl rfl rfl ?_
         refine o_q (q_as (v_sl rfl)) rfl rfl rfl ?_
         refine o_q (q_as (v_raw rfl)) rfl rfl rfl ?_
         refine o_nil ?_
         refine s_inv ?_
         exact ⟨k, by omega, _, _, Q, k, a1.s, kput kv a1.s ((b1.n : Int), (c1.n : Int), a1.s), St.mkT (kp (kp (kp (kp (kp rfl rfl) (congrArg (fun l => AVal.sl (l.drop 3) false) (List.take_length (l := (a1 :: b1 :: c1 :: Q).map encIt)))) (congrArg int (by omega))) rfl) rfl).symm, (upd_other f21).trans hb3, Mem.upd_self _ _ _, hp.trans (prods_yes hok), hdr.trans (by rw [show 3 * (k + 1) = 3 * k + 1 + 1 + 1 by omega]; rfl), by omega, leN hl3 n1, by omega, rfl⟩
       ·have k7 := h7; try simp only [decide_eq_true_eq, decide_eq_false_iff_not, Bool.not_eq_true', Bool.not_eq_false', Bool.not_true, Bool.not_false, List.length_map, Decidable.not_not] at k7
        have hx2 : (9007199254740991 : Int) < (b1.n : Int) := of_decide_eq_true h7
        have hok : okP c.n nm a1 b1 c1 = false := okP_no fun hh => by
         have h3 : b1.n ≤ 9007199254740991 := hh.2.1
         omega
        refine d_no rfl rfl rfl rfl h7 rfl ?_
        refine d_no rfl rfl rfl rfl h7 rfl ?_
        refine d_no rfl rfl rfl rfl h7 rfl ?_
        refine d_no rfl rfl rfl rfl h7 rfl ?_
        refine d_no rfl rfl rfl rfl h7 rfl ?_
        refine d_no rfl rfl rfl rfl h7 rfl ?_
        refine d_no rfl rfl rfl rfl h7 rfl ?_
        refine d_no rfl rfl rfl rfl h7 rfl ?_
        refine d_no rfl rfl rfl rfl h7 rfl ?_
        refine d_no rfl rfl rfl rfl h7 rfl ?_
        refine d_q rfl (q_pick_c (t := true) rfl h7 (v_raw rfl)) rfl rfl rfl ?_
        refine d_nil ?_
        refine s_then rfl rfl ?_
        refine s_seq ?_
        refine s_region ?_
        refine o_q (q_as (mvQ)) rfl rfl rfl ?_
        refine o_q (q_as (v_raw rfl)) rfl rfl rfl ?_
        refine o_nil ?_
        refine s_ret ?_
        refine s_code_ret ?_
        refine s_blk_ret ?_
        refine s_code_ret ?_
        refine s_inv_ret ?_
        refine s_blk_ret ?_
        refine s_code_ret ?_
        refine s_end ?_
        exact ret_many (.inl rfl) rfl (rl_t rfl (rl_t rfl rl_nil)) rfl (.inl ⟨(by rw [load_yes hyes, hp, prods_no hok]; rfl), rfl, hl3⟩)
      ·have k6 := h6; try simp only [decide_eq_true_eq, decide_eq_false_iff_not, Bool.not_eq_true', Bool.not_eq_false', Bool.not_true, Bool.not_false, List.length_map, Decidable.not_not] at k6
       have hok : okP c.n nm a1 b1 c1 = false := okP_no fun hh => by simp [hh.1] at h6
       refine d_no rfl rfl rfl rfl h6 rfl ?_
       refine d_no rfl rfl rfl rfl h6 rfl ?_
       refine d_no rfl rfl rfl rfl h6 rfl ?_
       refine d_no rfl rfl rfl rfl h6 rfl ?_
       refine d_no rfl rfl rfl rfl h6 rfl ?_
       refine d_q rfl (q_pick_c (t := true) rfl h6 (v_raw rfl)) rfl rfl rfl ?_
       refine d_q rfl (q_mv (v_raw rfl)) rfl rfl rfl ?_
       refine d_no rfl rfl rfl rfl rfl rfl ?_
       refine d_no rfl rfl rfl rfl rfl rfl ?_
       refine d_no rfl rfl rfl rfl rfl rfl ?_
       refine d_no rfl rfl rfl rfl rfl rfl ?_
       refine d_no rfl rfl rfl rfl rfl rfl ?_
       refine d_no rfl rfl rfl rfl rfl rfl ?_
       refine d_no rfl rfl rfl rfl rfl rfl ?_
       refine d_no rfl rfl rfl rfl rfl rfl ?_
       refine d_no rfl rfl rfl rfl rfl rfl ?_
       refine d_no rfl rfl rfl rfl rfl rfl ?_
       refine d_q rfl (q_pick_c (t := true) rfl rfl (v_raw rfl)) rfl rfl rfl ?_
       refine d_nil ?_
       refine s_then rfl rfl ?_
       refine s_seq ?_
       refine s_region ?_
       refine o_q (q_as (mvQ)) rfl rfl rfl ?_
       refine o_q (q_as (v_raw rfl)) rfl rfl rfl ?_
       refine o_nil ?_
       refine s_ret ?_
       refine s_code_ret ?_
       refine s_blk_ret ?_
       refine s_code_ret ?_
       refine s_inv_ret ?_
       refine s_blk_ret ?_
       refine s_code_ret ?_
       refine s_end ?_
       exact ret_many (.inl rfl) rfl (rl_t rfl (rl_t rfl rl_nil)) rfl (.inl ⟨(by rw [load_yes hyes, hp, prods_no hok]; rfl), rfl, hl3⟩)
     ·have k5 := h5; try simp only [decide_eq_true_eq, decide_eq_false_iff_not, Bool.not_eq_true', Bool.not_eq_false', Bool.not_true, Bool.not_false, List.length_map, Decidable.not_not] at k5
      have hok : okP c.n nm a1 b1 c1 = false := okP_no1 (by simpa using h5)
      refine d_no rfl rfl rfl rfl h5 rfl ?_
      refine d_no rfl rfl rfl rfl h5 rfl ?_
      refine d_no rfl rfl rfl rfl h5 rfl ?_
      refine d_no rfl rfl rfl rfl h5 rfl ?_
      refine d_no rfl rfl rfl rfl h5 rfl ?_
      refine d_no rfl rfl rfl rfl h5 rfl ?_
      refine d_q rfl (q_pick_c (t := true) rfl h5 (v_raw rfl)) rfl rfl rfl ?_
      refine d_q rfl (q_mv (v_raw rfl)) rfl rfl rfl ?_
      refine d_no rfl rfl rfl rfl rfl rfl ?_
      refine d_no rfl rfl rfl rfl rfl rfl ?_
      refine d_no rfl rfl rfl rfl rfl rfl ?_
      refine d_no rfl rfl rfl rfl rfl rfl ?_
      refine d_no rfl rfl rfl rfl rfl rfl ?_
      refine d_q rfl (q_pick_c (t := true) rfl rfl (v_raw rfl)) rfl rfl rfl ?_
      refine d_q rfl (q_mv (v_raw rfl)) rfl rfl rfl ?_
      refine d_no rfl rfl rfl rfl rfl rfl ?_
      refine d_no rfl rfl rfl rfl rfl rfl ?_
      refine d_no rfl rfl rfl rfl rfl rfl ?_
      refine d_no rfl rfl rfl rfl rfl rfl ?_
      refine d_no rfl rfl rfl rfl rfl rfl ?_
      refine d_no rfl rfl rfl rfl rfl rfl ?_
      refine d_no rfl rfl rfl rfl rfl rfl ?_
      refine d_no rfl rfl rfl rfl rfl rfl ?_
      refine d_no rfl rfl rfl rfl rfl rfl ?_
      refine d_no rfl rfl rfl rfl rfl rfl ?_
      refine d_q rfl (q_pick_c (t := true) rfl rfl (v_raw rfl)) rfl rfl rfl ?_
      refine d_nil ?_
      refine s_then rfl rfl ?_
      refine s_seq ?_
      refine s_region ?_
      refine o_q (q_as (mvQ)) rfl rfl rfl ?_
      refine o_q (q_as (v_raw rfl)) rfl rfl rfl ?_
      refine o_nil ?_
      refine s_ret ?_
      refine s_code_ret ?_
      refine s_blk_ret ?_
      refine s_code_ret ?_
      refine s_inv_ret ?_
      refine s_blk_ret ?_
      refine s_code_ret ?_
      refine s_end ?_
      exact ret_many (.inl rfl) rfl (rl_t rfl (rl_t rfl rl_nil)) rfl (.inl ⟨(by rw [load_yes hyes, hp, prods_no hok]; rfl), rfl, hl3⟩)
    ·have k4 := h4; try simp only [decide_eq_true_eq, decide_eq_false_iff_not, Bool.not_eq_true', Bool.not_eq_false', Bool.not_true, Bool.not_false, List.length_map, Decidable.not_not] at k4
     obtain rfl : k = 0 := by omega
     have hp : prodsT c.n n R emp [] = some kv := hp
     have hdr : R.drop (3 * n) = Q := hdr
     refine s_exit ?_
     refine s_code_exit ?_
     refine s_inv_exit ?_
     refine s_blk_here ?_
     refine s_seq ?_
     refine s_region ?_
     refine o_q (q_mv (mvQ)) rfl rfl rfl ?_
     refine o_q (q_nil rfl) rfl rfl rfl ?_
     refine o_q (q_fr fo87_1 rfl) rfl rfl rfl ?_
     refine o_q (q_ldm ag3 sz3 rfl mmQ rfl (v_raw rfl)) rfl rfl rfl ?_
     refine o_q (q_as (v_raw rfl)) rfl rfl rfl ?_
     refine o_nil ?_
     refine s_seq ?_
     refine s_block ?_
     refine s_loop (fun m S => ∃ T, ∃ M' : Mem, ∃ Q : List Itm, ∃ k : Nat, ∃ lo : Int, ∃ acc : List Rec, ∃ V : AVal, S = ⟨setT (setT (setT (setT T 2 (.raw (.pointer none))) 4 (.sl (Q.map encIt) false)) 7 (ptr B2)) 9 (int lo), M'⟩ ∧ M' B2 = some (.cells (tpV B1 a.s b.n c.n V)) ∧ nilOwn V = .sl (acc.map enc) true ∧ M' B1 = some (.map (ents Value.string encL kv)) ∧ recsT c.n (R.drop (3 * n)) b.n [] = recsT c.n Q lo acc ∧ Q.length = 5 * k ∧ acc.length + k = j ∧ (0 ≤ lo ∧ lo ≤ 9007199254740992) ∧ M.le M' ∧ m = k + 0) j ?_ ?_
     ·exact ⟨_, _, Q, j, b.n, [], .raw (.slice none 0 0), St.mkT (kp (kp (kp (kp rfl rfl) rfl) rfl) rfl).symm, hb, rfl, hm, by rw [hdr], by omega, by show 0 + j = j; omega, by omega, hle', rfl⟩
     rintro m S ⟨T, M', Q, k, lo, acc, V, rfl, hb, hV, hm, hr, hQ, hac, hlo, hle', hmk⟩
     refine s_seq ?_
     refine s_seq ?_
     refine s_region ?_
     refine o_q (q_mv (v_sl rfl)) rfl rfl rfl ?_
     refine o_q (q_len rfl und105 rfl) rfl rfl rfl ?_
     refine o_q (q_gtr rfl rfl) rfl rfl rfl ?_
     refine o_nil ?_
     refine s_cond rfl (fun h9 => ?_) (fun h9 => ?_)
     ·have k9 := h9; try simp only [decide_eq_true_eq, decide_eq_false_iff_not, Bool.not_eq_true', Bool.not_eq_false', Bool.not_true, Bool.not_false, List.length_map, Decidable.not_not] at k9
      have hQl : (Q.map encIt).length = Q.length := List.length_map _
      obtain ⟨k, rfl⟩ : ∃ k', k = k' + 1 := ⟨k - 1, by omega⟩
      obtain ⟨a1, b1, c1, d1, e1, Q, rfl⟩ := len5 (Q := Q) (by omega)
      simp only [List.length_cons] at hQ
      have hlen5 : ((a1 :: b1 :: c1 :: d1 :: e1 :: Q).map encIt).length = Q.length + 5 := by simp
      refine s_skip ?_
      refine s_seq ?_
      refine s_block ?_
      refine s_seq ?_
      refine s_seq ?_
      refine s_draw rfl ?_
      refine d_q rfl (q_mv (v_sl rfl)) rfl rfl rfl ?_
      refine d_q rfl (q_idx und105 sz102 rfl rfl (by omega) (gm 0 (by first | omega | simp)) rfl) rfl rfl rfl ?_
      refine d_q rfl (q_f fo102_1 rfl) rfl rfl rfl ?_
      refine d_q rfl (q_ld ag100 sz100 rfl (gm 0 (by first | omega | simp)) rfl (v_raw rfl)) rfl rfl rfl ?_
      refine d_q rfl (q_mv (mvQ)) rfl rfl rfl ?_
      refine d_q rfl (q_nil rfl) rfl rfl rfl ?_
      refine d_q rfl (q_fr fo87_2 rfl) rfl rfl rfl ?_
      refine d_q rfl (q_ldm ag3 sz3 rfl mmQ rfl (v_raw rfl)) rfl rfl rfl ?_
      refine d_q rfl (q_i2i und3 und100 rfl (u64_wrap (by omega) (by omega))) rfl rfl rfl ?_
      refine d_q rfl (q_geq rfl rfl) rfl rfl rfl ?_
      refine d_q rfl (q_mv (v_raw rfl)) rfl rfl rfl ?_
      refine d_cases (want := false) (j := 10) rfl rfl (fun h10 => ?_) (fun h10 => ?_)
      ·have k10 := h10; try simp only [decide_eq_true_eq, decide_eq_false_iff_not, Bool.not_eq_true', Bool.not_eq_false', Bool.not_true, Bool.not_false, List.length_map, Decidable.not_not] at k10
       have hx2 : ¬ ((c.n : Int) ≤ (a1.n : Int)) := of_decide_eq_false h10
       have hae : (a1.n : Int) < c.n := by omega
       refine d_yes rfl (q_mv (v_sl rfl)) rfl rfl rfl h10 rfl rfl ?_
       refine d_yes rfl (q_idx und105 sz102 rfl rfl (by omega) (gm 2 (by first | omega | simp)) rfl) rfl rfl rfl h10 rfl rfl ?_
       refine d_yes rfl (q_f fo102_1 rfl) rfl rfl rfl h10 rfl rfl ?_
       refine d_yes rfl (q_ld ag100 sz100 rfl (gm 2 (by first | omega | simp)) rfl (v_raw rfl)) rfl rfl rfl h10 rfl rfl ?_
       refine d_yes rfl (q_gtr rfl rfl) rfl rfl rfl h10 rfl rfl ?_
       refine d_q rfl (q_pick_c (t := false) rfl h10 (v_raw rfl)) rfl rfl rfl ?_
       refine d_nil ?_
       refine s_cond rfl (fun h11 => ?_) (fun h11 => ?_)
       ·have k11 := h11; try simp only [decide_eq_true_eq, decide_eq_false_iff_not, Bool.not_eq_true', Bool.not_eq_false', Bool.not_true, Bool.not_false, List.length_map, Decidable.not_not] at k11
        have hx2 : (9007199254740991 : Int) < (c1.n : Int) := of_decide_eq_true h11
        have hok : okR c.n lo a1 b1 c1 d1 e1 = false := okR_no fun hh => by
         have h3 : c1.n ≤ 9007199254740991 := hh.2.1
         omega
        refine s_seq ?_
        refine s_region ?_
        refine o_q (q_as (mvQ)) rfl rfl rfl ?_
        refine o_q (q_as (v_raw rfl)) rfl rfl rfl ?_
        refine o_nil ?_
        refine s_ret ?_
        refine s_code_ret ?_
        refine s_blk_ret ?_
        refine s_code_ret ?_
        refine s_inv_ret ?_
        refine s_blk_ret ?_
        refine s_code_ret ?_
        refine s_end ?_
        exact ret_many (.inl rfl) rfl (rl_t rfl (rl_t rfl rl_nil)) rfl (.inl ⟨(by rw [load_yes hyes, hp, Option.bind_some, hr, recs_no hok]; rfl), rfl, hle'⟩)
       ·have k11 := h11; try simp only [decide_eq_true_eq, decide_eq_false_iff_not, Bool.not_eq_true', Bool.not_eq_false', Bool.not_true, Bool.not_false, List.length_map, Decidable.not_not] at k11
        have hx2 : ¬ ((9007199254740991 : Int) < (c1.n : Int)) := of_decide_eq_false h11
        have hcg3 : c1.n ≤ 9007199254740991 := by omega
        have hcg1 : c1.n ≤ great := hcg3
        refine s_skip ?_
        refine s_seq ?_
        refine s_draw rfl ?_
        refine d_q rfl (q_mv (v_sl rfl)) rfl rfl rfl ?_
        refine d_q rfl (q_idx und105 sz102 rfl rfl (by omega) (gm 0 (by first | omega | simp)) rfl) rfl rfl rfl ?_
        refine d_q rfl (q_f fo102_1 rfl) rfl rfl rfl ?_
        refine d_q rfl (q_ld ag100 sz100 rfl (gm 0 (by first | omega | simp)) rfl (v_raw rfl)) rfl rfl rfl ?_
        refine d_q rfl (q_i2i und100 und3 rfl (wrap64 (by omega) (by omega))) rfl rfl rfl ?_
        refine d_q rfl (q_mv (v_sl rfl)) rfl rfl rfl ?_
        refine d_q rfl (q_idx und105 sz102 rfl rfl (by omega) (gm 1 (by first | omega | simp)) rfl) rfl rfl rfl ?_
        refine d_q rfl (q_f fo102_2 rfl) rfl rfl rfl ?_
        refine d_q rfl (q_ld ag9 sz9 rfl (gm 1 (by first | omega | simp)) rfl (v_raw rfl)) rfl rfl rfl ?_
        refine d_q rfl (q_mv (v_sl rfl)) rfl rfl rfl ?_
        refine d_q rfl (q_idx und105 sz102 rfl rfl (by omega) (gm 2 (by first | omega | simp)) rfl) rfl rfl rfl ?_
        refine d_q rfl (q_f fo102_1 rfl) rfl rfl rfl ?_
        refine d_q rfl (q_ld ag100 sz100 rfl (gm 2 (by first | omega | simp)) rfl (v_raw rfl)) rfl rfl rfl ?_
        refine d_q rfl (q_i2i und100 und3 rfl (wrap64 (by omega) (by omega))) rfl rfl rfl ?_
        refine d_q rfl (q_mv (v_sl rfl)) rfl rfl rfl ?_
        refine d_q rfl (q_idx und105 sz102 rfl rfl (by omega) (gm 3 (by first | omega | simp)) rfl) rfl rfl rfl ?_
        refine d_q rfl (q_f fo102_2 rfl) rfl rfl rfl ?_
        refine d_q rfl (q_ld ag9 sz9 rfl (gm 3 (by first | omega | simp)) rfl (v_raw rfl)) rfl rfl rfl ?_
        refine d_q rfl (q_mv (v_sl rfl)) rfl rfl rfl ?_
        refine d_q rfl (q_idx und105 sz102 rfl rfl (by omega) (gm 4 (by first | omega | simp)) rfl) rfl rfl rfl ?_
        refine d_q rfl (q_f fo102_2 rfl) rfl rfl rfl ?_
        refine d_q rfl (q_ld ag9 sz9 rfl (gm 4 (by first | omega | simp)) rfl (v_raw rfl)) rfl rfl rfl ?_
        refine d_q rfl (q_b (cs := [_, _, _, _, _]) bz39 bp39 (bf fo39_0 (e_raw rfl) rfl rfl (Nat.le_of_ble_eq_true rfl) rfl (bf fo39_1 (e_raw rfl) rfl rfl (Nat.le_of_ble_eq_true rfl) rfl (bf fo39_2 (e_raw rfl) rfl rfl (Nat.le_of_ble_eq_true rfl) rfl (bf fo39_3 (e_raw rfl) rfl rfl (Nat.le_of_ble_eq_true rfl) rfl (bf fo39_4 (e_raw rfl) rfl rfl (Nat.le_of_ble_eq_true rfl) rfl bf_nil)))))) rfl rfl rfl ?_
        refine d_s rfl ?_
        refine o_alloc zc39 (fun B3 hB3 => ?_)
        have g1 : B1 ≠ B3 := Mem.fresh_ne hB3 hm
        have g2 : B2 ≠ B3 := Mem.fresh_ne hB3 hb
        have g3 := g1.symm
        have g4 := g2.symm
        have n3 := Mem.none_of_le hle' hB3
        refine o_nil ⟨(by simp [Mem.upd, *]), ?_⟩
        refine d_s rfl ?_
        refine o_storew rfl mmQ mfQ rfl sz39 rfl rfl rfl rfl ?_
        refine o_nil ⟨(by simp [Mem.upd, *]), ?_⟩
        refine d_nil ?_
        refine s_seq ?_
        refine s_seq ?_
        refine s_region ?_
        refine o_q (q_ldmw ag39 sz39 rfl mmQ rfl rfl) rfl rfl rfl ?_
        refine o_callx ((right_own (recO a1 b1 c1 d1 e1) _ B2 (tpV B1 a.s b.n c.n V) ((upd_other g2).trans ((upd_other g2).trans hb)))) goes48 (ac (v_agg rfl) ac_nil) rfl ?_
        rintro r M4 ⟨rfl, hb4, hk4⟩
        have hb4 : M4 B2 = some (.cells (tpV B1 a.s b.n c.n (.sl (acc.map enc) true))) := by rw [hb4, ← hV]; rfl
        have hm4 := hk4 B1 _ f12 ((upd_other g1).trans ((upd_other g1).trans hm))
        have hb5 := hk4 B3 _ g4 (Mem.upd_self _ _ _)
        have hl4 : M.le M4 := fun c0 o h => by
         have e2 : c0 ≠ B2 := fun e => by rw [e, n2] at h; cases h
         exact hk4 c0 o e2 (leU2 hle' hB3 c0 o h)
        refine o_q (q_not rfl) rfl rfl rfl ?_
        refine o_q (q_mv (v_raw rfl)) rfl rfl rfl ?_
        refine o_g (G := true) rfl rfl rfl rfl rfl (fun hG hc => (q_fr fo39_0 rfl)) ?_
        refine o_g (G := true) rfl rfl rfl rfl rfl (fun hG hc => (q_ldm ag3 sz3 (gv_on (gv_and hG hc) rfl) mmQ rfl (v_raw rfl))) ?_
        refine o_g (G := true) rfl rfl rfl rfl rfl (fun hG hc => (q_mv (v_raw rfl))) ?_
        refine o_g (G := true) rfl rfl rfl rfl rfl (fun hG hc => (q_lss (gv_on (gv_and hG hc) rfl) (gv_on (gv_and hG hc) rfl))) ?_
        refine o_q (q_por (c := _) (b := _) rfl rfl rfl) rfl rfl rfl ?_
        refine o_nil ?_
        refine s_cond rfl (fun h12 => ?_) (fun h12 => ?_)
        ·have k12 := h12; try simp only [decide_eq_true_eq, decide_eq_false_iff_not, Bool.not_eq_true', Bool.not_eq_false', Bool.not_true, Bool.not_false, List.length_map, Decidable.not_not] at k12
         have hok : okR c.n lo a1 b1 c1 d1 e1 = false := okR_no fun hh => by
          simp only [Bool.or_eq_true, Bool.not_eq_true', decide_eq_true_eq] at h12
          rcases h12 with h | h
          ·rw [hh.2.2.1] at h; cases h
          ·have h3 : (a1.n : Int) < lo := h
           have h4 := hh.2.2.2
           omega
         refine s_seq ?_
         refine s_region ?_
         refine o_q (q_as (mvQ)) rfl rfl rfl ?_
         refine o_q (q_as (v_raw rfl)) rfl rfl rfl ?_
         refine o_nil ?_
         refine s_ret ?_
         refine s_code_ret ?_
         refine s_blk_ret ?_
         refine s_code_ret ?_
         refine s_inv_ret ?_
         refine s_blk_ret ?_
         refine s_code_ret ?_
         refine s_end ?_
         exact ret_many (.inl rfl) rfl (rl_t rfl (rl_t rfl rl_nil)) rfl (.inl ⟨(by rw [load_yes hyes, hp, Option.bind_some, hr, recs_no hok]; rfl), rfl, hl4⟩)
        ·have k12 := h12; try simp only [decide_eq_true_eq, decide_eq_false_iff_not, Bool.not_eq_true', Bool.not_eq_false', Bool.not_true, Bool.not_false, List.length_map, Decidable.not_not] at k12
         have hrl : right (recO a1 b1 c1 d1 e1) = true ∧ lo ≤ (a1.n : Int) := by
          simp only [Bool.or_eq_false_iff, Bool.not_eq_false', decide_eq_false_iff_not] at h12
          exact ⟨h12.1, by have h3 : ¬ ((a1.n : Int) < lo) := h12.2; omega⟩
         have hok := okR_yes (b := b1) (d := d1) (e := e1) ⟨hae, hcg1, hrl.1, hrl.2⟩
         refine s_skip ?_
         refine s_seq ?_
         refine s_region ?_
         refine o_q (q_fr fo39_0 rfl) rfl rfl rfl ?_
         refine o_q (q_ldm ag3 sz3 rfl mmQ rfl (v_raw rfl)) rfl rfl rfl ?_
         refine o_q (q_add rfl rfl (wrap64 (by omega) (by omega))) rfl rfl rfl ?_
         refine o_q (q_as (v_raw rfl)) rfl rfl rfl ?_
         refine o_nil ?_
         refine s_draw rfl ?_
         refine d_q rfl (q_mv (mvQ)) rfl rfl rfl ?_
         refine d_q rfl (q_mv (mvQ)) rfl rfl rfl ?_
         refine d_q rfl (q_nil rfl) rfl rfl rfl ?_
         refine d_q rfl (q_fr fo87_4 rfl) rfl rfl rfl ?_
         refine d_q rfl (q_ldmw ag39 sz39 rfl mmQ rfl rfl) rfl rfl rfl ?_
         refine d_q rfl (q_bs slt35 (pc (v_agg rfl) pn) rfl (Els.cons rfl rfl Els.nil) (by decide)) rfl rfl rfl ?_
         refine d_s rfl ?_
         refine o_take rfl rfl mmQ rfl ag35 sz35 ?_
         refine o_nil ⟨(by simp [Mem.upd, *]), ?_⟩
         refine d_qs rfl (q_app slt35 rfl rfl rfl rfl elsR (by first | exact elsR | exact Els.cons rfl rfl Els.nil) (by simp; omega)) rfl rfl rfl rfl ?_
         refine d_q rfl (q_nil rfl) rfl rfl rfl ?_
         refine d_q rfl (q_fr fo87_4 rfl) rfl rfl rfl ?_
         refine d_s rfl ?_
         refine o_store_own rfl mmQ rfl sz35 (Nat.le_of_ble_eq_true rfl) ?_
         refine o_nil ⟨(by simp [Mem.upd, *]), ?_⟩
         refine d_nil ?_
         refine s_blk_normal ?_
         refine s_region ?_
         refine o_q (q_mv (v_sl rfl)) rfl rfl rfl ?_
         refine o_q (q_slice und105 sz102 rfl elsIt (ab rfl rfl) ab_none (by first | (show 4 ≤ _; omega) | (show 3 ≤ _; omega) | (show 5 ≤ _; omega)) (by first | exact Nat.le_refl _ | omega | (simp; omega))) rfl rfl rfl ?_
         refine o_q (q_as (v_sl rfl)) rfl rfl rfl ?_
         refine o_nil ?_
         refine s_inv ?_
         exact ⟨k, by omega, _, _, Q, k, (a1.n : Int) + 1, acc ++ [recO a1 b1 c1 d1 e1], .sl ((acc ++ [recO a1 b1 c1 d1 e1]).map enc) true, St.mkT (kp (kp (kp (kp rfl rfl) (congrArg (fun l => AVal.sl (l.drop 5) false) (List.take_length (l := (a1 :: b1 :: c1 :: d1 :: e1 :: Q).map encIt)))) rfl) rfl).symm, (by rw [List.map_append]; exact Mem.upd_self _ _ _), rfl, mmQ, hr.trans (recs_yes hok), by omega, by rw [List.length_append, List.length_singleton]; omega, by omega, leN (leN hl4 n2) n2, rfl⟩
      ·have k10 := h10; try simp only [decide_eq_true_eq, decide_eq_false_iff_not, Bool.not_eq_true', Bool.not_eq_false', Bool.not_true, Bool.not_false, List.length_map, Decidable.not_not] at k10
       have hx2 : (c.n : Int) ≤ (a1.n : Int) := of_decide_eq_true h10
       have hok : okR c.n lo a1 b1 c1 d1 e1 = false := okR_no fun hh => by
        have h3 := hh.1
        omega
       refine d_no rfl rfl rfl rfl h10 rfl ?_
       refine d_no rfl rfl rfl rfl h10 rfl ?_
       refine d_no rfl rfl rfl rfl h10 rfl ?_
       refine d_no rfl rfl rfl rfl h10 rfl ?_
       refine d_no rfl rfl rfl rfl h10 rfl ?_
       refine d_q rfl (q_pick_c (t := true) rfl h10 (v_raw rfl)) rfl rfl rfl ?_
       refine d_nil ?_
       refine s_then rfl rfl ?_
       refine s_seq ?_
       refine s_region ?_
       refine o_q (q_as (mvQ)) rfl rfl rfl ?_
       refine o_q (q_as (v_raw rfl)) rfl rfl rfl ?_
       refine o_nil ?_
       refine s_ret ?_
       refine s_code_ret ?_
       refine s_blk_ret ?_
       refine s_code_ret ?_
       refine s_inv_ret ?_
       refine s_blk_ret ?_
       refine s_code_ret ?_
       refine s_end ?_
       exact ret_many (.inl rfl) rfl (rl_t rfl (rl_t rfl rl_nil)) rfl (.inl ⟨(by rw [load_yes hyes, hp, Option.bind_some, hr, recs_no hok]; rfl), rfl, hle'⟩)
     ·have k9 := h9; try simp only [decide_eq_true_eq, decide_eq_false_iff_not, Bool.not_eq_true', Bool.not_eq_false', Bool.not_true, Bool.not_false, List.length_map, Decidable.not_not] at k9
      have hQl : (Q.map encIt).length = Q.length := List.length_map _
      obtain rfl : Q = [] := List.eq_nil_of_length_eq_zero (by omega)
      refine s_exit ?_
      refine s_code_exit ?_
      refine s_inv_exit ?_
      refine s_blk_here ?_
      refine s_seq ?_
      refine s_region ?_
      refine o_q (q_mv (mvQ)) rfl rfl rfl ?_
      refine o_q (q_as (mvQ)) rfl rfl rfl ?_
      refine o_q (q_as (v_raw rfl)) rfl rfl rfl ?_
      refine o_nil ?_
      refine s_ret ?_
      refine s_end ?_
      exact ret_many (.inl rfl) rfl (rl_t rfl (rl_t rfl rl_nil)) rfl (.inr ⟨⟨a.s, b.n, c.n, kv, acc⟩, (by rw [load_yes hyes, hp, Option.bind_some, hr]; rfl), B2, B1, _, n2, n1, f21, rfl, (by show tpV B1 a.s b.n c.n (nilOwn V) = _; rw [hV]; rfl), hb, hm, hle'⟩)
  ·have k2 := h2; try simp only [decide_eq_true_eq, decide_eq_false_iff_not, Bool.not_eq_true', Bool.not_eq_false', Bool.not_true, Bool.not_false, List.length_map, Decidable.not_not] at k2
   have hx2 : (c.n : Int) < (b.n : Int) := of_decide_eq_true h2
   have hbc : ¬ b.n ≤ c.n := by omega
   refine d_no rfl rfl rfl rfl h2 rfl ?_
   refine d_no rfl rfl rfl rfl h2 rfl ?_
   refine d_no rfl rfl rfl rfl h2 rfl ?_
   refine d_no rfl rfl rfl rfl h2 rfl ?_
   refine d_no rfl rfl rfl rfl h2 rfl ?_
   refine d_q rfl (q_pick_c (t := true) rfl h2 (v_raw rfl)) rfl rfl rfl ?_
   refine d_nil ?_
   refine s_then rfl rfl ?_
   refine s_seq ?_
   refine s_region ?_
   refine o_q (q_as (mvQ)) rfl rfl rfl ?_
   refine o_q (q_as (v_raw rfl)) rfl rfl rfl ?_
   refine o_nil ?_
   refine s_ret ?_
   refine s_code_ret ?_
   refine s_end ?_
   exact ret_many (.inl rfl) rfl (rl_t rfl (rl_t rfl rl_nil)) rfl (.inl ⟨load_no (okH_b hbc), rfl, hl2⟩)
 ·have k1 := h1; try simp only [decide_eq_true_eq, decide_eq_false_iff_not, Bool.not_eq_true', Bool.not_eq_false', Bool.not_true, Bool.not_false, List.length_map, Decidable.not_not] at k1
  have hw : word a.s = false := by simpa using h1
  refine d_no rfl rfl rfl rfl h1 rfl ?_
  refine d_no rfl rfl rfl rfl h1 rfl ?_
  refine d_no rfl rfl rfl rfl h1 rfl ?_
  refine d_no rfl rfl rfl rfl h1 rfl ?_
  refine d_no rfl rfl rfl rfl h1 rfl ?_
  refine d_no rfl rfl rfl rfl h1 rfl ?_
  refine d_no rfl rfl rfl rfl h1 rfl ?_
  refine d_no rfl rfl rfl rfl h1 rfl ?_
  refine d_no rfl rfl rfl rfl h1 rfl ?_
  refine d_q rfl (q_pick_c (t := true) rfl h1 (v_raw rfl)) rfl rfl rfl ?_
  refine d_q rfl (q_mv (v_raw rfl)) rfl rfl rfl ?_
  refine d_no rfl rfl rfl rfl rfl rfl ?_
  refine d_no rfl rfl rfl rfl rfl rfl ?_
  refine d_no rfl rfl rfl rfl rfl rfl ?_
  refine d_no rfl rfl rfl rfl rfl rfl ?_
  refine d_no rfl rfl rfl rfl rfl rfl ?_
  refine d_q rfl (q_pick_c (t := true) rfl rfl (v_raw rfl)) rfl rfl rfl ?_
  refine d_nil ?_
  refine s_then rfl rfl ?_
  refine s_seq ?_
  refine s_region ?_
  refine o_q (q_as (mvQ)) rfl rfl rfl ?_
  refine o_q (q_as (v_raw rfl)) rfl rfl rfl ?_
  refine o_nil ?_
  refine s_ret ?_
  refine s_code_ret ?_
  refine s_end ?_
  exact ret_many (.inl rfl) rfl (rl_t rfl (rl_t rfl rl_nil)) rfl (.inl ⟨load_no (okH_w hw), rfl, hl2⟩)
end C17
