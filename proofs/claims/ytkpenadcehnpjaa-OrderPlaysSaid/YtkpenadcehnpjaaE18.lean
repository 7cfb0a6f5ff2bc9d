import Derived.Test.YtkpenadcehnpjaaC18
import Derived.Test.YtkpenadcehnpjaaProg
/-! Chapter 18: orders: what their functions compute. -/
open Go Go.Proofs Go.Am
set_option linter.unusedVariables false
set_option linter.unusedSimpArgs false
set_option autoImplicit false
namespace C18
theorem ag9 : aggT Try.prog 9 = some false := by kernel_rfl
theorem bz66 : (zeroT Try.prog 66).map (fun z => z.cells.toList.map AVal.raw) = some [.raw (.int .i64 0), .raw (.slice none 0 0), .raw (.slice none 0 0), .raw (.int .i64 0), .raw (.int .i64 0), .raw (.int .i64 0), .raw (.int .i64 0), .raw (.int .i64 0), .raw (.int .i64 0), .raw (.int .i64 0), .raw (.int .i64 0), .raw (.int .i64 0)] := by kernel_rfl
theorem bp66 : (aPlaces Try.prog 66).isSome = true := by kernel_rfl
theorem und27 : Try.prog.underlying 27 = some (.pointer 66) := by kernel_rfl
def tk9 : Nat → Nat → Option Nat := fun _ _ => none
def pl9 : Nat → List PStep
  | 15 => [.q 0, .q 1, .q 2, .q 3, .q 4, .s 5 [3, 2, 1, 0], .q 6, .q 7, .q 8, .s 9 [7]]
  | _ => []
theorem cb9 : Try.f9.body.map (codeB Try.prog Try.f9.ntmps tk9 pl9) = some true := by kernel_rfl
theorem goes9 : goesB Try.prog 9 = true := by kernel_rfl
-- carillon/order.New params ['int', '[]int', '[]string'] results [['t', 6], ['t', 7]] own [] names ['0:self', '1:nodes', '2:log', '3:self', '4:nodes', '5:log', '8:last', '9:_', '10:n', '11:o', '12:_', '13:s', '14:_', '15:n'] calls [30, 31, 32, 33] paths 7

def rise : Int → List Int → Bool
  | _, [] => true
  | a, n :: l => decide (a < n) && decide (n < 7) && rise n l
theorem rise_drop {l : List Int} {a : Int} {i : Nat} (hi : i < l.length) : rise a (l.drop i) = (decide (a < l[i]) && decide (l[i] < 7) && rise l[i] (l.drop (i + 1))) := by
  rw [List.drop_eq_getElem_cons hi]; rfl
theorem rise_facts : ∀ {l : List Int} {a : Int}, rise a l = true → l.Pairwise (· < ·) ∧ ∀ n ∈ l, a < n ∧ n < 7
  | [], a, _ => ⟨List.Pairwise.nil, by simp⟩
  | n :: l, a, h => by
    simp only [rise, Bool.and_eq_true, decide_eq_true_eq] at h
    obtain ⟨h1, h2⟩ := rise_facts h.2
    refine ⟨List.pairwise_cons.2 ⟨fun m hm => (h2 m hm).1, h1⟩, fun m hm => ?_⟩
    rcases List.mem_cons.1 hm with rfl | hm
    · exact h.1
    · have := h2 m hm; omega
theorem rise_len : ∀ {l : List Int} {a : Int}, rise a l = true → -1 ≤ a → l.length ≤ (6 - a).toNat
  | [], a, _, _ => by simp
  | n :: l, a, h, ha => by
    simp only [rise, Bool.and_eq_true, decide_eq_true_eq] at h
    have := rise_len h.2 (by omega)
    simp only [List.length_cons]
    omega
def okNew (self : Int) (nodes : List Int) : Bool := rise (-1) nodes && decide (self ∈ nodes)
def sumW (a : Int) (l : List ByteArray) : Int := l.foldl (fun a s => IntKind.i64.wrap (a + ((s.size : Int) + 4))) a
theorem sumW_succ {a : Int} {l : List ByteArray} {i : Nat} (hi : i < l.length) : sumW a (l.take (i + 1)) = IntKind.i64.wrap (sumW a (l.take i) + ((l[i].size : Int) + 4)) := by
  rw [List.take_succ_eq_append_getElem hi, sumW, List.foldl_append]; rfl
def hasN (nodes : List Int) (n : Int) : List Int := nodes.foldl (fun h v => h.set v.toNat n) [0, 0, 0, 0, 0, 0, 0]
theorem hasN_succ {l : List Int} {n : Int} {i : Nat} (hi : i < l.length) : hasN (l.take (i + 1)) n = (hasN (l.take i) n).set l[i].toNat n := by
  rw [List.take_succ_eq_append_getElem hi, hasN, List.foldl_append]; rfl
theorem foldl_set_len {n : Int} : ∀ {l h : List Int}, (l.foldl (fun h v => h.set v.toNat n) h).length = h.length
  | [], h => rfl
  | a :: l, h => by rw [List.foldl_cons, foldl_set_len, List.length_set]
theorem hasN_len {l : List Int} {n : Int} : (hasN l n).length = 7 := foldl_set_len
def newO (self : Int) (nodes : List Int) (log : List ByteArray) : Od := ⟨self, nodes, log, sumW 0 log, log.length, hasN nodes log.length⟩
def nilp : AVal := .raw (.pointer none)
set_option maxHeartbeats 4000000 in
set_option maxRecDepth 20000 in
theorem snd9 (self : Int) (nodes : List Int) (o1 : Bool) (log : List ByteArray) (o2 : Bool) (M : Mem) (hnl : nodes.length < 2 ^ 60) (hlg : log.length + 2 ≤ 2 ^ 43) (hsz : ∀ s ∈ log, s.size < 2 ^ 61) : SoundCall Try.prog 9 [int self, .sl (nodes.map int) o1, .sl (log.map str) o2] M fun r M' => (okNew self nodes = false ∧ r = .tup [nilp, int 1] ∧ M' = M) ∨ (okNew self nodes = true ∧ ∃ b, M b = none ∧ r = .tup [ptr b, int 0] ∧ M' = M.upd b (.cells (odC (newO self nodes log)))) := by
  refine SoundCall.go tk9 pl9 mixed Try.func9 cb9 rfl (Nat.le_of_ble_eq_true rfl) ?_
  refine s_seq ?_
  refine s_region ?_
  refine o_q (q_as ((by first | exact v_raw rfl | exact v_sptr rfl))) rfl rfl rfl ?_
  refine o_q (q_as (v_raw rfl)) rfl rfl rfl ?_
  refine o_nil ?_
  refine s_seq ?_
  refine s_region ?_
  refine o_q (q_as (v_raw rfl)) rfl rfl rfl ?_
  refine o_nil ?_
  refine s_seq ?_
  refine s_seq ?_
  refine s_region ?_
  refine o_q (q_mv (v_sl rfl)) rfl rfl rfl ?_
  refine o_q (q_len rfl und25 rfl) rfl rfl rfl ?_
  refine o_q (q_mv (v_raw rfl)) rfl rfl rfl ?_
  refine o_nil ?_
  refine s_block ?_
  refine s_loop (fun m S => ∃ T, ∃ i : Nat, ∃ last : Int, S = ⟨setT (setT (setT (setT (setT (setT (setT T 0 (int self)) 1 (.sl (nodes.map int) o1)) 2 (.sl (log.map str) o2)) 8 (int last)) 16 (.sl (nodes.map int) false)) 17 (int nodes.length)) 18 (int (i : Nat)), M⟩ ∧ rise (-1) nodes = rise last (nodes.drop i) ∧ i ≤ nodes.length ∧ m = nodes.length - i) nodes.length ?_ ?_
  · exact ⟨_, 0, -1, St.mkT (kp (kp (kp (kp (kp (kp (kp rfl rfl) rfl) rfl) rfl) rfl) (congrArg (fun n : Nat => AVal.raw (.int .i64 n)) (List.length_map _))) rfl).symm, rfl, by omega, rfl⟩
  rintro m S ⟨T, i, last, rfl, hri, hin, rfl⟩
  refine s_seq ?_
  refine s_region ?_
  refine o_q (q_lss rfl rfl) rfl rfl rfl ?_
  refine o_nil ?_
  refine s_seq ?_
  refine s_cond rfl (fun h1 => ?_) (fun h1 => ?_)
  · have k1 := h1; try simp only [decide_eq_true_eq, decide_eq_false_iff_not, Bool.not_eq_true', Bool.not_eq_false', Bool.not_true, Bool.not_false, List.length_map, Decidable.not_not] at k1
    refine s_skip ?_
    refine s_seq ?_
    refine s_block ?_
    refine s_seq ?_
    refine s_region ?_
    refine o_q (q_idx und25 sz3 rfl rfl (by omega) (gm i (by first | omega | simp)) rfl) rfl rfl rfl ?_
    refine o_q (q_ld ag3 sz3 rfl (gm i (by first | omega | simp)) rfl (v_raw rfl)) rfl rfl rfl ?_
    refine o_q (q_as (v_raw rfl)) rfl rfl rfl ?_
    refine o_nil ?_
    refine s_seq ?_
    refine s_seq ?_
    refine s_region ?_
    refine o_q (q_mv (v_raw rfl)) rfl rfl rfl ?_
    refine o_q (q_mv (v_raw rfl)) rfl rfl rfl ?_
    refine o_q (q_leq rfl rfl) rfl rfl rfl ?_
    refine o_q (q_mv (v_raw rfl)) rfl rfl rfl ?_
    refine o_cases (want := false) (j := 3) rfl rfl (fun h2 => ?_) (fun h2 => ?_)
    · have k2 := h2; try simp only [decide_eq_true_eq, decide_eq_false_iff_not, Bool.not_eq_true', Bool.not_eq_false', Bool.not_true, Bool.not_false, List.length_map, Decidable.not_not] at k2
      refine o_yes rfl rfl rfl h2 ?_
      refine o_q (q_mv (v_raw rfl)) rfl rfl rfl ?_
      refine o_yes rfl rfl rfl h2 ?_
      refine o_q (q_geq rfl rfl) rfl rfl rfl ?_
      refine o_q (q_pick_c (t := false) rfl h2 (v_raw rfl)) rfl rfl rfl ?_
      refine o_nil ?_
      refine s_cond rfl (fun h3 => ?_) (fun h3 => ?_)
      · have k3 := h3; try simp only [decide_eq_true_eq, decide_eq_false_iff_not, Bool.not_eq_true', Bool.not_eq_false', Bool.not_true, Bool.not_false, List.length_map, Decidable.not_not] at k3
        refine s_seq ?_
        refine s_region ?_
        refine o_q (q_as ((by first | exact v_raw rfl | exact v_sptr rfl))) rfl rfl rfl ?_
        refine o_q (q_as (v_raw rfl)) rfl rfl rfl ?_
        refine o_nil ?_
        refine s_ret ?_
        refine s_code_ret ?_
        refine s_blk_ret ?_
        refine s_code_ret ?_
        refine s_inv_ret ?_
        refine s_blk_ret ?_
        refine s_code_ret ?_
        refine s_end ?_
        exact ret_many (.inl rfl) rfl (rl_t rfl (rl_t rfl rl_nil)) rfl (.inl ⟨by unfold okNew; rw [hri, rise_drop (by omega)]; simp; intros; omega, rfl, rfl⟩)
      · have k3 := h3; try simp only [decide_eq_true_eq, decide_eq_false_iff_not, Bool.not_eq_true', Bool.not_eq_false', Bool.not_true, Bool.not_false, List.length_map, Decidable.not_not] at k3
        refine s_skip ?_
        refine s_region ?_
        refine o_q (q_mv (v_raw rfl)) rfl rfl rfl ?_
        refine o_q (q_as (v_raw rfl)) rfl rfl rfl ?_
        refine o_nil ?_
        refine s_blk_normal ?_
        refine s_region ?_
        refine o_q (q_add rfl rfl (wrap64 (by omega) (by omega))) rfl rfl rfl ?_
        refine o_q (q_mv (v_raw rfl)) rfl rfl rfl ?_
        refine o_nil ?_
        refine s_inv ?_
        exact ⟨nodes.length - (i + 1), by omega, _, i + 1, nodes[i], St.mkT (kp (kp (kp (kp (kp (kp (kp rfl rfl) rfl) rfl) rfl) rfl) rfl) rfl).symm, by rw [hri, rise_drop (by omega), decide_eq_true (show last < nodes[i] by omega), decide_eq_true (show nodes[i] < 7 by omega)]; rfl, by omega, rfl⟩
    · have k2 := h2; try simp only [decide_eq_true_eq, decide_eq_false_iff_not, Bool.not_eq_true', Bool.not_eq_false', Bool.not_true, Bool.not_false, List.length_map, Decidable.not_not] at k2
      refine o_no rfl rfl rfl rfl h2 ?_
      refine o_no rfl rfl rfl rfl h2 ?_
      refine o_q (q_pick_c (t := true) rfl h2 (v_raw rfl)) rfl rfl rfl ?_
      refine o_nil ?_
      refine s_then rfl rfl ?_
      refine s_seq ?_
      refine s_region ?_
      refine o_q (q_as ((by first | exact v_raw rfl | exact v_sptr rfl))) rfl rfl rfl ?_
      refine o_q (q_as (v_raw rfl)) rfl rfl rfl ?_
      refine o_nil ?_
      refine s_ret ?_
      refine s_code_ret ?_
      refine s_blk_ret ?_
      refine s_code_ret ?_
      refine s_inv_ret ?_
      refine s_blk_ret ?_
      refine s_code_ret ?_
      refine s_end ?_
      exact ret_many (.inl rfl) rfl (rl_t rfl (rl_t rfl rl_nil)) rfl (.inl ⟨by unfold okNew; rw [hri, rise_drop (by omega)]; simp; intros; omega, rfl, rfl⟩)
  · have k1 := h1; try simp only [decide_eq_true_eq, decide_eq_false_iff_not, Bool.not_eq_true', Bool.not_eq_false', Bool.not_true, Bool.not_false, List.length_map, Decidable.not_not] at k1
    have hro : rise (-1) nodes = true := by rw [hri, List.drop_of_length_le (by omega)]; rfl
    have hrf := rise_facts hro
    refine s_exit ?_
    refine s_code_exit ?_
    refine s_inv_exit ?_
    refine s_blk_here ?_
    refine s_seq ?_
    refine s_seq ?_
    refine s_region ?_
    refine o_q (q_mv (v_sl rfl)) rfl rfl rfl ?_
    refine o_q (q_mv (v_raw rfl)) rfl rfl rfl ?_
    refine o_call ((snd30 nodes _ self _ (by omega))) goes30 (ac (v_sl rfl) (ac (v_raw rfl) ac_nil)) rfl ?_
    refine o_q (q_not rfl) rfl rfl rfl ?_
    refine o_nil ?_
    refine s_cond rfl (fun h4 => ?_) (fun h4 => ?_)
    · have k4 := h4; try simp only [decide_eq_true_eq, decide_eq_false_iff_not, Bool.not_eq_true', Bool.not_eq_false', Bool.not_true, Bool.not_false, List.length_map, Decidable.not_not] at k4
      refine s_seq ?_
      refine s_region ?_
      refine o_q (q_as ((by first | exact v_raw rfl | exact v_sptr rfl))) rfl rfl rfl ?_
      refine o_q (q_as (v_raw rfl)) rfl rfl rfl ?_
      refine o_nil ?_
      refine s_ret ?_
      refine s_code_ret ?_
      refine s_end ?_
      exact ret_many (.inl rfl) rfl (rl_t rfl (rl_t rfl rl_nil)) rfl (.inl ⟨by unfold okNew; simp_all, rfl, rfl⟩)
    · have k4 := h4; try simp only [decide_eq_true_eq, decide_eq_false_iff_not, Bool.not_eq_true', Bool.not_eq_false', Bool.not_true, Bool.not_false, List.length_map, Decidable.not_not] at k4
      refine s_skip ?_
      refine s_seq ?_
      refine s_regf 7 39 2 rfl ?_
      refine o_q (q_mv (v_raw rfl)) rfl rfl rfl ?_
      refine o_q (q_mv (v_sl rfl)) rfl rfl rfl ?_
      refine o_call ((snd31 nodes _ _ (by have := rise_len hro (by omega); omega))) goes31 (ac (v_sl rfl) ac_nil) rfl ?_
      refine o_q (q_mv (v_sl rfl)) rfl rfl rfl ?_
      refine o_call ((snd32 log _ _ (by omega))) goes32 (ac (v_sl rfl) ac_nil) rfl ?_
      refine o_q (q_mv (v_sl rfl)) rfl rfl rfl ?_
      refine o_q (q_len rfl und22 rfl) rfl rfl rfl ?_
      refine o_nil ?_
      refine f_bb rfl (by decide) (q_b (cs := [_, _, _, .raw (.int .i64 0), _, .raw (.int .i64 0), .raw (.int .i64 0), .raw (.int .i64 0), .raw (.int .i64 0), .raw (.int .i64 0), .raw (.int .i64 0), .raw (.int .i64 0)]) bz66 bp66 (bf fo66_0 (e_raw rfl) rfl rfl (Nat.le_of_ble_eq_true rfl) rfl (bf fo66_1 (e_sl rfl) rfl rfl (Nat.le_of_ble_eq_true rfl) rfl (bf fo66_2 (e_sl rfl) rfl rfl (Nat.le_of_ble_eq_true rfl) rfl (bf fo66_4 (e_raw rfl) rfl rfl (Nat.le_of_ble_eq_true rfl) rfl bf_nil))))) (fun v n c => ⟨_, (q_b (cs := [_, _, _, .raw (.int .i64 0), _, .raw (.int .i64 0), .raw (.int .i64 0), .raw (.int .i64 0), .raw (.int .i64 0), .raw (.int .i64 0), .raw (.int .i64 0), .raw (.int .i64 0)]) bz66 bp66 (bf fo66_0 (e_raw rfl) rfl rfl (Nat.le_of_ble_eq_true rfl) rfl (bf fo66_1 (e_sl rfl) rfl rfl (Nat.le_of_ble_eq_true rfl) rfl (bf fo66_2 (e_raw rfl) rfl rfl (Nat.le_of_ble_eq_true rfl) rfl (bf fo66_4 (e_raw rfl) rfl rfl (Nat.le_of_ble_eq_true rfl) rfl bf_nil))))), rfl⟩) rfl (Nat.le_of_ble_eq_true rfl) rfl (fun B1 hB1 => ?_)
      refine o_q (q_as ((by first | exact v_raw rfl | exact v_sptr rfl))) rfl rfl rfl ?_
      refine o_nil ?_
      refine s_seq ?_
      refine s_seq ?_
      refine s_region ?_
      refine o_q (q_mv (v_sl rfl)) rfl rfl rfl ?_
      refine o_q (q_len rfl und22 rfl) rfl rfl rfl ?_
      refine o_q (q_mv (v_raw rfl)) rfl rfl rfl ?_
      refine o_nil ?_
      refine s_block ?_
      refine s_loop (fun m S => ∃ T, ∃ i : Nat, S = ⟨setT (setT (setT (setT (setT (setT (setT T 0 (int self)) 1 (.sl (nodes.map int) o1)) 2 (.sl (log.map str) o2)) 11 (ptr B1)) 44 (.sl (log.map str) false)) 45 (int log.length)) 46 (int (i : Nat)), M.upd B1 (.cells (odC ⟨self, nodes, log, sumW 0 (log.take i), log.length, [0, 0, 0, 0, 0, 0, 0]⟩))⟩ ∧ i ≤ log.length ∧ m = log.length - i) log.length ?_ ?_
      · exact ⟨_, 0, (by simp only [List.length_map]; exact St.mkT (kp (kp (kp (kp (kp (kp (kp rfl rfl) rfl) rfl) rfl) rfl) rfl) rfl).symm), by omega, rfl⟩
      rintro m S ⟨T, i, rfl, hil, rfl⟩
      refine s_seq ?_
      refine s_region ?_
      refine o_q (q_lss rfl rfl) rfl rfl rfl ?_
      refine o_nil ?_
      refine s_seq ?_
      refine s_cond rfl (fun h5 => ?_) (fun h5 => ?_)
      · have k5 := h5; try simp only [decide_eq_true_eq, decide_eq_false_iff_not, Bool.not_eq_true', Bool.not_eq_false', Bool.not_true, Bool.not_false, List.length_map, Decidable.not_not] at k5
        have hls := hsz log[i] (List.getElem_mem _)
        refine s_skip ?_
        refine s_seq ?_
        refine s_block ?_
        refine s_seq ?_
        refine s_region ?_
        refine o_q (q_idx und22 sz9 rfl rfl (by omega) (gm i (by first | omega | simp)) rfl) rfl rfl rfl ?_
        refine o_q (q_ld ag9 sz9 rfl (gm i (by first | omega | simp)) rfl (v_raw rfl)) rfl rfl rfl ?_
        refine o_q (q_as (v_raw rfl)) rfl rfl rfl ?_
        refine o_nil ?_
        refine s_draw rfl ?_
        refine d_q rfl (q_mv ((by first | exact v_raw rfl | exact v_sptr rfl))) rfl rfl rfl ?_
        refine d_q rfl (q_nil rfl) rfl rfl rfl ?_
        refine d_q rfl (q_fr fo66_3 rfl) rfl rfl rfl ?_
        refine d_q rfl (q_ldm ag3 sz3 rfl (by repeat first | exact Mem.upd_self _ _ _ | assumption | refine Mem.upd_ne (by assumption) ?_) rfl (v_raw rfl)) rfl rfl rfl ?_
        refine d_q rfl (q_mv (v_raw rfl)) rfl rfl rfl ?_
        refine d_s rfl ?_
        refine o_call ((snd33 log[i] _ (by omega))) goes33 (ac (v_raw rfl) ac_nil) rfl ?_
        refine o_nil ⟨(by simp [Mem.upd, *]), ?_⟩
        refine d_q rfl (q_addw rfl rfl) rfl rfl rfl ?_
        refine d_q rfl (q_nil rfl) rfl rfl rfl ?_
        refine d_q rfl (q_fr fo66_3 rfl) rfl rfl rfl ?_
        refine d_s rfl ?_
        refine o_store rfl (by repeat first | exact Mem.upd_self _ _ _ | assumption | refine Mem.upd_ne (by assumption) ?_) (by first | exact e_raw rfl | exact e_agg rfl | exact e_sl rfl | rfl) rfl sz3 rfl (Nat.le_of_ble_eq_true rfl) rfl rfl ?_
        refine o_nil ⟨(by simp [Mem.upd, *]), ?_⟩
        refine d_nil ?_
        refine s_blk_normal ?_
        refine s_region ?_
        refine o_q (q_add rfl rfl (wrap64 (by omega) (by omega))) rfl rfl rfl ?_
        refine o_q (q_mv (v_raw rfl)) rfl rfl rfl ?_
        refine o_nil ?_
        refine s_inv ?_
        exact ⟨log.length - (i + 1), by omega, _, i + 1, (by rw [Mem.upd_upd, sumW_succ (by omega)]; exact St.mkT (kp (kp (kp (kp (kp (kp (kp rfl rfl) rfl) rfl) rfl) rfl) rfl) rfl).symm), by omega, rfl⟩
      · have k5 := h5; try simp only [decide_eq_true_eq, decide_eq_false_iff_not, Bool.not_eq_true', Bool.not_eq_false', Bool.not_true, Bool.not_false, List.length_map, Decidable.not_not] at k5
        refine s_exit ?_
        refine s_code_exit ?_
        refine s_inv_exit ?_
        refine s_blk_here ?_
        refine s_seq ?_
        refine s_seq ?_
        refine s_region ?_
        refine o_q (q_mv (v_sl rfl)) rfl rfl rfl ?_
        refine o_q (q_len rfl und25 rfl) rfl rfl rfl ?_
        refine o_q (q_mv (v_raw rfl)) rfl rfl rfl ?_
        refine o_nil ?_
        refine s_block ?_
        refine s_loop (fun m S => ∃ T, ∃ i : Nat, S = ⟨setT (setT (setT (setT (setT (setT (setT T 0 (int self)) 1 (.sl (nodes.map int) o1)) 2 (.sl (log.map str) o2)) 11 (ptr B1)) 60 (.sl (nodes.map int) false)) 61 (int nodes.length)) 62 (int (i : Nat)), M.upd B1 (.cells (odC ⟨self, nodes, log, sumW 0 log, log.length, hasN (nodes.take i) log.length⟩))⟩ ∧ i ≤ nodes.length ∧ m = nodes.length - i) nodes.length ?_ ?_
        · exact ⟨_, 0, (by have hie : i = log.length := (by omega); rw [hie, List.take_length]; exact St.mkT (kp (kp (kp (kp (kp (kp (kp rfl rfl) rfl) rfl) rfl) rfl) (congrArg (fun n : Nat => AVal.raw (.int .i64 n)) (List.length_map _))) rfl).symm), by omega, rfl⟩
        rintro m S ⟨T, i, rfl, hil, rfl⟩
        refine s_seq ?_
        refine s_region ?_
        refine o_q (q_lss rfl rfl) rfl rfl rfl ?_
        refine o_nil ?_
        refine s_seq ?_
        refine s_cond rfl (fun h6 => ?_) (fun h6 => ?_)
        · have k6 := h6; try simp only [decide_eq_true_eq, decide_eq_false_iff_not, Bool.not_eq_true', Bool.not_eq_false', Bool.not_true, Bool.not_false, List.length_map, Decidable.not_not] at k6
          have hni := hrf.2 nodes[i] (List.getElem_mem _)
          have hhl : (hasN (nodes.take i) log.length).length = 7 := hasN_len
          have hpl : (0 + 5 + nodes[i].toNat * 1) + 1 ≤ (odC ⟨self, nodes, log, sumW 0 log, log.length, hasN (nodes.take i) log.length⟩).length := by simp [odC, hhl]; omega
          refine s_skip ?_
          refine s_seq ?_
          refine s_block ?_
          refine s_seq ?_
          refine s_region ?_
          refine o_q (q_idx und25 sz3 rfl rfl (by omega) (gm i (by first | omega | simp)) rfl) rfl rfl rfl ?_
          refine o_q (q_ld ag3 sz3 rfl (gm i (by first | omega | simp)) rfl (v_raw rfl)) rfl rfl rfl ?_
          refine o_q (q_as (v_raw rfl)) rfl rfl rfl ?_
          refine o_nil ?_
          refine s_region ?_
          refine o_q (q_mv ((by first | exact v_raw rfl | exact v_sptr rfl))) rfl rfl rfl ?_
          refine o_q (q_mv (v_raw rfl)) rfl rfl rfl ?_
          refine o_q (q_mv (v_sl rfl)) rfl rfl rfl ?_
          refine o_q (q_len rfl und22 rfl) rfl rfl rfl ?_
          refine o_q (q_nil rfl) rfl rfl rfl ?_
          refine o_q (q_fr fo66_5 rfl) rfl rfl rfl ?_
          refine o_q (q_idxa und64 sz3 rfl rfl (by omega) (by omega)) rfl rfl rfl ?_
          refine o_store rfl (by repeat first | exact Mem.upd_self _ _ _ | assumption | refine Mem.upd_ne (by assumption) ?_) (by first | exact e_raw rfl | exact e_agg rfl | exact e_sl rfl | rfl) rfl sz3 rfl hpl rfl (od_set (p := [int self, .sl (nodes.map int) false, .sl (log.map str) true, int (sumW 0 log), int log.length]) (has := hasN (nodes.take i) log.length) (n := nodes[i].toNat) rfl (by omega) (by omega)) ?_
          refine o_nil ?_
          refine s_blk_normal ?_
          refine s_region ?_
          refine o_q (q_add rfl rfl (wrap64 (by omega) (by omega))) rfl rfl rfl ?_
          refine o_q (q_mv (v_raw rfl)) rfl rfl rfl ?_
          refine o_nil ?_
          refine s_inv ?_
          exact ⟨nodes.length - (i + 1), by omega, _, i + 1, (by rw [Mem.upd_upd, hasN_succ (by omega)]; simp only [List.length_map]; exact St.mkT (kp (kp (kp (kp (kp (kp (kp rfl rfl) rfl) rfl) rfl) rfl) rfl) rfl).symm), by omega, rfl⟩
        · have k6 := h6; try simp only [decide_eq_true_eq, decide_eq_false_iff_not, Bool.not_eq_true', Bool.not_eq_false', Bool.not_true, Bool.not_false, List.length_map, Decidable.not_not] at k6
          refine s_exit ?_
          refine s_code_exit ?_
          refine s_inv_exit ?_
          refine s_blk_here ?_
          refine s_seq ?_
          refine s_region ?_
          refine o_q (q_mv ((by first | exact v_raw rfl | exact v_sptr rfl))) rfl rfl rfl ?_
          refine o_q (q_as ((by first | exact v_raw rfl | exact v_sptr rfl))) rfl rfl rfl ?_
          refine o_q (q_as (v_raw rfl)) rfl rfl rfl ?_
          refine o_nil ?_
          refine s_ret ?_
          refine s_end ?_
          exact ret_many (.inl rfl) rfl (rl_t rfl (rl_t rfl rl_nil)) rfl (.inr ⟨by unfold okNew; simp [hro, k4], B1, hB1, rfl, by have hie : i = nodes.length := (by omega); rw [hie, List.take_length]; rfl⟩)

def tk8 : Nat → Nat → Option Nat := fun _ _ => none
def pl8 : Nat → List PStep := fun _ => []
theorem cb8 : Try.f8.body.map (codeB Try.prog Try.f8.ntmps tk8 pl8) = some true := by kernel_rfl
theorem goes8 : goesB Try.prog 8 = true := by kernel_rfl
-- carillon/carillonlaw18.pick params ['int', 'int'] results [['t', 4]] own [] names ['0:c', '1:n', '2:c', '3:n'] calls [] paths 2

def pick (c n : Int) : Int := if c < 0 then (-(c + 1)) % n else c % n
theorem pick_lt {c n : Int} (hn : 0 < n) : 0 ≤ pick c n ∧ pick c n < n := by
  unfold pick
  split
  · exact ⟨Int.emod_nonneg _ (by omega), Int.emod_lt_of_pos _ hn⟩
  · exact ⟨Int.emod_nonneg _ (by omega), Int.emod_lt_of_pos _ hn⟩
theorem pickN (c : Int) (k : Nat) (hk : 0 < k) : ∃ n : Nat, pick c k = n ∧ n < k := by
  have h := pick_lt (c := c) (n := k) (by omega)
  exact ⟨(pick c k).toNat, by omega, by omega⟩
set_option maxHeartbeats 4000000 in
set_option maxRecDepth 20000 in
theorem snd8 (c n : Int) (M : Mem) (hn : 0 < n) (hn2 : n < 2 ^ 62) (hc : -2 ^ 63 ≤ c ∧ c < 2 ^ 63) : SoundCall Try.prog 8 [int c, int n] M fun r M' => r = int (pick c n) ∧ M' = M := by
  refine SoundCall.go tk8 pl8 mixed Try.func8 cb8 rfl (Nat.le_of_ble_eq_true rfl) ?_
  refine s_seq ?_
  refine s_region ?_
  refine o_q (q_as (v_raw rfl)) rfl rfl rfl ?_
  refine o_nil ?_
  refine s_seq ?_
  refine s_seq ?_
  refine s_region ?_
  refine o_q (q_mv (v_raw rfl)) rfl rfl rfl ?_
  refine o_q (q_lss rfl rfl) rfl rfl rfl ?_
  refine o_nil ?_
  refine s_cond rfl (fun h1 => ?_) (fun h1 => ?_)
  · have k1 := h1; try simp only [decide_eq_true_eq, decide_eq_false_iff_not, Bool.not_eq_true', Bool.not_eq_false', Bool.not_true, Bool.not_false, List.length_map, Decidable.not_not] at k1
    refine s_region ?_
    refine o_q (q_mv (v_raw rfl)) rfl rfl rfl ?_
    refine o_q (q_add rfl rfl (wrap64 (by omega) (by omega))) rfl rfl rfl ?_
    refine o_q (q_neg rfl (wrap64 (by omega) (by omega))) rfl rfl rfl ?_
    refine o_q (q_as (v_raw rfl)) rfl rfl rfl ?_
    refine o_nil ?_
    refine s_seq ?_
    refine s_region ?_
    refine o_q (q_mv (v_raw rfl)) rfl rfl rfl ?_
    refine o_q (q_mv (v_raw rfl)) rfl rfl rfl ?_
    refine o_q (q_rem rfl rfl (by omega)) rfl rfl rfl ?_
    refine o_q (q_as (v_raw rfl)) rfl rfl rfl ?_
    refine o_nil ?_
    refine s_ret ?_
    refine s_end ?_
    unfold pick
    rw [if_pos (by omega)]
    exact ⟨congrArg int (Int.tmod_eq_emod_of_nonneg (by omega)), rfl⟩
  · have k1 := h1; try simp only [decide_eq_true_eq, decide_eq_false_iff_not, Bool.not_eq_true', Bool.not_eq_false', Bool.not_true, Bool.not_false, List.length_map, Decidable.not_not] at k1
    refine s_skip ?_
    refine s_seq ?_
    refine s_region ?_
    refine o_q (q_mv (v_raw rfl)) rfl rfl rfl ?_
    refine o_q (q_mv (v_raw rfl)) rfl rfl rfl ?_
    refine o_q (q_rem rfl rfl (by omega)) rfl rfl rfl ?_
    refine o_q (q_as (v_raw rfl)) rfl rfl rfl ?_
    refine o_nil ?_
    refine s_ret ?_
    refine s_end ?_
    unfold pick
    rw [if_neg (by omega)]
    exact ⟨congrArg int (Int.tmod_eq_emod_of_nonneg (by omega)), rfl⟩

def tk26 : Nat → Nat → Option Nat := fun _ _ => none
def pl26 : Nat → List PStep
  | 6 => [.q 0, .q 1, .q 2, .q 3, .q 4, .q 5, .q 6, .q 7, .q 8]
  | _ => []
theorem cb26 : Try.f26.body.map (codeB Try.prog Try.f26.ntmps tk26 pl26) = some true := by kernel_rfl
theorem goes26 : goesB Try.prog 26 = true := by kernel_rfl
-- carillon/carillonlaw18.texts params ['[]string', '[]string'] results [['t', 4]] own [] names ['0:a', '1:b', '2:a', '3:b', '5:i'] calls [] paths 4
set_option maxHeartbeats 4000000 in
set_option maxRecDepth 20000 in
theorem snd26 (a : List ByteArray) (o1 : Bool) (b : List ByteArray) (o2 : Bool) (M : Mem) (hla : a.length < 2 ^ 60) : SoundCall Try.prog 26 [.sl (a.map str) o1, .sl (b.map str) o2] M fun r M' => r = bool (decide (a = b)) ∧ M' = M := by
  refine SoundCall.go tk26 pl26 mixed Try.func26 cb26 rfl (Nat.le_of_ble_eq_true rfl) ?_
  refine s_seq ?_
  refine s_region ?_
  refine o_q (q_as (v_raw rfl)) rfl rfl rfl ?_
  refine o_nil ?_
  refine s_seq ?_
  refine s_seq ?_
  refine s_region ?_
  refine o_q (q_mv (v_sl rfl)) rfl rfl rfl ?_
  refine o_q (q_len rfl und22 rfl) rfl rfl rfl ?_
  refine o_q (q_mv (v_sl rfl)) rfl rfl rfl ?_
  refine o_q (q_len rfl und22 rfl) rfl rfl rfl ?_
  refine o_q (q_neq rfl rfl) rfl rfl rfl ?_
  refine o_nil ?_
  refine s_cond rfl (fun h1 => ?_) (fun h1 => ?_)
  · have k1 := h1; try simp only [decide_eq_true_eq, decide_eq_false_iff_not, Bool.not_eq_true', Bool.not_eq_false', Bool.not_true, Bool.not_false, List.length_map, Decidable.not_not] at k1
    refine s_seq ?_
    refine s_region ?_
    refine o_q (q_as (v_raw rfl)) rfl rfl rfl ?_
    refine o_nil ?_
    refine s_ret ?_
    refine s_code_ret ?_
    refine s_end ?_
    exact ⟨congrArg bool (decide_eq_false fun e => by subst e; exact k1 rfl).symm, rfl⟩
  · have k1 := h1; try simp only [decide_eq_true_eq, decide_eq_false_iff_not, Bool.not_eq_true', Bool.not_eq_false', Bool.not_true, Bool.not_false, List.length_map, Decidable.not_not] at k1
    have hle : a.length = b.length := by omega
    refine s_skip ?_
    refine s_seq ?_
    refine s_seq ?_
    refine s_region ?_
    refine o_q (q_as (v_raw rfl)) rfl rfl rfl ?_
    refine o_nil ?_
    refine s_block ?_
    refine s_loop (fun m S => ∃ T, ∃ i : Nat, S = ⟨setT (setT (setT T 0 (.sl (a.map str) o1)) 1 (.sl (b.map str) o2)) 5 (int (i : Nat)), M⟩ ∧ a.take i = b.take i ∧ i ≤ a.length ∧ m = a.length - i) a.length ?_ ?_
    · exact ⟨_, 0, St.mkT (kp (kp (kp rfl rfl) rfl) rfl).symm, rfl, by omega, rfl⟩
    rintro m S ⟨T, i, rfl, hab, hin, rfl⟩
    refine s_seq ?_
    refine s_seq ?_
    refine s_region ?_
    refine o_q (q_mv (v_raw rfl)) rfl rfl rfl ?_
    refine o_q (q_mv (v_sl rfl)) rfl rfl rfl ?_
    refine o_q (q_len rfl und22 rfl) rfl rfl rfl ?_
    refine o_q (q_lss rfl rfl) rfl rfl rfl ?_
    refine o_nil ?_
    refine s_cond rfl (fun h2 => ?_) (fun h2 => ?_)
    · have k2 := h2; try simp only [decide_eq_true_eq, decide_eq_false_iff_not, Bool.not_eq_true', Bool.not_eq_false', Bool.not_true, Bool.not_false, List.length_map, Decidable.not_not] at k2
      refine s_skip ?_
      refine s_seq ?_
      refine s_block ?_
      refine s_seq ?_
      refine s_draw rfl ?_
      refine d_q rfl (q_mv (v_sl rfl)) rfl rfl rfl ?_
      refine d_q rfl (q_mv (v_raw rfl)) rfl rfl rfl ?_
      refine d_q rfl (q_idx und22 sz9 rfl rfl (by omega) (gm i (by first | omega | simp)) rfl) rfl rfl rfl ?_
      refine d_q rfl (q_ld ag9 sz9 rfl (gm i (by first | omega | simp)) rfl (v_raw rfl)) rfl rfl rfl ?_
      refine d_q rfl (q_mv (v_sl rfl)) rfl rfl rfl ?_
      refine d_q rfl (q_mv (v_raw rfl)) rfl rfl rfl ?_
      refine d_q rfl (q_idx und22 sz9 rfl rfl (by omega) (gm i (by first | omega | simp)) rfl) rfl rfl rfl ?_
      refine d_q rfl (q_ld ag9 sz9 rfl (gm i (by first | omega | simp)) rfl (v_raw rfl)) rfl rfl rfl ?_
      refine d_q rfl (q_sneq rfl rfl) rfl rfl rfl ?_
      refine d_nil ?_
      refine s_cond rfl (fun h3 => ?_) (fun h3 => ?_)
      · have k3 := h3; try simp only [decide_eq_true_eq, decide_eq_false_iff_not, Bool.not_eq_true', Bool.not_eq_false', Bool.not_true, Bool.not_false, List.length_map, Decidable.not_not] at k3
        have k3 : a[i] ≠ b[i] := by simpa using h3
        refine s_seq ?_
        refine s_region ?_
        refine o_q (q_as (v_raw rfl)) rfl rfl rfl ?_
        refine o_nil ?_
        refine s_ret ?_
        refine s_blk_ret ?_
        refine s_code_ret ?_
        refine s_inv_ret ?_
        refine s_blk_ret ?_
        refine s_code_ret ?_
        refine s_end ?_
        exact ⟨congrArg bool (decide_eq_false fun e => by subst e; exact k3 rfl).symm, rfl⟩
      · have k3 := h3; try simp only [decide_eq_true_eq, decide_eq_false_iff_not, Bool.not_eq_true', Bool.not_eq_false', Bool.not_true, Bool.not_false, List.length_map, Decidable.not_not] at k3
        have k3 : a[i] = b[i] := by simpa using h3
        refine s_skip ?_
        refine s_blk_normal ?_
        refine s_region ?_
        refine o_q (q_mv (v_raw rfl)) rfl rfl rfl ?_
        refine o_q (q_add rfl rfl (wrap64 (by omega) (by omega))) rfl rfl rfl ?_
        refine o_q (q_as (v_raw rfl)) rfl rfl rfl ?_
        refine o_nil ?_
        refine s_inv ?_
        exact ⟨a.length - (i + 1), by omega, _, i + 1, St.mkT (kp (kp (kp rfl rfl) rfl) rfl).symm, by rw [List.take_succ_eq_append_getElem (by omega), List.take_succ_eq_append_getElem (by omega), hab, k3], by omega, rfl⟩
    · have k2 := h2; try simp only [decide_eq_true_eq, decide_eq_false_iff_not, Bool.not_eq_true', Bool.not_eq_false', Bool.not_true, Bool.not_false, List.length_map, Decidable.not_not] at k2
      refine s_exit ?_
      refine s_code_exit ?_
      refine s_inv_exit ?_
      refine s_blk_here ?_
      refine s_seq ?_
      refine s_region ?_
      refine o_q (q_as (v_raw rfl)) rfl rfl rfl ?_
      refine o_nil ?_
      refine s_ret ?_
      refine s_end ?_
      exact ⟨congrArg bool (decide_eq_true (by rw [← List.take_of_length_le (l := a) (i := i) (by omega), hab, List.take_of_length_le (by omega)])).symm, rfl⟩

def tk7 : Nat → Nat → Option Nat := fun _ _ => none
def pl7 : Nat → List PStep := fun _ => []
theorem cb7 : Try.f7.body.map (codeB Try.prog Try.f7.ntmps tk7 pl7) = some true := by kernel_rfl
theorem goes7 : goesB Try.prog 7 = true := by kernel_rfl
-- carillon/carillonlaw18.examples params [] results [['t', 0]] own [] names ['1:o', '2:e', '3:p', '4:_', '5:_', '6:f', '7:at', '8:g', '9:sure', '10:n', '11:l', '12:a', '13:b', '14:_', '15:h'] calls [9, 10, 11, 12, 13, 14, 15, 16, 17, 19] paths 1

/-- What an order is like. -/
structure OK (o : Od) : Prop where
  rise : rise (-1) o.nodes = true
  mem : o.self ∈ o.nodes
  has : o.has.length = 7
  hvb : ∀ v ∈ o.nodes, 0 ≤ hv o v ∧ hv o v ≤ o.log.length
  sure0 : 0 ≤ o.sure
  sure1 : o.sure ≤ o.log.length
theorem OK.h7 {o : Od} (h : OK o) : o.nodes.length ≤ 7 := by have := rise_len h.rise (by omega); omega
theorem OK.h0 {o : Od} (h : OK o) : 0 < o.nodes.length := List.length_pos_of_mem h.mem
theorem OK.hn {o : Od} (h : OK o) : o.nodes ≠ [] := List.ne_nil_of_mem h.mem
theorem OK.hnr {o : Od} (h : OK o) : ∀ n ∈ o.nodes, 0 ≤ n ∧ n < 7 := fun n hn => by have := (rise_facts h.rise).2 n hn; omega
theorem OK.hse {o : Od} (h : OK o) : 0 ≤ o.self ∧ o.self < 7 := h.hnr _ h.mem
theorem hv_set {o : Od} {v w n : Int} (hv' : 0 ≤ v ∧ v < 7) (hw : 0 ≤ w ∧ w < 7) (h7 : o.has.length = 7) : (o.has.set v.toNat n).getD w.toNat 0 = if w = v then n else hv o w := by
  unfold hv
  rw [List.getD_eq_getElem?_getD, List.getElem?_set]
  by_cases e : w = v
  · subst e; rw [if_pos rfl, if_pos rfl, if_pos (by omega)]; rfl
  · rw [if_neg (by omega), if_neg e, List.getD_eq_getElem?_getD]
/-- More than half have n. -/
theorem med_ge {o : Od} (h0 : 0 < o.nodes.length) (n : Int) : n ≤ medO o ↔ o.nodes.length < 2 * o.nodes.countP fun v => decide (n ≤ hv o v) := by
  have := sorted_ge (l := o.nodes.map (hv o)) (by rw [List.length_map]; exact h0) n
  rw [List.length_map, List.countP_map] at this
  exact this
theorem med_le {o : Od} (h : OK o) : medO o ≤ o.log.length := by
  rcases Int.lt_or_le (o.log.length : Int) (medO o) with h' | h'
  · exfalso
    have := (med_ge h.h0 (medO o)).1 (Int.le_refl _)
    rw [List.countP_eq_zero.2 fun v hv => by have := h.hvb v hv; simp; omega] at this
    omega
  · exact h'
theorem settle_ok {o : Od} (h : OK o) : OK (settleO o) := by
  have := med_le h
  have := h.sure0; have := h.sure1
  exact ⟨h.rise, h.mem, h.has, h.hvb, by show 0 ≤ max o.sure (medO o); omega, by show max o.sure (medO o) ≤ o.log.length; omega⟩
/-- What stays, and what grows. -/
structure Gr (o o' : Od) : Prop where
  ok : OK o'
  nodes : o'.nodes = o.nodes
  self : o'.self = o.self
  log : ∃ t, o'.log = o.log ++ t ∧ t.length ≤ 1
  sure : o.sure ≤ o'.sure
theorem Gr.refl {o : Od} (h : OK o) : Gr o o := ⟨h, rfl, rfl, ⟨[], by simp, by simp⟩, Int.le_refl _⟩
theorem put_gr {o : Od} {s : ByteArray} (h : OK o) : Gr o (putO o s).1 := by
  unfold putO
  split
  · exact Gr.refl h
  · have hl : (o.log ++ [s]).length = o.log.length + 1 := by simp
    refine ⟨⟨h.rise, h.mem, by simp [h.has], fun v hvm => ?_, h.sure0, by have := h.sure1; simp only [hl]; omega⟩, rfl, rfl, ⟨[s], rfl, by simp⟩, Int.le_refl _⟩
    show 0 ≤ (o.has.set o.self.toNat (o.log.length + 1 : Nat)).getD v.toNat 0 ∧ (o.has.set o.self.toNat (o.log.length + 1 : Nat)).getD v.toNat 0 ≤ (o.log ++ [s]).length
    rw [hv_set h.hse (h.hnr v hvm) h.has, hl]
    have := h.hvb v hvm
    split <;> omega
theorem Gr.settle {o o' : Od} (h : Gr o o') : Gr o (settleO o') :=
  ⟨settle_ok h.ok, h.nodes, h.self, h.log, by have := h.sure; show o.sure ≤ max o'.sure _; omega⟩
theorem prop_gr {o : Od} {s : ByteArray} (h : OK o) : Gr o (propO o s).1 := by
  unfold propO
  split
  · split
    · exact (put_gr h).settle
    · exact Gr.refl h
  · exact Gr.refl h
theorem add_gr {o : Od} {i : Int} {s : ByteArray} (h : OK o) : Gr o (addO o i s).1 := by
  unfold addO
  split
  · exact put_gr h
  · exact Gr.refl h
theorem learn_gr {o : Od} {n : Int} (h : OK o) : Gr o (learnO o n).1 := by
  unfold learnO
  split
  · rename_i hc
    have := h.sure0
    exact ⟨⟨h.rise, h.mem, h.has, h.hvb, by show 0 ≤ min n o.log.length; omega, by show min n o.log.length ≤ o.log.length; omega⟩, rfl, rfl, ⟨[], by simp, by simp⟩, by show o.sure ≤ min n o.log.length; omega⟩
  · exact Gr.refl h
theorem other_mem {o : Od} {v : Int} (h : otherO o v = true) : firstO o = true ∧ v ≠ o.self ∧ v ∈ o.nodes := by
  unfold otherO at h
  simp only [Bool.and_eq_true, decide_eq_true_eq] at h
  exact ⟨h.1.1, h.1.2, h.2⟩
theorem has_gr {o : Od} {v n : Int} (h : OK o) : Gr o (hasO o v n).1 := by
  unfold hasO
  split
  · rename_i hc
    obtain ⟨h1, h2, h3⟩ := hc
    have hvm := (other_mem h1).2.2
    refine Gr.settle ⟨⟨h.rise, h.mem, by simp [setH, h.has], fun w hw => ?_, h.sure0, h.sure1⟩, rfl, rfl, ⟨[], by simp [setH], by simp⟩, Int.le_refl _⟩
    show 0 ≤ (o.has.set v.toNat (max (hv o v) n)).getD w.toNat 0 ∧ (o.has.set v.toNat (max (hv o v) n)).getD w.toNat 0 ≤ o.log.length
    rw [hv_set (h.hnr v hvm) (h.hnr w hw) h.has]
    have := h.hvb w hw; have := h.hvb v hvm
    split <;> omega
  · exact Gr.refl h
theorem hasN_get {n : Int} : ∀ {l h : List Int} {w : Int}, (∀ v ∈ l, 0 ≤ v ∧ v < 7) → 0 ≤ w → w < 7 → h.length = 7 → (l.foldl (fun h v => h.set v.toNat n) h).getD w.toNat 0 = if w ∈ l then n else h.getD w.toNat 0
  | [], h, w, _, _, _, _ => by simp
  | a :: l, h, w, hl, h0, h7, hh => by
    rw [List.foldl_cons, hasN_get (fun v hv => hl v (List.mem_cons_of_mem _ hv)) h0 h7 (by rw [List.length_set]; exact hh)]
    have ha := hl a List.mem_cons_self
    by_cases e : w ∈ l
    · rw [if_pos e, if_pos (List.mem_cons_of_mem _ e)]
    · rw [if_neg e, List.getD_eq_getElem?_getD, List.getElem?_set]
      by_cases e2 : w = a
      · subst e2; rw [if_pos rfl, if_pos (by omega), if_pos List.mem_cons_self]; rfl
      · rw [if_neg (by omega), if_neg (fun hm => (List.mem_cons.1 hm).elim e2 e), List.getD_eq_getElem?_getD]
theorem okNew_iff {self : Int} {nodes : List Int} (h : okNew self nodes = true) : rise (-1) nodes = true ∧ self ∈ nodes := by
  unfold okNew at h
  simpa using h
theorem new_hv {self : Int} {nodes : List Int} {log : List ByteArray} (h : okNew self nodes = true) {v : Int} (hvm : v ∈ nodes) : hv (newO self nodes log) v = log.length := by
  have h1 := okNew_iff h
  have hr : ∀ v ∈ nodes, 0 ≤ v ∧ v < 7 := fun v hv => by have := (rise_facts h1.1).2 v hv; omega
  have := hasN_get (n := log.length) (l := nodes) (h := [0, 0, 0, 0, 0, 0, 0]) (w := v) hr (hr v hvm).1 (hr v hvm).2 rfl
  rw [if_pos hvm] at this
  exact this
theorem new_ok {self : Int} {nodes : List Int} {log : List ByteArray} (h : okNew self nodes = true) : OK (newO self nodes log) := by
  have h1 := okNew_iff h
  refine ⟨h1.1, h1.2, hasN_len, fun v hvm => ?_, by show (0 : Int) ≤ log.length; omega, Int.le_refl _⟩
  rw [new_hv h hvm]
  exact ⟨by omega, Int.le_refl _⟩
section
variable {b : Nat} {o : Od} {M : Mem}
theorem prop10 (hb : M b = some (.cells (odC o))) (h : OK o) {s : ByteArray} (hs : s.size < 2 ^ 61) (hlg : o.log.length + 2 ≤ 2 ^ 43) : SoundCall Try.prog 10 [ptr b, str s] M fun r M' => r = .tup [int (propO o s).2.1, int (propO o s).2.2] ∧ M' = M.upd b (.cells (odC (propO o s).1)) := snd10 b o s M hb h.h0 hs h.hse h.has hlg h.h7 h.hnr
theorem add12 (hb : M b = some (.cells (odC o))) (h : OK o) {i : Int} {s : ByteArray} (hs : s.size < 2 ^ 61) (hlg : o.log.length + 2 ≤ 2 ^ 43) : SoundCall Try.prog 12 [ptr b, int i, str s] M fun r M' => r = bool (addO o i s).2 ∧ M' = M.upd b (.cells (odC (addO o i s).1)) := snd12 b o i s M hb h.hn hs h.hse h.has hlg
theorem has13 (hb : M b = some (.cells (odC o))) (h : OK o) {v n : Int} : SoundCall Try.prog 13 [ptr b, int v, int n] M fun r M' => r = bool (hasO o v n).2 ∧ M' = M.upd b (.cells (odC (hasO o v n).1)) := snd13 b o v n M hb h.h0 h.has h.h7 h.hnr
theorem learn15 (hb : M b = some (.cells (odC o))) (h : OK o) {n : Int} : SoundCall Try.prog 15 [ptr b, int n] M fun r M' => r = bool (learnO o n).2 ∧ M' = M.upd b (.cells (odC (learnO o n).1)) := snd15 b o n M hb h.hn
theorem wants11 (hb : M b = some (.cells (odC o))) (h : OK o) {v most : Int} (hlg : o.log.length + 2 ≤ 2 ^ 43) : SoundCall Try.prog 11 [ptr b, int v, int most] M fun r M' => r = .tup [int (wantsO o v most).1, .sl ((wantsO o v most).2.map str) false] ∧ M' = M := snd11 b o v most M hb h.h0 h.has h.h7 h.hnr h.hvb hlg
end

theorem newT {self : Int} {nodes : List Int} {log : List ByteArray} (o1 o2 : Bool) (M : Mem) (h : okNew self nodes = true) (hnl : nodes.length < 2 ^ 60) (hlg : log.length + 2 ≤ 2 ^ 43) (hsz : ∀ s ∈ log, s.size < 2 ^ 61) :
    SoundCall Try.prog 9 [int self, .sl (nodes.map int) o1, .sl (log.map str) o2] M fun r M' => ∃ b, M b = none ∧ r = .tup [ptr b, int 0] ∧ M' = M.upd b (.cells (odC (newO self nodes log))) :=
  (snd9 self nodes o1 log o2 M hnl hlg hsz).mono fun r M' h' => by
    rcases h' with ⟨h1, -⟩ | ⟨-, h1⟩
    · rw [h] at h1; cases h1
    · exact h1
theorem newF {self : Int} {nodes : List Int} {log : List ByteArray} (o1 o2 : Bool) (M : Mem) (h : okNew self nodes = false) (hnl : nodes.length < 2 ^ 60) (hlg : log.length + 2 ≤ 2 ^ 43) (hsz : ∀ s ∈ log, s.size < 2 ^ 61) :
    SoundCall Try.prog 9 [int self, .sl (nodes.map int) o1, .sl (log.map str) o2] M fun r M' => r = .tup [nilp, int 1] ∧ M' = M :=
  (snd9 self nodes o1 log o2 M hnl hlg hsz).mono fun r M' h' => by
    rcases h' with ⟨-, h1⟩ | ⟨h1, -⟩
    · exact h1
    · rw [h] at h1; cases h1
section
variable {b : Nat} {o o' : Od} {M : Mem}
theorem propE {s : ByteArray} {x y : Int} (h : propO o s = (o', x, y)) (hb : M b = some (.cells (odC o))) (hok : OK o) (hs : s.size < 2 ^ 61) (hlg : o.log.length + 2 ≤ 2 ^ 43) : SoundCall Try.prog 10 [ptr b, str s] M fun r M' => r = .tup [int x, int y] ∧ M' = M.upd b (.cells (odC o')) := by
  have := prop10 hb hok hs hlg
  rwa [h] at this
theorem addE {i : Int} {s : ByteArray} {x : Bool} (h : addO o i s = (o', x)) (hb : M b = some (.cells (odC o))) (hok : OK o) (hs : s.size < 2 ^ 61) (hlg : o.log.length + 2 ≤ 2 ^ 43) : SoundCall Try.prog 12 [ptr b, int i, str s] M fun r M' => r = bool x ∧ M' = M.upd b (.cells (odC o')) := by
  have := add12 hb hok hs hlg (i := i)
  rwa [h] at this
theorem hasE {v n : Int} {x : Bool} (h : hasO o v n = (o', x)) (hb : M b = some (.cells (odC o))) (hok : OK o) : SoundCall Try.prog 13 [ptr b, int v, int n] M fun r M' => r = bool x ∧ M' = M.upd b (.cells (odC o')) := by
  have := has13 hb hok (v := v) (n := n)
  rwa [h] at this
theorem learnE {n : Int} {x : Bool} (h : learnO o n = (o', x)) (hb : M b = some (.cells (odC o))) (hok : OK o) : SoundCall Try.prog 15 [ptr b, int n] M fun r M' => r = bool x ∧ M' = M.upd b (.cells (odC o')) := by
  have := learn15 hb hok (n := n)
  rwa [h] at this
theorem wantsE {v n x : Int} {l : List ByteArray} (h : wantsO o v n = (x, l)) (hb : M b = some (.cells (odC o))) (hok : OK o) (hlg : o.log.length + 2 ≤ 2 ^ 43) : SoundCall Try.prog 11 [ptr b, int v, int n] M fun r M' => r = .tup [int x, .sl (l.map str) false] ∧ M' = M := by
  have := wants11 hb hok hlg (v := v) (most := n)
  rwa [h] at this
theorem sureE {n : Int} (h : o.sure = n) (hb : M b = some (.cells (odC o))) : SoundCall Try.prog 16 [ptr b] M fun r M' => r = int n ∧ M' = M := by
  have := snd16 b o M hb
  rwa [h] at this
theorem bytesE {n : Int} (h : o.bytes = n) (hb : M b = some (.cells (odC o))) : SoundCall Try.prog 17 [ptr b] M fun r M' => r = int n ∧ M' = M := by
  have := snd17 b o M hb
  rwa [h] at this
theorem lenE {n : Nat} (h : o.log.length = n) (hb : M b = some (.cells (odC o))) : SoundCall Try.prog 14 [ptr b] M fun r M' => r = int n ∧ M' = M := by
  have := snd14 b o M hb
  rwa [h] at this
theorem firstE {n : Bool} (h : firstO o = n) (hb : M b = some (.cells (odC o))) (hok : OK o) : SoundCall Try.prog 19 [ptr b] M fun r M' => r = bool n ∧ M' = M := by
  have := snd19 b o M hb hok.hn
  rwa [h] at this
end
def bs (n : UInt8) : ByteArray := { data := #[n] }
def e0 : Od := newO 0 [0, 1, 2] [bs 97]
def p0 : Od := newO 1 [0, 1, 2] [bs 97]
def e1 : Od := (propO e0 (bs 98)).1
def p1 : Od := (addO p0 1 (bs 98)).1
def e2 : Od := (hasO e1 1 2).1
def p2 : Od := (learnO p1 2).1
theorem ok_e0 : OK e0 := new_ok (by decide)
theorem ok_p0 : OK p0 := new_ok (by decide)
theorem ok_e1 : OK e1 := (prop_gr ok_e0).ok
theorem ok_p1 : OK p1 := (add_gr ok_p0).ok
theorem ok_e2 : OK e2 := (has_gr ok_e1).ok
theorem ok_p2 : OK p2 := (learn_gr ok_p1).ok
set_option maxHeartbeats 4000000 in
set_option maxRecDepth 20000 in
theorem snd7 (M : Mem) : SoundCall Try.prog 7 [] M fun r M' => r = bool true ∧ M.le M' := by
  refine SoundCall.go tk7 pl7 mixed Try.func7 cb7 rfl (Nat.le_of_ble_eq_true rfl) ?_
  refine s_seq ?_
  refine s_region ?_
  refine o_q (q_as (v_raw rfl)) rfl rfl rfl ?_
  refine o_nil ?_
  refine s_seq ?_
  refine s_region ?_
  refine o_q (q_bs slt25 (pc (v_raw rfl) (pc (v_raw rfl) (pc (v_raw rfl) pn))) rfl (Els.cons rfl rfl (Els.cons rfl rfl (Els.cons rfl rfl Els.nil))) (by decide)) rfl rfl rfl ?_
  refine o_q (q_bs slt22 (pc (v_raw rfl) pn) rfl (Els.cons rfl rfl Els.nil) (by decide)) rfl rfl rfl ?_
  refine o_callx ((newT (self := 0) (nodes := [0, 1, 2]) (log := [bs 97]) _ _ _ (by decide) (by decide) (by decide) (by decide))) goes9 (ac (v_raw rfl) (ac (v_sl rfl) (ac (v_sl rfl) ac_nil))) rfl ?_
  rintro r M' ⟨B1, hB1, rfl, rfl⟩
  refine o_q (q_mv (v_tup rfl)) rfl rfl rfl ?_
  refine o_q (q_ext rfl rfl ((by first | exact v_raw rfl | exact v_sptr rfl))) rfl rfl rfl ?_
  refine o_q (q_ext rfl rfl (v_raw rfl)) rfl rfl rfl ?_
  refine o_q (q_as ((by first | exact v_raw rfl | exact v_sptr rfl))) rfl rfl rfl ?_
  refine o_q (q_as (v_raw rfl)) rfl rfl rfl ?_
  refine o_nil ?_
  refine s_seq ?_
  refine s_region ?_
  refine o_q (q_bs slt25 (pc (v_raw rfl) (pc (v_raw rfl) (pc (v_raw rfl) pn))) rfl (Els.cons rfl rfl (Els.cons rfl rfl (Els.cons rfl rfl Els.nil))) (by decide)) rfl rfl rfl ?_
  refine o_q (q_bs slt22 (pc (v_raw rfl) pn) rfl (Els.cons rfl rfl Els.nil) (by decide)) rfl rfl rfl ?_
  refine o_callx ((newT (self := 1) (nodes := [0, 1, 2]) (log := [bs 97]) _ _ _ (by decide) (by decide) (by decide) (by decide))) goes9 (ac (v_raw rfl) (ac (v_sl rfl) (ac (v_sl rfl) ac_nil))) rfl ?_
  rintro r M' ⟨B2, hB2, rfl, rfl⟩
  have n12 : B1 ≠ B2 := Mem.fresh_ne hB2 (Mem.upd_self _ _ _)
  have n21 := n12.symm
  have m2 : M B2 = none := (Mem.upd_none hB2).2
  refine o_q (q_mv (v_tup rfl)) rfl rfl rfl ?_
  refine o_q (q_ext rfl rfl ((by first | exact v_raw rfl | exact v_sptr rfl))) rfl rfl rfl ?_
  refine o_q (q_ext rfl rfl (v_raw rfl)) rfl rfl rfl ?_
  refine o_q (q_as ((by first | exact v_raw rfl | exact v_sptr rfl))) rfl rfl rfl ?_
  refine o_q (q_as (v_raw rfl)) rfl rfl rfl ?_
  refine o_nil ?_
  refine s_seq ?_
  refine s_region ?_
  refine o_q (q_bs slt25 (pc (v_raw rfl) (pc (v_raw rfl) (pc (v_raw rfl) pn))) rfl (Els.cons rfl rfl (Els.cons rfl rfl (Els.cons rfl rfl Els.nil))) (by decide)) rfl rfl rfl ?_
  refine o_callx ((newF (self := 3) (nodes := [0, 1, 2]) (log := []) _ _ _ (by decide) (by decide) (by decide) (by decide))) goes9 (ac (v_raw rfl) (ac (v_sl rfl) (ac (v_sl rfl) ac_nil))) rfl ?_
  rintro r M' ⟨rfl, rfl⟩
  refine o_q (q_mv (v_tup rfl)) rfl rfl rfl ?_
  refine o_q (q_ext rfl rfl ((by first | exact v_raw rfl | exact v_sptr rfl))) rfl rfl rfl ?_
  refine o_q (q_ext rfl rfl (v_raw rfl)) rfl rfl rfl ?_
  refine o_q (q_as ((by first | exact v_raw rfl | exact v_sptr rfl))) rfl rfl rfl ?_
  refine o_q (q_as (v_raw rfl)) rfl rfl rfl ?_
  refine o_nil ?_
  refine s_seq ?_
  refine s_seq ?_
  refine s_region ?_
  refine o_q (q_mv ((by first | exact v_raw rfl | exact v_sptr rfl))) rfl rfl rfl ?_
  refine o_q (q_peql und27 rfl rfl) rfl rfl rfl ?_
  refine o_q (q_mv (v_raw rfl)) rfl rfl rfl ?_
  refine o_yes rfl rfl rfl rfl ?_
  refine o_q (q_mv ((by first | exact v_raw rfl | exact v_sptr rfl))) rfl rfl rfl ?_
  refine o_yes rfl rfl rfl rfl ?_
  refine o_q (q_peql und27 rfl rfl) rfl rfl rfl ?_
  refine o_q (q_pick_c (t := false) rfl rfl (v_raw rfl)) rfl rfl rfl ?_
  refine o_q (q_mv (v_raw rfl)) rfl rfl rfl ?_
  refine o_yes rfl rfl rfl rfl ?_
  refine o_q (q_mv (v_raw rfl)) rfl rfl rfl ?_
  refine o_yes rfl rfl rfl rfl ?_
  refine o_q (q_neq rfl rfl) rfl rfl rfl ?_
  refine o_q (q_pick_c (t := false) rfl rfl (v_raw rfl)) rfl rfl rfl ?_
  refine o_q (q_mv (v_raw rfl)) rfl rfl rfl ?_
  refine o_yes rfl rfl rfl (by decide) ?_
  refine o_q (q_mv (v_raw rfl)) rfl rfl rfl ?_
  refine o_yes rfl rfl rfl (by decide) ?_
  refine o_q (q_neq rfl rfl) rfl rfl rfl ?_
  refine o_q (q_pick_c (t := false) rfl (by decide) (v_raw rfl)) rfl rfl rfl ?_
  refine o_nil ?_
  refine s_else rfl (by decide) ?_
  refine s_skip ?_
  refine s_seq ?_
  refine s_region ?_
  refine o_q (q_mv ((by first | exact v_raw rfl | exact v_sptr rfl))) rfl rfl rfl ?_
  refine o_callx ((propE (o := e0) (o' := e1) (x := 1) (y := 0) (s := bs 98) (by kernel_rfl) (by repeat first | exact Mem.upd_self _ _ _ | assumption | refine Mem.upd_ne (by assumption) ?_) ok_e0 (by decide +kernel) (by decide +kernel))) goes10 (ac ((by first | exact v_raw rfl | exact v_sptr rfl)) (ac (v_raw rfl) ac_nil)) rfl ?_
  rintro r M' ⟨rfl, rfl⟩
  refine o_q (q_mv (v_tup rfl)) rfl rfl rfl ?_
  refine o_q (q_ext rfl rfl (v_raw rfl)) rfl rfl rfl ?_
  refine o_q (q_ext rfl rfl (v_raw rfl)) rfl rfl rfl ?_
  refine o_q (q_as (v_raw rfl)) rfl rfl rfl ?_
  refine o_q (q_as (v_raw rfl)) rfl rfl rfl ?_
  refine o_nil ?_
  refine s_seq ?_
  refine s_region ?_
  refine o_q (q_mv ((by first | exact v_raw rfl | exact v_sptr rfl))) rfl rfl rfl ?_
  refine o_call ((sureE (o := e1) (n := 1) (by kernel_rfl) (by repeat first | exact Mem.upd_self _ _ _ | assumption | refine Mem.upd_ne (by assumption) ?_) )) goes16 (ac ((by first | exact v_raw rfl | exact v_sptr rfl)) ac_nil) rfl ?_
  refine o_q (q_as (v_raw rfl)) rfl rfl rfl ?_
  refine o_nil ?_
  refine s_seq ?_
  refine s_region ?_
  refine o_q (q_mv ((by first | exact v_raw rfl | exact v_sptr rfl))) rfl rfl rfl ?_
  refine o_call ((wantsE (o := e1) (v := 1) (n := 9) (x := 1) (l := [bs 98]) (by kernel_rfl) (by repeat first | exact Mem.upd_self _ _ _ | assumption | refine Mem.upd_ne (by assumption) ?_) ok_e1 (by decide +kernel))) goes11 (ac ((by first | exact v_raw rfl | exact v_sptr rfl)) (ac (v_raw rfl) (ac (v_raw rfl) ac_nil))) rfl ?_
  refine o_q (q_mv (v_tup rfl)) rfl rfl rfl ?_
  refine o_q (q_ext rfl rfl (v_raw rfl)) rfl rfl rfl ?_
  refine o_q (q_ext rfl rfl (v_sl rfl)) rfl rfl rfl ?_
  refine o_q (q_as (v_raw rfl)) rfl rfl rfl ?_
  refine o_q (q_as (v_sl rfl)) rfl rfl rfl ?_
  refine o_nil ?_
  refine s_seq ?_
  refine s_region ?_
  refine o_q (q_mv ((by first | exact v_raw rfl | exact v_sptr rfl))) rfl rfl rfl ?_
  refine o_callx ((addE (o := p0) (o' := p0) (i := 2) (s := bs 120) (x := false) (by kernel_rfl) (by repeat first | exact Mem.upd_self _ _ _ | assumption | refine Mem.upd_ne (by assumption) ?_) ok_p0 (by decide +kernel) (by decide +kernel))) goes12 (ac ((by first | exact v_raw rfl | exact v_sptr rfl)) (ac (v_raw rfl) (ac (v_raw rfl) ac_nil))) rfl ?_
  rintro r M' ⟨rfl, rfl⟩
  refine o_q (q_not rfl) rfl rfl rfl ?_
  refine o_q (q_mv (v_raw rfl)) rfl rfl rfl ?_
  refine o_yes rfl rfl rfl (by decide) ?_
  refine o_q (q_mv ((by first | exact v_raw rfl | exact v_sptr rfl))) rfl rfl rfl ?_
  refine o_yes rfl rfl rfl (by decide) ?_
  refine o_callx ((addE (o := p0) (o' := p1) (i := 1) (s := bs 98) (x := true) (by kernel_rfl) (by repeat first | exact Mem.upd_self _ _ _ | assumption | refine Mem.upd_ne (by assumption) ?_) ok_p0 (by decide +kernel) (by decide +kernel))) goes12 (ac ((by first | exact v_raw rfl | exact v_sptr rfl)) (ac (v_raw rfl) (ac (v_raw rfl) ac_nil))) rfl ?_
  rintro r M' ⟨rfl, rfl⟩
  refine o_q (q_pick_c (t := true) rfl (by decide) (v_raw rfl)) rfl rfl rfl ?_
  refine o_q (q_as (v_raw rfl)) rfl rfl rfl ?_
  refine o_nil ?_
  refine s_seq ?_
  refine s_region ?_
  refine o_q (q_mv ((by first | exact v_raw rfl | exact v_sptr rfl))) rfl rfl rfl ?_
  refine o_callx ((hasE (o := e1) (o' := e2) (v := 1) (n := 2) (x := true) (by kernel_rfl) (by repeat first | exact Mem.upd_self _ _ _ | assumption | refine Mem.upd_ne (by assumption) ?_) ok_e1)) goes13 (ac ((by first | exact v_raw rfl | exact v_sptr rfl)) (ac (v_raw rfl) (ac (v_raw rfl) ac_nil))) rfl ?_
  rintro r M' ⟨rfl, rfl⟩
  refine o_q (q_mv (v_raw rfl)) rfl rfl rfl ?_
  refine o_yes rfl rfl rfl (by decide) ?_
  refine o_q (q_mv ((by first | exact v_raw rfl | exact v_sptr rfl))) rfl rfl rfl ?_
  refine o_yes rfl rfl rfl (by decide) ?_
  refine o_call ((sureE (o := e2) (n := 2) (by kernel_rfl) (by repeat first | exact Mem.upd_self _ _ _ | assumption | refine Mem.upd_ne (by assumption) ?_) )) goes16 (ac ((by first | exact v_raw rfl | exact v_sptr rfl)) ac_nil) rfl ?_
  refine o_yes rfl rfl rfl (by decide) ?_
  refine o_q (q_eql rfl rfl) rfl rfl rfl ?_
  refine o_q (q_pick_c (t := true) rfl (by decide) (v_raw rfl)) rfl rfl rfl ?_
  refine o_q (q_mv (v_raw rfl)) rfl rfl rfl ?_
  refine o_yes rfl rfl rfl (by decide) ?_
  refine o_q (q_mv ((by first | exact v_raw rfl | exact v_sptr rfl))) rfl rfl rfl ?_
  refine o_yes rfl rfl rfl (by decide) ?_
  refine o_callx ((learnE (o := p1) (o' := p2) (n := 2) (x := true) (by kernel_rfl) (by repeat first | exact Mem.upd_self _ _ _ | assumption | refine Mem.upd_ne (by assumption) ?_) ok_p1)) goes15 (ac ((by first | exact v_raw rfl | exact v_sptr rfl)) (ac (v_raw rfl) ac_nil)) rfl ?_
  rintro r M' ⟨rfl, rfl⟩
  refine o_q (q_pick_c (t := true) rfl (by decide) (v_raw rfl)) rfl rfl rfl ?_
  refine o_q (q_mv (v_raw rfl)) rfl rfl rfl ?_
  refine o_yes rfl rfl rfl (by decide) ?_
  refine o_q (q_mv ((by first | exact v_raw rfl | exact v_sptr rfl))) rfl rfl rfl ?_
  refine o_yes rfl rfl rfl (by decide) ?_
  refine o_call ((sureE (o := p2) (n := 2) (by kernel_rfl) (by repeat first | exact Mem.upd_self _ _ _ | assumption | refine Mem.upd_ne (by assumption) ?_) )) goes16 (ac ((by first | exact v_raw rfl | exact v_sptr rfl)) ac_nil) rfl ?_
  refine o_yes rfl rfl rfl (by decide) ?_
  refine o_q (q_eql rfl rfl) rfl rfl rfl ?_
  refine o_q (q_pick_c (t := true) rfl (by decide) (v_raw rfl)) rfl rfl rfl ?_
  refine o_q (q_as (v_raw rfl)) rfl rfl rfl ?_
  refine o_nil ?_
  refine s_seq ?_
  refine s_region ?_
  refine o_q (q_mv ((by first | exact v_raw rfl | exact v_sptr rfl))) rfl rfl rfl ?_
  refine o_callx ((propE (o := p2) (o' := p2) (x := 0) (y := 11) (s := bs 99) (by kernel_rfl) (by repeat first | exact Mem.upd_self _ _ _ | assumption | refine Mem.upd_ne (by assumption) ?_) ok_p2 (by decide +kernel) (by decide +kernel))) goes10 (ac ((by first | exact v_raw rfl | exact v_sptr rfl)) (ac (v_raw rfl) ac_nil)) rfl ?_
  rintro r M' ⟨rfl, rfl⟩
  refine o_q (q_mv (v_tup rfl)) rfl rfl rfl ?_
  refine o_q (q_ext rfl rfl (v_raw rfl)) rfl rfl rfl ?_
  refine o_q (q_ext rfl rfl (v_raw rfl)) rfl rfl rfl ?_
  refine o_q (q_as (v_raw rfl)) rfl rfl rfl ?_
  refine o_q (q_as (v_raw rfl)) rfl rfl rfl ?_
  refine o_nil ?_
  refine s_seq ?_
  refine s_region ?_
  refine o_q (q_mv (v_raw rfl)) rfl rfl rfl ?_
  refine o_q (q_eql rfl rfl) rfl rfl rfl ?_
  refine o_q (q_mv (v_raw rfl)) rfl rfl rfl ?_
  refine o_yes rfl rfl rfl (by decide) ?_
  refine o_q (q_mv (v_raw rfl)) rfl rfl rfl ?_
  refine o_yes rfl rfl rfl (by decide) ?_
  refine o_q (q_eql rfl rfl) rfl rfl rfl ?_
  refine o_q (q_pick_c (t := true) rfl (by decide) (v_raw rfl)) rfl rfl rfl ?_
  refine o_q (q_mv (v_raw rfl)) rfl rfl rfl ?_
  refine o_yes rfl rfl rfl (by decide) ?_
  refine o_q (q_mv (v_raw rfl)) rfl rfl rfl ?_
  refine o_yes rfl rfl rfl (by decide) ?_
  refine o_q (q_eql rfl rfl) rfl rfl rfl ?_
  refine o_q (q_pick_c (t := true) rfl (by decide) (v_raw rfl)) rfl rfl rfl ?_
  refine o_q (q_mv (v_raw rfl)) rfl rfl rfl ?_
  refine o_yes rfl rfl rfl (by decide) ?_
  refine o_q (q_mv (v_raw rfl)) rfl rfl rfl ?_
  refine o_yes rfl rfl rfl (by decide) ?_
  refine o_q (q_eql rfl rfl) rfl rfl rfl ?_
  refine o_q (q_pick_c (t := true) rfl (by decide) (v_raw rfl)) rfl rfl rfl ?_
  refine o_q (q_mv (v_raw rfl)) rfl rfl rfl ?_
  refine o_yes rfl rfl rfl (by decide) ?_
  refine o_q (q_mv (v_sl rfl)) rfl rfl rfl ?_
  refine o_yes rfl rfl rfl (by decide) ?_
  refine o_q (q_len rfl und22 rfl) rfl rfl rfl ?_
  refine o_yes rfl rfl rfl (by decide) ?_
  refine o_q (q_eql rfl rfl) rfl rfl rfl ?_
  refine o_q (q_pick_c (t := true) rfl (by decide) (v_raw rfl)) rfl rfl rfl ?_
  refine o_q (q_mv (v_raw rfl)) rfl rfl rfl ?_
  refine o_yes rfl rfl rfl (by decide) ?_
  refine o_q (q_mv (v_sl rfl)) rfl rfl rfl ?_
  refine o_yes rfl rfl rfl (by decide) ?_
  refine o_q (q_idx und22 sz9 rfl rfl (by omega) (gm 0 (by first | omega | simp)) rfl) rfl rfl rfl ?_
  refine o_yes rfl rfl rfl (by decide) ?_
  refine o_q (q_ld ag9 sz9 rfl (gm 0 (by first | omega | simp)) rfl (v_raw rfl)) rfl rfl rfl ?_
  refine o_yes rfl rfl rfl (by decide) ?_
  refine o_q (q_seql rfl rfl) rfl rfl rfl ?_
  refine o_q (q_pick_c (t := true) rfl (by decide) (v_raw rfl)) rfl rfl rfl ?_
  refine o_q (q_mv (v_raw rfl)) rfl rfl rfl ?_
  refine o_yes rfl rfl rfl (by decide) ?_
  refine o_q (q_mv (v_raw rfl)) rfl rfl rfl ?_
  refine o_q (q_pick_c (t := true) rfl (by decide) (v_raw rfl)) rfl rfl rfl ?_
  refine o_q (q_mv (v_raw rfl)) rfl rfl rfl ?_
  refine o_yes rfl rfl rfl (by decide) ?_
  refine o_q (q_mv ((by first | exact v_raw rfl | exact v_sptr rfl))) rfl rfl rfl ?_
  refine o_yes rfl rfl rfl (by decide) ?_
  refine o_call ((lenE (o := p2) (n := 2) (by kernel_rfl) (by repeat first | exact Mem.upd_self _ _ _ | assumption | refine Mem.upd_ne (by assumption) ?_) )) goes14 (ac ((by first | exact v_raw rfl | exact v_sptr rfl)) ac_nil) rfl ?_
  refine o_yes rfl rfl rfl (by decide) ?_
  refine o_q (q_eql rfl rfl) rfl rfl rfl ?_
  refine o_q (q_pick_c (t := true) rfl (by decide) (v_raw rfl)) rfl rfl rfl ?_
  refine o_q (q_mv (v_raw rfl)) rfl rfl rfl ?_
  refine o_yes rfl rfl rfl (by decide) ?_
  refine o_q (q_mv (v_raw rfl)) rfl rfl rfl ?_
  refine o_q (q_pick_c (t := true) rfl (by decide) (v_raw rfl)) rfl rfl rfl ?_
  refine o_q (q_mv (v_raw rfl)) rfl rfl rfl ?_
  refine o_yes rfl rfl rfl (by decide) ?_
  refine o_q (q_mv (v_raw rfl)) rfl rfl rfl ?_
  refine o_yes rfl rfl rfl (by decide) ?_
  refine o_q (q_eql rfl rfl) rfl rfl rfl ?_
  refine o_q (q_pick_c (t := true) rfl (by decide) (v_raw rfl)) rfl rfl rfl ?_
  refine o_q (q_mv (v_raw rfl)) rfl rfl rfl ?_
  refine o_yes rfl rfl rfl (by decide) ?_
  refine o_q (q_mv ((by first | exact v_raw rfl | exact v_sptr rfl))) rfl rfl rfl ?_
  refine o_yes rfl rfl rfl (by decide) ?_
  refine o_call ((firstE (o := e2) (n := true) (by kernel_rfl) (by repeat first | exact Mem.upd_self _ _ _ | assumption | refine Mem.upd_ne (by assumption) ?_) ok_e2)) goes19 (ac ((by first | exact v_raw rfl | exact v_sptr rfl)) ac_nil) rfl ?_
  refine o_q (q_pick_c (t := true) rfl (by decide) (v_raw rfl)) rfl rfl rfl ?_
  refine o_q (q_mv (v_raw rfl)) rfl rfl rfl ?_
  refine o_yes rfl rfl rfl (by decide) ?_
  refine o_q (q_mv ((by first | exact v_raw rfl | exact v_sptr rfl))) rfl rfl rfl ?_
  refine o_yes rfl rfl rfl (by decide) ?_
  refine o_call ((bytesE (o := e2) (n := 10) (by kernel_rfl) (by repeat first | exact Mem.upd_self _ _ _ | assumption | refine Mem.upd_ne (by assumption) ?_) )) goes17 (ac ((by first | exact v_raw rfl | exact v_sptr rfl)) ac_nil) rfl ?_
  refine o_yes rfl rfl rfl (by decide) ?_
  refine o_q (q_eql rfl rfl) rfl rfl rfl ?_
  refine o_q (q_pick_c (t := true) rfl (by decide) (v_raw rfl)) rfl rfl rfl ?_
  refine o_q (q_as (v_raw rfl)) rfl rfl rfl ?_
  refine o_nil ?_
  refine s_ret ?_
  refine s_end ?_
  exact ⟨rfl, (by repeat first | exact hle | exact Mem.le_refl M | assumption | exact Mem.none_of_le hle (by assumption) | refine Mem.le_upd ?_ ?_)⟩
end C18
