import Derived.Test.YtkpenadcehnpjaaE18
import Derived.Test.YtkpenadcehnpjaaProg
/-! Chapter 18: orders: what their functions compute. -/
open Go Go.Proofs Go.Am
set_option linter.unusedVariables false
set_option linter.unusedSimpArgs false
set_option autoImplicit false
namespace C18
theorem ag44 : aggT Try.prog 44 = some true := by kernel_rfl
theorem fo44_0 : fo Try.prog 44 0 = some (0, 1) := by kernel_rfl
theorem fo44_1 : fo Try.prog 44 1 = some (1, 1) := by kernel_rfl
theorem fo44_2 : fo Try.prog 44 2 = some (2, 1) := by kernel_rfl
theorem fo44_3 : fo Try.prog 44 3 = some (3, 1) := by kernel_rfl
theorem sz44 : sizeT Try.prog 44 = some 4 := by kernel_rfl
theorem und40 : Try.prog.underlying 40 = some (.slice 44) := by kernel_rfl
theorem zc44 : zeroCellsT Try.prog 44 = some [.raw (.int .i64 0), .raw (.string { data := #[] }), .raw (.int .i64 0), .raw (.int .i64 0)] := by kernel_rfl
def tk6 : Nat → Nat → Option Nat := fun _ _ => none
def pl6 : Nat → List PStep := fun _ => []
theorem cb6 : Try.f6.body.map (codeB Try.prog Try.f6.ntmps tk6 pl6) = some true := by kernel_rfl
theorem goes6 : goesB Try.prog 6 = true := by kernel_rfl
-- carillon/carillonlaw18.OrderStays params ['int', '[]int', '[]string', '[]carillonlaw18.Deed'] results [['t', 8]] own [] names ['0:self', '1:nodes', '2:log', '3:deeds', '4:self', '5:nodes', '6:log', '7:deeds', '9:head', '10:o', '11:e', '12:last', '13:sure', '14:i', '15:d', '16:l'] calls [7, 9] paths 1

structure Dd where
  kind : Int
  s : ByteArray
  node : Int
  n : Int
  deriving Inhabited
def encDd (d : Dd) : AVal := .agg [int d.kind, str d.s, int d.node, int d.n]
theorem elsDd {l : List Dd} : Els 4 (l.map encDd) := Els.map fun _ => ⟨rfl, rfl⟩
def okDd (d : Dd) : Prop := (-2 ^ 63 ≤ d.kind ∧ d.kind < 2 ^ 63) ∧ d.s.size < 2 ^ 61
theorem pickE {c n : Int} {r : Nat} (M : Mem) (h : pick c n = r) (hn : 0 < n) (hn2 : n < 2 ^ 62) (hc : -2 ^ 63 ≤ c ∧ c < 2 ^ 63) : SoundCall Try.prog 8 [int c, int n] M fun q M' => q = int r ∧ M' = M := by
  have := snd8 c n M hn hn2 hc
  rwa [h] at this
theorem pre_take {a b t : List ByteArray} (h : a = b ++ t) : a.take b.length = b := by rw [h]; exact List.take_left
set_option maxHeartbeats 4000000 in
set_option maxRecDepth 20000 in
theorem snd6a (self : Int) (nodes : List Int) (o1 : Bool) (log : List ByteArray) (o2 : Bool) (l : List Dd) (o3 : Bool) (M : Mem) (hnl : nodes.length < 2 ^ 60) (hlg : log.length + 200 ≤ 2 ^ 43) (hsz : ∀ s ∈ log, s.size < 2 ^ 61) (hl : l.length < 2 ^ 60) (hq : ∀ d ∈ l, okDd d) (hok : okNew self nodes = false) : SoundCall Try.prog 6 [int self, .sl (nodes.map int) o1, .sl (log.map str) o2, .sl (l.map encDd) o3] M fun r M' => r = bool true ∧ M.le M' := by
  refine SoundCall.go tk6 pl6 mixed Try.func6 cb6 rfl (Nat.le_of_ble_eq_true rfl) ?_
  refine s_seq ?_
  refine s_region ?_
  refine o_q (q_as (v_raw rfl)) rfl rfl rfl ?_
  refine o_nil ?_
  refine s_seq ?_
  refine s_region ?_
  refine o_callx (snd7 _) goes7 ac_nil rfl ?_
  rintro r M0 ⟨rfl, hle⟩
  refine o_q (q_as (v_raw rfl)) rfl rfl rfl ?_
  refine o_nil ?_
  refine s_seq ?_
  refine s_region ?_
  refine o_q (q_mv (v_raw rfl)) rfl rfl rfl ?_
  refine o_q (q_mv (v_sl rfl)) rfl rfl rfl ?_
  refine o_q (q_mv (v_sl rfl)) rfl rfl rfl ?_
  refine o_callx ((newF _ _ _ hok hnl (by omega) hsz)) goes9 (ac (v_raw rfl) (ac (v_sl rfl) (ac (v_sl rfl) ac_nil))) rfl ?_
  rintro r M' ⟨rfl, rfl⟩
  refine o_q (q_mv (v_tup rfl)) rfl rfl rfl ?_
  refine o_q (q_ext rfl rfl ((by first | exact v_raw rfl | exact v_sptr rfl))) rfl rfl rfl ?_
  refine o_q (q_ext rfl rfl (v_raw rfl)) rfl rfl rfl ?_
  refine o_q (q_as ((by first | exact v_raw rfl | exact v_sptr rfl))) rfl rfl rfl ?_
  refine o_q (q_as (v_raw rfl)) rfl rfl rfl ?_
  refine o_nil ?_
  refine s_seq ?_
  refine s_seq ?_
  refine s_region ?_
  refine o_q (q_mv (v_raw rfl)) rfl rfl rfl ?_
  refine o_q (q_neq rfl rfl) rfl rfl rfl ?_
  refine o_q (q_mv (v_raw rfl)) rfl rfl rfl ?_
  refine o_no rfl rfl rfl rfl rfl ?_
  refine o_no rfl rfl rfl rfl rfl ?_
  refine o_q (q_pick_c (t := true) rfl rfl (v_raw rfl)) rfl rfl rfl ?_
  refine o_nil ?_
  refine s_then rfl rfl ?_
  refine s_seq ?_
  refine s_region ?_
  refine o_q (q_mv (v_raw rfl)) rfl rfl rfl ?_
  refine o_q (q_mv (v_raw rfl)) rfl rfl rfl ?_
  refine o_yes rfl rfl rfl rfl ?_
  refine o_q (q_mv ((by first | exact v_raw rfl | exact v_sptr rfl))) rfl rfl rfl ?_
  refine o_yes rfl rfl rfl rfl ?_
  refine o_q (q_peql und27 rfl rfl) rfl rfl rfl ?_
  refine o_q (q_pick_c (t := true) rfl rfl (v_raw rfl)) rfl rfl rfl ?_
  refine o_q (q_as (v_raw rfl)) rfl rfl rfl ?_
  refine o_nil ?_
  refine s_ret ?_
  refine s_code_ret ?_
  refine s_end ?_
  exact ⟨rfl, (by repeat first | exact hle | exact Mem.le_refl M | assumption | exact Mem.none_of_le hle (by assumption) | refine Mem.le_upd ?_ ?_)⟩

-- carillon/carillonlaw18.OrderStays params ['int', '[]int', '[]string', '[]carillonlaw18.Deed'] results [['t', 8]] own [] names ['0:self', '1:nodes', '2:log', '3:deeds', '4:self', '5:nodes', '6:log', '7:deeds', '9:head', '10:o', '11:e', '12:last', '13:sure', '14:i', '15:d', '16:l'] calls [7, 8, 9, 10, 11, 12, 13, 14, 15, 16, 26, 27] paths 8
set_option maxHeartbeats 4000000 in
set_option maxRecDepth 20000 in
theorem snd6b (self : Int) (nodes : List Int) (o1 : Bool) (log : List ByteArray) (o2 : Bool) (l : List Dd) (o3 : Bool) (M : Mem) (hnl : nodes.length < 2 ^ 60) (hlg : log.length + 200 ≤ 2 ^ 43) (hsz : ∀ s ∈ log, s.size < 2 ^ 61) (hl : l.length < 2 ^ 60) (hq : ∀ d ∈ l, okDd d) (hok : okNew self nodes = true) : SoundCall Try.prog 6 [int self, .sl (nodes.map int) o1, .sl (log.map str) o2, .sl (l.map encDd) o3] M fun r M' => r = bool true ∧ M.le M' := by
  refine SoundCall.go tk6 pl6 mixed Try.func6 cb6 rfl (Nat.le_of_ble_eq_true rfl) ?_
  refine s_seq ?_
  refine s_region ?_
  refine o_q (q_as (v_raw rfl)) rfl rfl rfl ?_
  refine o_nil ?_
  refine s_seq ?_
  refine s_region ?_
  refine o_callx (snd7 _) goes7 ac_nil rfl ?_
  rintro r M0 ⟨rfl, hle⟩
  refine o_q (q_as (v_raw rfl)) rfl rfl rfl ?_
  refine o_nil ?_
  refine s_seq ?_
  refine s_region ?_
  refine o_q (q_mv (v_raw rfl)) rfl rfl rfl ?_
  refine o_q (q_mv (v_sl rfl)) rfl rfl rfl ?_
  refine o_q (q_mv (v_sl rfl)) rfl rfl rfl ?_
  refine o_callx ((newT _ _ _ hok hnl (by omega) hsz)) goes9 (ac (v_raw rfl) (ac (v_sl rfl) (ac (v_sl rfl) ac_nil))) rfl ?_
  rintro r M' ⟨y, hy0, rfl, rfl⟩
  have hy0' : M y = none := Mem.none_of_le hle hy0
  have hN := new_ok (log := log) hok
  refine o_q (q_mv (v_tup rfl)) rfl rfl rfl ?_
  refine o_q (q_ext rfl rfl ((by first | exact v_raw rfl | exact v_sptr rfl))) rfl rfl rfl ?_
  refine o_q (q_ext rfl rfl (v_raw rfl)) rfl rfl rfl ?_
  refine o_q (q_as ((by first | exact v_raw rfl | exact v_sptr rfl))) rfl rfl rfl ?_
  refine o_q (q_as (v_raw rfl)) rfl rfl rfl ?_
  refine o_nil ?_
  refine s_seq ?_
  refine s_seq ?_
  refine s_region ?_
  refine o_q (q_mv (v_raw rfl)) rfl rfl rfl ?_
  refine o_q (q_neq rfl rfl) rfl rfl rfl ?_
  refine o_q (q_mv (v_raw rfl)) rfl rfl rfl ?_
  refine o_yes rfl rfl rfl rfl ?_
  refine o_q (q_mv ((by first | exact v_raw rfl | exact v_sptr rfl))) rfl rfl rfl ?_
  refine o_yes rfl rfl rfl rfl ?_
  refine o_q (q_peql und27 rfl rfl) rfl rfl rfl ?_
  refine o_q (q_pick_c (t := false) rfl rfl (v_raw rfl)) rfl rfl rfl ?_
  refine o_nil ?_
  refine s_else rfl rfl ?_
  refine s_skip ?_
  refine s_seq ?_
  refine s_region ?_
  refine o_q (q_mv ((by first | exact v_raw rfl | exact v_sptr rfl))) rfl rfl rfl ?_
  refine o_call ((snd27 y (newO self nodes log) _ (by repeat first | exact Mem.upd_self _ _ _ | assumption | refine Mem.upd_ne (by assumption) ?_) (by show log.length + 2 ≤ _; omega))) goes27 (ac ((by first | exact v_raw rfl | exact v_sptr rfl)) ac_nil) rfl ?_
  refine o_q (q_as (v_sl rfl)) rfl rfl rfl ?_
  refine o_nil ?_
  refine s_seq ?_
  refine s_region ?_
  refine o_q (q_mv ((by first | exact v_raw rfl | exact v_sptr rfl))) rfl rfl rfl ?_
  refine o_call ((snd16 y (newO self nodes log) _ (by repeat first | exact Mem.upd_self _ _ _ | assumption | refine Mem.upd_ne (by assumption) ?_))) goes16 (ac ((by first | exact v_raw rfl | exact v_sptr rfl)) ac_nil) rfl ?_
  refine o_q (q_as (v_raw rfl)) rfl rfl rfl ?_
  refine o_nil ?_
  refine s_seq ?_
  refine s_seq ?_
  refine s_region ?_
  refine o_q (q_mv (v_raw rfl)) rfl rfl rfl ?_
  refine o_q (q_mv (v_sl rfl)) rfl rfl rfl ?_
  refine o_q (q_len rfl und22 rfl) rfl rfl rfl ?_
  refine o_q (q_neq rfl rfl) rfl rfl rfl ?_
  refine o_nil ?_
  refine s_cond rfl (fun h1 => ?_) (fun h1 => ?_)
  · have k1 := h1; try simp only [decide_eq_true_eq, decide_eq_false_iff_not, Bool.not_eq_true', Bool.not_eq_false', Bool.not_true, Bool.not_false, List.length_map, Decidable.not_not] at k1
    simp [newO] at h1
  · have k1 := h1; try simp only [decide_eq_true_eq, decide_eq_false_iff_not, Bool.not_eq_true', Bool.not_eq_false', Bool.not_true, Bool.not_false, List.length_map, Decidable.not_not] at k1
    refine s_skip ?_
    refine s_seq ?_
    refine s_seq ?_
    refine s_region ?_
    refine o_q (q_as (v_raw rfl)) rfl rfl rfl ?_
    refine o_nil ?_
    refine s_block ?_
    refine s_loop (fun m S => ∃ T, ∃ M' : Mem, ∃ o : Od, ∃ i : Nat, S = ⟨setT (setT (setT (setT (setT (setT (setT (setT (setT T 0 (int self)) 1 (.sl (nodes.map int) o1)) 2 (.sl (log.map str) o2)) 3 (.sl (l.map encDd) o3)) 9 (bool true)) 10 (ptr y)) 12 (.sl (o.log.map str) false)) 13 (int o.sure)) 14 (int (i : Nat)), M'⟩ ∧ M.le M' ∧ M' y = some (.cells (odC o)) ∧ OK o ∧ o.log.length ≤ log.length + i ∧ i ≤ 100 ∧ i ≤ l.length ∧ m = l.length - i) l.length ?_ ?_
    · exact ⟨_, _, newO self nodes log, 0, St.mkT (kp (kp (kp (kp (kp (kp (kp (kp (kp rfl rfl) rfl) rfl) rfl) rfl) rfl) rfl) rfl) rfl).symm, (by repeat first | exact hle | exact Mem.le_refl M | assumption | exact Mem.none_of_le hle (by assumption) | refine Mem.le_upd ?_ ?_), (by repeat first | exact Mem.upd_self _ _ _ | assumption | refine Mem.upd_ne (by assumption) ?_), hN, Nat.le_refl _, by omega, by omega, rfl⟩
    rintro m S ⟨T, M', o, i, rfl, hle, hy, hO, hol, hi100, hi, rfl⟩
    refine s_seq ?_
    refine s_seq ?_
    refine s_region ?_
    refine o_q (q_mv (v_raw rfl)) rfl rfl rfl ?_
    refine o_q (q_mv (v_sl rfl)) rfl rfl rfl ?_
    refine o_q (q_len rfl und40 rfl) rfl rfl rfl ?_
    refine o_q (q_lss rfl rfl) rfl rfl rfl ?_
    refine o_q (q_mv (v_raw rfl)) rfl rfl rfl ?_
    refine o_cases (want := true) (j := 4) rfl rfl (fun h2 => ?_) (fun h2 => ?_)
    · have k2 := h2; try simp only [decide_eq_true_eq, decide_eq_false_iff_not, Bool.not_eq_true', Bool.not_eq_false', Bool.not_true, Bool.not_false, List.length_map, Decidable.not_not] at k2
      refine o_yes rfl rfl rfl h2 ?_
      refine o_q (q_mv (v_raw rfl)) rfl rfl rfl ?_
      refine o_yes rfl rfl rfl h2 ?_
      refine o_q (q_lss rfl rfl) rfl rfl rfl ?_
      refine o_q (q_pick_c (t := true) rfl h2 (v_raw rfl)) rfl rfl rfl ?_
      refine o_nil ?_
      refine s_cond rfl (fun h3 => ?_) (fun h3 => ?_)
      · have k3 := h3; try simp only [decide_eq_true_eq, decide_eq_false_iff_not, Bool.not_eq_true', Bool.not_eq_false', Bool.not_true, Bool.not_false, List.length_map, Decidable.not_not] at k3
        have hqi := hq l[i] (List.getElem_mem _)
        obtain ⟨e, he, he2⟩ := pickN l[i].kind 5 (by decide)
        refine s_skip ?_
        refine s_seq ?_
        refine s_block ?_
        refine s_seq ?_
        refine s_region ?_
        refine o_q (q_mv (v_sl rfl)) rfl rfl rfl ?_
        refine o_q (q_mv (v_raw rfl)) rfl rfl rfl ?_
        refine o_q (q_idx und40 sz44 rfl rfl (by omega) (gm i (by first | omega | simp)) rfl) rfl rfl rfl ?_
        refine o_q (q_lde ag44 sz44 rfl (gm i (by first | omega | simp)) rfl rfl) rfl rfl rfl ?_
        refine o_alloc zc44 (fun B1 hB1 => ?_)
        have n1 : y ≠ B1 := Mem.fresh_ne hB1 (by repeat first | exact Mem.upd_self _ _ _ | assumption | refine Mem.upd_ne (by assumption) ?_)
        have n1' := n1.symm
        have m1 : M B1 = none := by have h := hB1; repeat (first | exact h | exact Mem.none_of_le hle h | replace h := (Mem.upd_none h).2)
        refine o_storew rfl (by repeat first | exact Mem.upd_self _ _ _ | assumption | refine Mem.upd_ne (by assumption) ?_) (by first | exact e_agg rfl | rfl) rfl sz44 rfl rfl rfl rfl ?_
        refine o_nil ?_
        refine s_seq ?_
        refine s_seq ?_
        refine s_region ?_
        refine o_q (q_fr fo44_0 rfl) rfl rfl rfl ?_
        refine o_q (q_ldm ag3 sz3 rfl (by repeat first | exact Mem.upd_self _ _ _ | assumption | refine Mem.upd_ne (by assumption) ?_) rfl (v_raw rfl)) rfl rfl rfl ?_
        refine o_call ((pickE _ he (by decide) (by decide) hqi.1)) goes8 (ac (v_raw rfl) (ac (v_raw rfl) ac_nil)) rfl ?_
        refine o_nil ?_
        refine s_cut (fun S => ∃ T, ∃ M' : Mem, ∃ o' : Od, S = ⟨setT (setT (setT (setT (setT (setT (setT (setT (setT T 0 (int self)) 1 (.sl (nodes.map int) o1)) 2 (.sl (log.map str) o2)) 3 (.sl (l.map encDd) o3)) 9 (bool true)) 10 (ptr y)) 12 (.sl (o.log.map str) false)) 13 (int o.sure)) 14 (int (i : Nat)), M'⟩ ∧ M.le M' ∧ M' y = some (.cells (odC o')) ∧ Gr o o') ?_ ?_
        · skip
          refine s_block ?_
          refine s_seq ?_
          refine s_region ?_
          refine o_q (q_eql rfl rfl) rfl rfl rfl ?_
          refine o_q (q_as (v_raw rfl)) rfl rfl rfl ?_
          refine o_nil ?_
          refine s_cond rfl (fun h4 => ?_) (fun h4 => ?_)
          · have k4 := h4; try simp only [decide_eq_true_eq, decide_eq_false_iff_not, Bool.not_eq_true', Bool.not_eq_false', Bool.not_true, Bool.not_false, List.length_map, Decidable.not_not] at k4
            refine s_region ?_
            refine o_q (q_mv ((by first | exact v_raw rfl | exact v_sptr rfl))) rfl rfl rfl ?_
            refine o_q (q_fr fo44_1 rfl) rfl rfl rfl ?_
            refine o_q (q_ldm ag9 sz9 rfl (by repeat first | exact Mem.upd_self _ _ _ | assumption | refine Mem.upd_ne (by assumption) ?_) rfl (v_raw rfl)) rfl rfl rfl ?_
            refine o_callx ((prop10 (by repeat first | exact Mem.upd_self _ _ _ | assumption | refine Mem.upd_ne (by assumption) ?_) hO hqi.2 (by omega))) goes10 (ac ((by first | exact v_raw rfl | exact v_sptr rfl)) (ac (v_raw rfl) ac_nil)) rfl ?_
            rintro r M' ⟨rfl, rfl⟩
            refine o_nil ?_
            refine s_blk_normal ?_
            refine s_inv ?_
            exact ⟨_, _, _, St.mkT (kp (kp (kp (kp (kp (kp (kp (kp (kp rfl rfl) rfl) rfl) rfl) rfl) rfl) rfl) rfl) rfl).symm, (by repeat first | exact hle | exact Mem.le_refl M | assumption | exact Mem.none_of_le hle (by assumption) | refine Mem.le_upd ?_ ?_), (by repeat first | exact Mem.upd_self _ _ _ | assumption | refine Mem.upd_ne (by assumption) ?_), (prop_gr hO)⟩
          · have k4 := h4; try simp only [decide_eq_true_eq, decide_eq_false_iff_not, Bool.not_eq_true', Bool.not_eq_false', Bool.not_true, Bool.not_false, List.length_map, Decidable.not_not] at k4
            refine s_seq ?_
            refine s_region ?_
            refine o_q (q_eql rfl rfl) rfl rfl rfl ?_
            refine o_q (q_as (v_raw rfl)) rfl rfl rfl ?_
            refine o_nil ?_
            refine s_cond rfl (fun h5 => ?_) (fun h5 => ?_)
            · have k5 := h5; try simp only [decide_eq_true_eq, decide_eq_false_iff_not, Bool.not_eq_true', Bool.not_eq_false', Bool.not_true, Bool.not_false, List.length_map, Decidable.not_not] at k5
              refine s_region ?_
              refine o_q (q_mv ((by first | exact v_raw rfl | exact v_sptr rfl))) rfl rfl rfl ?_
              refine o_q (q_fr fo44_3 rfl) rfl rfl rfl ?_
              refine o_q (q_ldm ag3 sz3 rfl (by repeat first | exact Mem.upd_self _ _ _ | assumption | refine Mem.upd_ne (by assumption) ?_) rfl (v_raw rfl)) rfl rfl rfl ?_
              refine o_q (q_fr fo44_1 rfl) rfl rfl rfl ?_
              refine o_q (q_ldm ag9 sz9 rfl (by repeat first | exact Mem.upd_self _ _ _ | assumption | refine Mem.upd_ne (by assumption) ?_) rfl (v_raw rfl)) rfl rfl rfl ?_
              refine o_callx ((add12 (by repeat first | exact Mem.upd_self _ _ _ | assumption | refine Mem.upd_ne (by assumption) ?_) hO hqi.2 (by omega))) goes12 (ac ((by first | exact v_raw rfl | exact v_sptr rfl)) (ac (v_raw rfl) (ac (v_raw rfl) ac_nil))) rfl ?_
              rintro r M' ⟨rfl, rfl⟩
              refine o_nil ?_
              refine s_blk_normal ?_
              refine s_inv ?_
              exact ⟨_, _, _, St.mkT (kp (kp (kp (kp (kp (kp (kp (kp (kp rfl rfl) rfl) rfl) rfl) rfl) rfl) rfl) rfl) rfl).symm, (by repeat first | exact hle | exact Mem.le_refl M | assumption | exact Mem.none_of_le hle (by assumption) | refine Mem.le_upd ?_ ?_), (by repeat first | exact Mem.upd_self _ _ _ | assumption | refine Mem.upd_ne (by assumption) ?_), (add_gr hO)⟩
            · have k5 := h5; try simp only [decide_eq_true_eq, decide_eq_false_iff_not, Bool.not_eq_true', Bool.not_eq_false', Bool.not_true, Bool.not_false, List.length_map, Decidable.not_not] at k5
              refine s_seq ?_
              refine s_region ?_
              refine o_q (q_eql rfl rfl) rfl rfl rfl ?_
              refine o_q (q_as (v_raw rfl)) rfl rfl rfl ?_
              refine o_nil ?_
              refine s_cond rfl (fun h6 => ?_) (fun h6 => ?_)
              · have k6 := h6; try simp only [decide_eq_true_eq, decide_eq_false_iff_not, Bool.not_eq_true', Bool.not_eq_false', Bool.not_true, Bool.not_false, List.length_map, Decidable.not_not] at k6
                refine s_region ?_
                refine o_q (q_mv ((by first | exact v_raw rfl | exact v_sptr rfl))) rfl rfl rfl ?_
                refine o_q (q_fr fo44_2 rfl) rfl rfl rfl ?_
                refine o_q (q_ldm ag3 sz3 rfl (by repeat first | exact Mem.upd_self _ _ _ | assumption | refine Mem.upd_ne (by assumption) ?_) rfl (v_raw rfl)) rfl rfl rfl ?_
                refine o_q (q_fr fo44_3 rfl) rfl rfl rfl ?_
                refine o_q (q_ldm ag3 sz3 rfl (by repeat first | exact Mem.upd_self _ _ _ | assumption | refine Mem.upd_ne (by assumption) ?_) rfl (v_raw rfl)) rfl rfl rfl ?_
                refine o_callx ((has13 (by repeat first | exact Mem.upd_self _ _ _ | assumption | refine Mem.upd_ne (by assumption) ?_) hO)) goes13 (ac ((by first | exact v_raw rfl | exact v_sptr rfl)) (ac (v_raw rfl) (ac (v_raw rfl) ac_nil))) rfl ?_
                rintro r M' ⟨rfl, rfl⟩
                refine o_nil ?_
                refine s_blk_normal ?_
                refine s_inv ?_
                exact ⟨_, _, _, St.mkT (kp (kp (kp (kp (kp (kp (kp (kp (kp rfl rfl) rfl) rfl) rfl) rfl) rfl) rfl) rfl) rfl).symm, (by repeat first | exact hle | exact Mem.le_refl M | assumption | exact Mem.none_of_le hle (by assumption) | refine Mem.le_upd ?_ ?_), (by repeat first | exact Mem.upd_self _ _ _ | assumption | refine Mem.upd_ne (by assumption) ?_), (has_gr hO)⟩
              · have k6 := h6; try simp only [decide_eq_true_eq, decide_eq_false_iff_not, Bool.not_eq_true', Bool.not_eq_false', Bool.not_true, Bool.not_false, List.length_map, Decidable.not_not] at k6
                refine s_seq ?_
                refine s_region ?_
                refine o_q (q_eql rfl rfl) rfl rfl rfl ?_
                refine o_q (q_as (v_raw rfl)) rfl rfl rfl ?_
                refine o_nil ?_
                refine s_cond rfl (fun h7 => ?_) (fun h7 => ?_)
                · have k7 := h7; try simp only [decide_eq_true_eq, decide_eq_false_iff_not, Bool.not_eq_true', Bool.not_eq_false', Bool.not_true, Bool.not_false, List.length_map, Decidable.not_not] at k7
                  refine s_region ?_
                  refine o_q (q_mv ((by first | exact v_raw rfl | exact v_sptr rfl))) rfl rfl rfl ?_
                  refine o_q (q_fr fo44_3 rfl) rfl rfl rfl ?_
                  refine o_q (q_ldm ag3 sz3 rfl (by repeat first | exact Mem.upd_self _ _ _ | assumption | refine Mem.upd_ne (by assumption) ?_) rfl (v_raw rfl)) rfl rfl rfl ?_
                  refine o_callx ((learn15 (by repeat first | exact Mem.upd_self _ _ _ | assumption | refine Mem.upd_ne (by assumption) ?_) hO)) goes15 (ac ((by first | exact v_raw rfl | exact v_sptr rfl)) (ac (v_raw rfl) ac_nil)) rfl ?_
                  rintro r M' ⟨rfl, rfl⟩
                  refine o_nil ?_
                  refine s_blk_normal ?_
                  refine s_inv ?_
                  exact ⟨_, _, _, St.mkT (kp (kp (kp (kp (kp (kp (kp (kp (kp rfl rfl) rfl) rfl) rfl) rfl) rfl) rfl) rfl) rfl).symm, (by repeat first | exact hle | exact Mem.le_refl M | assumption | exact Mem.none_of_le hle (by assumption) | refine Mem.le_upd ?_ ?_), (by repeat first | exact Mem.upd_self _ _ _ | assumption | refine Mem.upd_ne (by assumption) ?_), (learn_gr hO)⟩
                · have k7 := h7; try simp only [decide_eq_true_eq, decide_eq_false_iff_not, Bool.not_eq_true', Bool.not_eq_false', Bool.not_true, Bool.not_false, List.length_map, Decidable.not_not] at k7
                  refine s_region ?_
                  refine o_q (q_mv ((by first | exact v_raw rfl | exact v_sptr rfl))) rfl rfl rfl ?_
                  refine o_q (q_fr fo44_2 rfl) rfl rfl rfl ?_
                  refine o_q (q_ldm ag3 sz3 rfl (by repeat first | exact Mem.upd_self _ _ _ | assumption | refine Mem.upd_ne (by assumption) ?_) rfl (v_raw rfl)) rfl rfl rfl ?_
                  refine o_q (q_fr fo44_3 rfl) rfl rfl rfl ?_
                  refine o_q (q_ldm ag3 sz3 rfl (by repeat first | exact Mem.upd_self _ _ _ | assumption | refine Mem.upd_ne (by assumption) ?_) rfl (v_raw rfl)) rfl rfl rfl ?_
                  refine o_call ((wants11 (by repeat first | exact Mem.upd_self _ _ _ | assumption | refine Mem.upd_ne (by assumption) ?_) hO (by omega))) goes11 (ac ((by first | exact v_raw rfl | exact v_sptr rfl)) (ac (v_raw rfl) (ac (v_raw rfl) ac_nil))) rfl ?_
                  refine o_nil ?_
                  refine s_blk_normal ?_
                  refine s_inv ?_
                  exact ⟨_, _, _, St.mkT (kp (kp (kp (kp (kp (kp (kp (kp (kp rfl rfl) rfl) rfl) rfl) rfl) rfl) rfl) rfl) rfl).symm, (by repeat first | exact hle | exact Mem.le_refl M | assumption | exact Mem.none_of_le hle (by assumption) | refine Mem.le_upd ?_ ?_), (by repeat first | exact Mem.upd_self _ _ _ | assumption | refine Mem.upd_ne (by assumption) ?_), (Gr.refl hO)⟩
        rintro S ⟨T, M', o', rfl, hle, hy, hG⟩
        obtain ⟨t, ht, ht1⟩ := hG.log
        have hlen : o'.log.length = o.log.length + t.length := by rw [ht, List.length_append]
        have hsu := hG.sure
        have hs1 := hG.ok.sure1
        have hm' : (List.map str o'.log).length = o'.log.length := List.length_map _
        have hm : (List.map str o.log).length = o.log.length := List.length_map _
        refine s_seq ?_
        refine s_region ?_
        refine o_q (q_mv ((by first | exact v_raw rfl | exact v_sptr rfl))) rfl rfl rfl ?_
        refine o_call ((snd27 y o' _ (by repeat first | exact Mem.upd_self _ _ _ | assumption | refine Mem.upd_ne (by assumption) ?_) (by omega))) goes27 (ac ((by first | exact v_raw rfl | exact v_sptr rfl)) ac_nil) rfl ?_
        refine o_q (q_as (v_sl rfl)) rfl rfl rfl ?_
        refine o_nil ?_
        refine s_seq ?_
        refine s_seq ?_
        refine s_region ?_
        refine o_q (q_mv (v_sl rfl)) rfl rfl rfl ?_
        refine o_q (q_len rfl und22 rfl) rfl rfl rfl ?_
        refine o_q (q_mv (v_sl rfl)) rfl rfl rfl ?_
        refine o_q (q_len rfl und22 rfl) rfl rfl rfl ?_
        refine o_q (q_lss rfl rfl) rfl rfl rfl ?_
        refine o_q (q_mv (v_raw rfl)) rfl rfl rfl ?_
        refine o_yes rfl rfl rfl (decide_eq_false (by omega)) ?_
        refine o_q (q_mv (v_sl rfl)) rfl rfl rfl ?_
        refine o_yes rfl rfl rfl (decide_eq_false (by omega)) ?_
        refine o_q (q_len rfl und22 rfl) rfl rfl rfl ?_
        refine o_yes rfl rfl rfl (decide_eq_false (by omega)) ?_
        refine o_q (q_mv (v_sl rfl)) rfl rfl rfl ?_
        refine o_yes rfl rfl rfl (decide_eq_false (by omega)) ?_
        refine o_q (q_len rfl und22 rfl) rfl rfl rfl ?_
        refine o_yes rfl rfl rfl (decide_eq_false (by omega)) ?_
        refine o_q (q_add rfl rfl (wrap64 (by omega) (by omega))) rfl rfl rfl ?_
        refine o_yes rfl rfl rfl (decide_eq_false (by omega)) ?_
        refine o_q (q_gtr rfl rfl) rfl rfl rfl ?_
        refine o_q (q_pick_c (t := false) rfl (decide_eq_false (by omega)) (v_raw rfl)) rfl rfl rfl ?_
        refine o_q (q_mv (v_raw rfl)) rfl rfl rfl ?_
        refine o_yes rfl rfl rfl (decide_eq_false (by omega)) ?_
        refine o_q (q_mv (v_sl rfl)) rfl rfl rfl ?_
        refine o_yes rfl rfl rfl (decide_eq_false (by omega)) ?_
        refine o_q (q_mv (v_sl rfl)) rfl rfl rfl ?_
        refine o_yes rfl rfl rfl (decide_eq_false (by omega)) ?_
        refine o_q (q_len rfl und22 rfl) rfl rfl rfl ?_
        refine o_yes rfl rfl rfl (decide_eq_false (by omega)) ?_
        refine o_q (q_sl_hi (n := o.log.length) und22 sz9 rfl elsStr (ab rfl (by rw [List.length_map])) (by omega)) rfl rfl rfl ?_
        refine o_yes rfl rfl rfl (decide_eq_false (by omega)) ?_
        refine o_q (q_mv (v_sl rfl)) rfl rfl rfl ?_
        refine o_yes rfl rfl rfl (decide_eq_false (by omega)) ?_
        refine o_call ((snd26 (o'.log.take o.log.length) _ o.log _ _ (by rw [List.length_take]; omega))) goes26 (ac (v_sl rfl) (ac (v_sl rfl) ac_nil)) rfl ?_
        refine o_yes rfl rfl rfl (decide_eq_false (by omega)) ?_
        refine o_q (q_not rfl) rfl rfl rfl ?_
        refine o_q (q_pick_c (t := false) rfl (decide_eq_false (by omega)) (v_raw rfl)) rfl rfl rfl ?_
        refine o_q (q_mv (v_raw rfl)) rfl rfl rfl ?_
        refine o_yes rfl rfl rfl (by rw [decide_eq_true (pre_take ht)]; rfl) ?_
        refine o_q (q_mv ((by first | exact v_raw rfl | exact v_sptr rfl))) rfl rfl rfl ?_
        refine o_yes rfl rfl rfl (by rw [decide_eq_true (pre_take ht)]; rfl) ?_
        refine o_call ((snd16 y o' _ (by repeat first | exact Mem.upd_self _ _ _ | assumption | refine Mem.upd_ne (by assumption) ?_))) goes16 (ac ((by first | exact v_raw rfl | exact v_sptr rfl)) ac_nil) rfl ?_
        refine o_yes rfl rfl rfl (by rw [decide_eq_true (pre_take ht)]; rfl) ?_
        refine o_q (q_mv (v_raw rfl)) rfl rfl rfl ?_
        refine o_yes rfl rfl rfl (by rw [decide_eq_true (pre_take ht)]; rfl) ?_
        refine o_q (q_lss rfl rfl) rfl rfl rfl ?_
        refine o_q (q_pick_c (t := false) rfl (by rw [decide_eq_true (pre_take ht)]; rfl) (v_raw rfl)) rfl rfl rfl ?_
        refine o_q (q_mv (v_raw rfl)) rfl rfl rfl ?_
        refine o_yes rfl rfl rfl (decide_eq_false (by omega)) ?_
        refine o_q (q_mv ((by first | exact v_raw rfl | exact v_sptr rfl))) rfl rfl rfl ?_
        refine o_yes rfl rfl rfl (decide_eq_false (by omega)) ?_
        refine o_call ((snd16 y o' _ (by repeat first | exact Mem.upd_self _ _ _ | assumption | refine Mem.upd_ne (by assumption) ?_))) goes16 (ac ((by first | exact v_raw rfl | exact v_sptr rfl)) ac_nil) rfl ?_
        refine o_yes rfl rfl rfl (decide_eq_false (by omega)) ?_
        refine o_q (q_mv (v_sl rfl)) rfl rfl rfl ?_
        refine o_yes rfl rfl rfl (decide_eq_false (by omega)) ?_
        refine o_q (q_len rfl und22 rfl) rfl rfl rfl ?_
        refine o_yes rfl rfl rfl (decide_eq_false (by omega)) ?_
        refine o_q (q_gtr rfl rfl) rfl rfl rfl ?_
        refine o_q (q_pick_c (t := false) rfl (decide_eq_false (by omega)) (v_raw rfl)) rfl rfl rfl ?_
        refine o_q (q_mv (v_raw rfl)) rfl rfl rfl ?_
        refine o_yes rfl rfl rfl (decide_eq_false (by omega)) ?_
        refine o_q (q_mv (v_sl rfl)) rfl rfl rfl ?_
        refine o_yes rfl rfl rfl (decide_eq_false (by omega)) ?_
        refine o_q (q_len rfl und22 rfl) rfl rfl rfl ?_
        refine o_yes rfl rfl rfl (decide_eq_false (by omega)) ?_
        refine o_q (q_mv ((by first | exact v_raw rfl | exact v_sptr rfl))) rfl rfl rfl ?_
        refine o_yes rfl rfl rfl (decide_eq_false (by omega)) ?_
        refine o_call ((snd14 y o' _ (by repeat first | exact Mem.upd_self _ _ _ | assumption | refine Mem.upd_ne (by assumption) ?_))) goes14 (ac ((by first | exact v_raw rfl | exact v_sptr rfl)) ac_nil) rfl ?_
        refine o_yes rfl rfl rfl (decide_eq_false (by omega)) ?_
        refine o_q (q_neq rfl rfl) rfl rfl rfl ?_
        refine o_q (q_pick_c (t := false) rfl (decide_eq_false (by omega)) (v_raw rfl)) rfl rfl rfl ?_
        refine o_nil ?_
        refine s_else rfl (by simp) ?_
        refine s_skip ?_
        refine s_seq ?_
        refine s_region ?_
        refine o_q (q_mv (v_sl rfl)) rfl rfl rfl ?_
        refine o_q (q_as (v_sl rfl)) rfl rfl rfl ?_
        refine o_nil ?_
        refine s_region ?_
        refine o_q (q_mv ((by first | exact v_raw rfl | exact v_sptr rfl))) rfl rfl rfl ?_
        refine o_call ((snd16 y o' _ (by repeat first | exact Mem.upd_self _ _ _ | assumption | refine Mem.upd_ne (by assumption) ?_))) goes16 (ac ((by first | exact v_raw rfl | exact v_sptr rfl)) ac_nil) rfl ?_
        refine o_q (q_as (v_raw rfl)) rfl rfl rfl ?_
        refine o_nil ?_
        refine s_blk_normal ?_
        refine s_region ?_
        refine o_q (q_mv (v_raw rfl)) rfl rfl rfl ?_
        refine o_q (q_add rfl rfl (wrap64 (by omega) (by omega))) rfl rfl rfl ?_
        refine o_q (q_as (v_raw rfl)) rfl rfl rfl ?_
        refine o_nil ?_
        refine s_inv ?_
        exact ⟨l.length - (i + 1), by omega, _, _, o', i + 1, St.mkT (kp (kp (kp (kp (kp (kp (kp (kp (kp rfl rfl) rfl) rfl) rfl) rfl) rfl) rfl) rfl) rfl).symm, hle, hy, hG.ok, by omega, by omega, by omega, rfl⟩
      · have k3 := h3; try simp only [decide_eq_true_eq, decide_eq_false_iff_not, Bool.not_eq_true', Bool.not_eq_false', Bool.not_true, Bool.not_false, List.length_map, Decidable.not_not] at k3
        refine s_exit ?_
        refine s_code_exit ?_
        refine s_inv_exit ?_
        refine s_blk_here ?_
        refine s_seq ?_
        refine s_region ?_
        refine o_q (q_mv (v_raw rfl)) rfl rfl rfl ?_
        refine o_q (q_as (v_raw rfl)) rfl rfl rfl ?_
        refine o_nil ?_
        refine s_ret ?_
        refine s_end ?_
        exact ⟨rfl, (by repeat first | exact hle | exact Mem.le_refl M | assumption | exact Mem.none_of_le hle (by assumption) | refine Mem.le_upd ?_ ?_)⟩
    · have k2 := h2; try simp only [decide_eq_true_eq, decide_eq_false_iff_not, Bool.not_eq_true', Bool.not_eq_false', Bool.not_true, Bool.not_false, List.length_map, Decidable.not_not] at k2
      refine o_no rfl rfl rfl rfl h2 ?_
      refine o_no rfl rfl rfl rfl h2 ?_
      refine o_q (q_pick_c (t := false) rfl h2 (v_raw rfl)) rfl rfl rfl ?_
      refine o_nil ?_
      refine s_else rfl rfl ?_
      refine s_exit ?_
      refine s_code_exit ?_
      refine s_inv_exit ?_
      refine s_blk_here ?_
      refine s_seq ?_
      refine s_region ?_
      refine o_q (q_mv (v_raw rfl)) rfl rfl rfl ?_
      refine o_q (q_as (v_raw rfl)) rfl rfl rfl ?_
      refine o_nil ?_
      refine s_ret ?_
      refine s_end ?_
      exact ⟨rfl, (by repeat first | exact hle | exact Mem.le_refl M | assumption | exact Mem.none_of_le hle (by assumption) | refine Mem.le_upd ?_ ?_)⟩
theorem snd6 (self : Int) (nodes : List Int) (o1 : Bool) (log : List ByteArray) (o2 : Bool) (l : List Dd) (o3 : Bool) (M : Mem) (hnl : nodes.length < 2 ^ 60) (hlg : log.length + 200 ≤ 2 ^ 43) (hsz : ∀ s ∈ log, s.size < 2 ^ 61) (hl : l.length < 2 ^ 60) (hq : ∀ d ∈ l, okDd d) : SoundCall Try.prog 6 [int self, .sl (nodes.map int) o1, .sl (log.map str) o2, .sl (l.map encDd) o3] M fun r M' => r = bool true ∧ M.le M' := by
  cases hok : okNew self nodes with
  | false => exact snd6a self nodes o1 log o2 l o3 M hnl hlg hsz hl hq hok
  | true => exact snd6b self nodes o1 log o2 l o3 M hnl hlg hsz hl hq hok

end C18
