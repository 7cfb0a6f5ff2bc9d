import Derived.Test.YtkpenadcehnpjaaG18
import Derived.Test.YtkpenadcehnpjaaProg
/-! Chapter 18: orders: what their functions compute. -/
open Go Go.Proofs Go.Am
set_option linter.unusedVariables false
set_option linter.unusedSimpArgs false
set_option autoImplicit false
namespace C18
theorem by3 : bytesT Try.prog 3 = some 8 := by kernel_rfl
theorem bz50 : (zeroT Try.prog 50).map (fun z => z.cells.toList.map AVal.raw) = some [.raw (.int .i64 0), .raw (.slice none 0 0), .raw (.slice none 0 0), .raw (.int .i64 0), .raw (.int .i64 0), .raw (.slice none 0 0)] := by kernel_rfl
theorem bp50 : (aPlaces Try.prog 50).isSome = true := by kernel_rfl
theorem fo50_0 : fo Try.prog 50 0 = some (0, 1) := by kernel_rfl
theorem fo50_1 : fo Try.prog 50 1 = some (1, 1) := by kernel_rfl
theorem fo50_2 : fo Try.prog 50 2 = some (2, 1) := by kernel_rfl
theorem fo50_3 : fo Try.prog 50 3 = some (3, 1) := by kernel_rfl
theorem fo50_4 : fo Try.prog 50 4 = some (4, 1) := by kernel_rfl
theorem fo50_5 : fo Try.prog 50 5 = some (5, 1) := by kernel_rfl
theorem zc3 : zeroCellsT Try.prog 3 = some [.raw (.int .i64 0)] := by kernel_rfl
theorem zc9 : zeroCellsT Try.prog 9 = some [.raw (.string { data := #[] })] := by kernel_rfl
def tk20 : Nat → Nat → Option Nat := fun _ _ => none
def pl20 : Nat → List PStep
  | 1 => [.q 0, .q 1, .q 2, .q 3, .q 4, .q 5, .q 6, .q 7, .q 8, .q 9, .q 10, .q 11]
  | _ => []
theorem cb20 : Try.f20.body.map (codeB Try.prog Try.f20.ntmps tk20 pl20) = some true := by kernel_rfl
theorem goes20 : goesB Try.prog 20 = true := by kernel_rfl
-- (*carillon/carillonref18.Order).First params ['*carillonref18.Order'] results [['t', 2]] own [] names ['0:o', '1:o'] calls [] paths 1

structure Rf where
  self : Int
  nodes : List Int
  log : List ByteArray
  sure : Int
  base : Int
  has : List Int
def rfC (h : Nat) (x : Rf) : List AVal := [int x.self, .sl (x.nodes.map int) true, .sl (x.log.map str) true, int x.sure, int x.base, rsl h 7 7]
def firstR (x : Rf) : Bool := decide (x.nodes.head? = some x.self)
def refB (l : List ByteArray) : Int := l.foldl (fun a s => IntKind.i64.wrap (IntKind.i64.wrap (a + s.size) + 4)) 0
theorem refB_succ {l : List ByteArray} {i : Nat} (hi : i < l.length) : refB (l.take (i + 1)) = IntKind.i64.wrap (IntKind.i64.wrap (refB (l.take i) + l[i].size) + 4) := by
  rw [List.take_succ_eq_append_getElem hi, refB, List.foldl_append]; rfl
def hadR (x : Rf) (v : Int) : Int := if v = x.self then (x.log.length : Int) else max x.base (x.has.getD v.toNat 0)
def otherR (x : Rf) (v : Int) : Bool := firstR x && decide (v ∈ x.nodes) && decide (v ≠ x.self)
abbrev hsC (x : Rf) : List AVal := x.has.map fun n => (AVal.raw (.int .i64 n))
set_option maxHeartbeats 4000000 in
set_option maxRecDepth 20000 in
theorem snd20 (z h : Nat) (x : Rf) (M : Mem) (hz : M z = some (.cells (rfC h x))) (hn : x.nodes ≠ []) : SoundCall Try.prog 20 [ptr z] M fun r M' => r = bool (firstR x) ∧ M' = M := by
  obtain ⟨n0, ns, hns⟩ : ∃ n0 ns, x.nodes = n0 :: ns := by cases h : x.nodes with | nil => exact absurd h hn | cons a l => exact ⟨a, l, rfl⟩
  have hlen : 0 < x.nodes.length := by rw [hns]; simp
  refine SoundCall.go tk20 pl20 mixed Try.func20 cb20 rfl (Nat.le_of_ble_eq_true rfl) ?_
  refine s_seq ?_
  refine s_region ?_
  refine o_q (q_as (v_raw rfl)) rfl rfl rfl ?_
  refine o_nil ?_
  refine s_seq ?_
  refine s_draw rfl ?_
  refine d_q rfl (q_mv ((by first | exact v_raw rfl | exact v_sptr rfl))) rfl rfl rfl ?_
  refine d_q rfl (q_nil rfl) rfl rfl rfl ?_
  refine d_q rfl (q_fr fo50_1 rfl) rfl rfl rfl ?_
  refine d_q rfl (q_ldm ag25 sz25 rfl (by repeat first | exact Mem.upd_self _ _ _ | assumption | refine Mem.upd_ne (by assumption) ?_) rfl (v_sl rfl)) rfl rfl rfl ?_
  refine d_q rfl (q_idx und25 sz3 rfl rfl (by omega) (gm 0 (by first | omega | simp)) rfl) rfl rfl rfl ?_
  refine d_q rfl (q_ld ag3 sz3 rfl (gm 0 (by first | omega | simp)) rfl (v_raw rfl)) rfl rfl rfl ?_
  refine d_q rfl (q_mv ((by first | exact v_raw rfl | exact v_sptr rfl))) rfl rfl rfl ?_
  refine d_q rfl (q_nil rfl) rfl rfl rfl ?_
  refine d_q rfl (q_fr fo50_0 rfl) rfl rfl rfl ?_
  refine d_q rfl (q_ldm ag3 sz3 rfl (by repeat first | exact Mem.upd_self _ _ _ | assumption | refine Mem.upd_ne (by assumption) ?_) rfl (v_raw rfl)) rfl rfl rfl ?_
  refine d_q rfl (q_eql rfl rfl) rfl rfl rfl ?_
  refine d_q rfl (q_as (v_raw rfl)) rfl rfl rfl ?_
  refine d_nil ?_
  refine s_ret ?_
  refine s_end ?_
  exact ⟨congrArg bool (by unfold firstR; simp [hns]), rfl⟩

def tk28 : Nat → Nat → Option Nat := fun _ _ => none
def pl28 : Nat → List PStep := fun _ => []
theorem cb28 : Try.f28.body.map (codeB Try.prog Try.f28.ntmps tk28 pl28) = some true := by kernel_rfl
theorem goes28 : goesB Try.prog 28 = true := by kernel_rfl
-- (*carillon/carillonref18.Order).Bytes params ['*carillonref18.Order'] results [['t', 2]] own [] names ['0:o', '1:o', '3:n', '4:i'] calls [] paths 2
set_option maxHeartbeats 4000000 in
set_option maxRecDepth 20000 in
theorem snd28 (z h : Nat) (x : Rf) (M : Mem) (hz : M z = some (.cells (rfC h x))) (hlg : x.log.length < 2 ^ 60) : SoundCall Try.prog 28 [ptr z] M fun r M' => r = int (refB x.log) ∧ M' = M := by
  refine SoundCall.go tk28 pl28 mixed Try.func28 cb28 rfl (Nat.le_of_ble_eq_true rfl) ?_
  refine s_seq ?_
  refine s_region ?_
  refine o_q (q_as (v_raw rfl)) rfl rfl rfl ?_
  refine o_nil ?_
  refine s_seq ?_
  refine s_region ?_
  refine o_q (q_as (v_raw rfl)) rfl rfl rfl ?_
  refine o_nil ?_
  refine s_seq ?_
  refine s_seq ?_
  refine s_region ?_
  refine o_q (q_as (v_raw rfl)) rfl rfl rfl ?_
  refine o_nil ?_
  refine s_block ?_
  refine s_loop (fun m S => ∃ T, ∃ i : Nat, S = ⟨setT (setT (setT T 0 (ptr z)) 3 (int (refB (x.log.take i)))) 4 (int (i : Nat)), M⟩ ∧ i ≤ x.log.length ∧ m = x.log.length - i) x.log.length ?_ ?_
  · exact ⟨_, 0, St.mkT (kp (kp (kp rfl rfl) rfl) rfl).symm, by omega, rfl⟩
  rintro m S ⟨T, i, rfl, hi, rfl⟩
  refine s_seq ?_
  refine s_seq ?_
  refine s_region ?_
  refine o_q (q_mv (v_raw rfl)) rfl rfl rfl ?_
  refine o_q (q_mv ((by first | exact v_raw rfl | exact v_sptr rfl))) rfl rfl rfl ?_
  refine o_q (q_nil rfl) rfl rfl rfl ?_
  refine o_q (q_fr fo50_2 rfl) rfl rfl rfl ?_
  refine o_q (q_ldm ag22 sz22 rfl (by repeat first | exact Mem.upd_self _ _ _ | assumption | refine Mem.upd_ne (by assumption) ?_) rfl (v_sl rfl)) rfl rfl rfl ?_
  refine o_q (q_len rfl und22 rfl) rfl rfl rfl ?_
  refine o_q (q_lss rfl rfl) rfl rfl rfl ?_
  refine o_nil ?_
  refine s_cond rfl (fun h1 => ?_) (fun h1 => ?_)
  · have k1 := h1; try simp only [decide_eq_true_eq, decide_eq_false_iff_not, Bool.not_eq_true', Bool.not_eq_false', Bool.not_true, Bool.not_false, List.length_map, Decidable.not_not] at k1
    refine s_skip ?_
    refine s_seq ?_
    refine s_block ?_
    refine s_region ?_
    refine o_q (q_mv (v_raw rfl)) rfl rfl rfl ?_
    refine o_q (q_mv ((by first | exact v_raw rfl | exact v_sptr rfl))) rfl rfl rfl ?_
    refine o_q (q_nil rfl) rfl rfl rfl ?_
    refine o_q (q_fr fo50_2 rfl) rfl rfl rfl ?_
    refine o_q (q_ldm ag22 sz22 rfl (by repeat first | exact Mem.upd_self _ _ _ | assumption | refine Mem.upd_ne (by assumption) ?_) rfl (v_sl rfl)) rfl rfl rfl ?_
    refine o_q (q_mv (v_raw rfl)) rfl rfl rfl ?_
    refine o_q (q_idx und22 sz9 rfl rfl (by omega) (gm i (by first | omega | simp)) rfl) rfl rfl rfl ?_
    refine o_q (q_ld ag9 sz9 rfl (gm i (by first | omega | simp)) rfl (v_raw rfl)) rfl rfl rfl ?_
    refine o_q (q_lens rfl und9 rfl) rfl rfl rfl ?_
    refine o_q (q_addw rfl rfl) rfl rfl rfl ?_
    refine o_q (q_addw rfl rfl) rfl rfl rfl ?_
    refine o_q (q_as (v_raw rfl)) rfl rfl rfl ?_
    refine o_nil ?_
    refine s_blk_normal ?_
    refine s_region ?_
    refine o_q (q_mv (v_raw rfl)) rfl rfl rfl ?_
    refine o_q (q_add rfl rfl (wrap64 (by omega) (by omega))) rfl rfl rfl ?_
    refine o_q (q_as (v_raw rfl)) rfl rfl rfl ?_
    refine o_nil ?_
    refine s_inv ?_
    exact ⟨x.log.length - (i + 1), by omega, _, i + 1, St.mkT (kp (kp (kp rfl rfl) (congrArg int (refB_succ (by omega)).symm)) rfl).symm, by omega, rfl⟩
  · have k1 := h1; try simp only [decide_eq_true_eq, decide_eq_false_iff_not, Bool.not_eq_true', Bool.not_eq_false', Bool.not_true, Bool.not_false, List.length_map, Decidable.not_not] at k1
    refine s_exit ?_
    refine s_code_exit ?_
    refine s_inv_exit ?_
    refine s_blk_here ?_
    refine s_seq ?_
    refine s_region ?_
    refine o_q (q_mv (v_raw rfl)) rfl rfl rfl ?_
    refine o_q (q_as (v_raw rfl)) rfl rfl rfl ?_
    refine o_nil ?_
    refine s_ret ?_
    refine s_end ?_
    exact ⟨congrArg int (by rw [List.take_of_length_le (by omega)]), rfl⟩

def tk39 : Nat → Nat → Option Nat := fun _ _ => none
def pl39 : Nat → List PStep
  | 3 => [.q 0, .q 1, .q 2, .q 3, .q 4, .q 5, .q 6, .q 7, .q 8, .q 9, .q 10, .q 11, .q 12]
  | _ => []
theorem cb39 : Try.f39.body.map (codeB Try.prog Try.f39.ntmps tk39 pl39) = some true := by kernel_rfl
theorem goes39 : goesB Try.prog 39 = true := by kernel_rfl
-- (*carillon/carillonref18.Order).had params ['*carillonref18.Order', 'int'] results [['t', 4]] own [] names ['0:o', '1:node', '2:o', '3:node'] calls [] paths 2
set_option maxHeartbeats 4000000 in
set_option maxRecDepth 20000 in
theorem snd39 (z h : Nat) (x : Rf) (v : Int) (M : Mem) (hz : M z = some (.cells (rfC h x))) (hh : M h = some (.cells (hsC x))) (h7 : x.has.length = 7) (hv : 0 ≤ v ∧ v < 7) : SoundCall Try.prog 39 [ptr z, int v] M fun r M' => r = int (hadR x v) ∧ M' = M := by
  refine SoundCall.go tk39 pl39 mixed Try.func39 cb39 rfl (Nat.le_of_ble_eq_true rfl) ?_
  refine s_seq ?_
  refine s_region ?_
  refine o_q (q_as (v_raw rfl)) rfl rfl rfl ?_
  refine o_nil ?_
  refine s_seq ?_
  refine s_seq ?_
  refine s_region ?_
  refine o_q (q_mv (v_raw rfl)) rfl rfl rfl ?_
  refine o_q (q_mv ((by first | exact v_raw rfl | exact v_sptr rfl))) rfl rfl rfl ?_
  refine o_q (q_nil rfl) rfl rfl rfl ?_
  refine o_q (q_fr fo50_0 rfl) rfl rfl rfl ?_
  refine o_q (q_ldm ag3 sz3 rfl (by repeat first | exact Mem.upd_self _ _ _ | assumption | refine Mem.upd_ne (by assumption) ?_) rfl (v_raw rfl)) rfl rfl rfl ?_
  refine o_q (q_eql rfl rfl) rfl rfl rfl ?_
  refine o_nil ?_
  refine s_cond rfl (fun h1 => ?_) (fun h1 => ?_)
  · have k1 := h1; try simp only [decide_eq_true_eq, decide_eq_false_iff_not, Bool.not_eq_true', Bool.not_eq_false', Bool.not_true, Bool.not_false, List.length_map, Decidable.not_not] at k1
    refine s_seq ?_
    refine s_region ?_
    refine o_q (q_mv ((by first | exact v_raw rfl | exact v_sptr rfl))) rfl rfl rfl ?_
    refine o_q (q_nil rfl) rfl rfl rfl ?_
    refine o_q (q_fr fo50_2 rfl) rfl rfl rfl ?_
    refine o_q (q_ldm ag22 sz22 rfl (by repeat first | exact Mem.upd_self _ _ _ | assumption | refine Mem.upd_ne (by assumption) ?_) rfl (v_sl rfl)) rfl rfl rfl ?_
    refine o_q (q_len rfl und22 rfl) rfl rfl rfl ?_
    refine o_q (q_as (v_raw rfl)) rfl rfl rfl ?_
    refine o_nil ?_
    refine s_ret ?_
    refine s_code_ret ?_
    refine s_end ?_
    exact ⟨congrArg int (by unfold hadR; rw [if_pos (by assumption), List.length_map]), rfl⟩
  · have k1 := h1; try simp only [decide_eq_true_eq, decide_eq_false_iff_not, Bool.not_eq_true', Bool.not_eq_false', Bool.not_true, Bool.not_false, List.length_map, Decidable.not_not] at k1
    refine s_skip ?_
    refine s_seq ?_
    refine s_draw rfl ?_
    refine d_q rfl (q_mv ((by first | exact v_raw rfl | exact v_sptr rfl))) rfl rfl rfl ?_
    refine d_q rfl (q_nil rfl) rfl rfl rfl ?_
    refine d_q rfl (q_fr fo50_4 rfl) rfl rfl rfl ?_
    refine d_q rfl (q_ldm ag3 sz3 rfl (by repeat first | exact Mem.upd_self _ _ _ | assumption | refine Mem.upd_ne (by assumption) ?_) rfl (v_raw rfl)) rfl rfl rfl ?_
    refine d_q rfl (q_mv ((by first | exact v_raw rfl | exact v_sptr rfl))) rfl rfl rfl ?_
    refine d_q rfl (q_nil rfl) rfl rfl rfl ?_
    refine d_q rfl (q_fr fo50_5 rfl) rfl rfl rfl ?_
    refine d_q rfl (q_ldm ag25 sz25 rfl (by repeat first | exact Mem.upd_self _ _ _ | assumption | refine Mem.upd_ne (by assumption) ?_) rfl ((by first | exact v_raw rfl | exact v_sl rfl))) rfl rfl rfl ?_
    refine d_q rfl (q_mv (v_raw rfl)) rfl rfl rfl ?_
    refine d_q rfl (q_idxr und25 sz3 rfl rfl (by omega) (by omega)) rfl rfl rfl ?_
    refine d_q rfl (q_ldm ag3 sz3 rfl (by repeat first | exact Mem.upd_self _ _ _ | assumption | refine Mem.upd_ne (by assumption) ?_) (pcI (j := v.toNat) (by omega) (by omega)) (v_raw rfl)) rfl rfl rfl ?_
    refine d_q rfl (q_max rfl rfl) rfl rfl rfl ?_
    refine d_q rfl (q_as (v_raw rfl)) rfl rfl rfl ?_
    refine d_nil ?_
    refine s_ret ?_
    refine s_end ?_
    exact ⟨congrArg int (by unfold hadR; rw [if_neg (by assumption), List.getD_eq_getElem?_getD, List.getElem?_eq_getElem (by omega)]; rfl), rfl⟩

def tk38 : Nat → Nat → Option Nat := fun _ _ => none
def pl38 : Nat → List PStep := fun _ => []
theorem cb38 : Try.f38.body.map (codeB Try.prog Try.f38.ntmps tk38 pl38) = some true := by kernel_rfl
theorem goes38 : goesB Try.prog 38 = true := by kernel_rfl
-- (*carillon/carillonref18.Order).other params ['*carillonref18.Order', 'int'] results [['t', 4]] own [] names ['0:o', '1:node', '2:o', '3:node', '5:in', '6:i'] calls [20] paths 5

theorem mem_take_succ {l : List Int} {i : Nat} (hi : i < l.length) (v : Int) : (v ∈ l.take (i + 1)) ↔ (v ∈ l.take i ∨ l[i] = v) := by
  rw [List.take_succ_eq_append_getElem hi, List.mem_append, List.mem_singleton]
  exact or_congr_right ⟨fun h => h.symm, fun h => h.symm⟩
set_option maxHeartbeats 4000000 in
set_option maxRecDepth 20000 in
theorem snd38 (z h : Nat) (x : Rf) (v : Int) (M : Mem) (hz : M z = some (.cells (rfC h x))) (hn : x.nodes ≠ []) (hnl : x.nodes.length < 2 ^ 60) : SoundCall Try.prog 38 [ptr z, int v] M fun r M' => r = bool (otherR x v) ∧ M' = M := by
  refine SoundCall.go tk38 pl38 mixed Try.func38 cb38 rfl (Nat.le_of_ble_eq_true rfl) ?_
  refine s_seq ?_
  refine s_region ?_
  refine o_q (q_as (v_raw rfl)) rfl rfl rfl ?_
  refine o_nil ?_
  refine s_seq ?_
  refine s_region ?_
  refine o_q (q_as (v_raw rfl)) rfl rfl rfl ?_
  refine o_nil ?_
  refine s_seq ?_
  refine s_seq ?_
  refine s_region ?_
  refine o_q (q_as (v_raw rfl)) rfl rfl rfl ?_
  refine o_nil ?_
  refine s_block ?_
  refine s_loop (fun m S => ∃ T, ∃ i : Nat, S = ⟨setT (setT (setT (setT T 0 (ptr z)) 1 (int v)) 5 (bool (decide (v ∈ x.nodes.take i)))) 6 (int (i : Nat)), M⟩ ∧ i ≤ x.nodes.length ∧ m = x.nodes.length - i) x.nodes.length ?_ ?_
  · exact ⟨_, 0, St.mkT (kp (kp (kp (kp rfl rfl) rfl) rfl) rfl).symm, by omega, rfl⟩
  rintro m S ⟨T, i, rfl, hi, rfl⟩
  refine s_seq ?_
  refine s_seq ?_
  refine s_region ?_
  refine o_q (q_mv (v_raw rfl)) rfl rfl rfl ?_
  refine o_q (q_mv ((by first | exact v_raw rfl | exact v_sptr rfl))) rfl rfl rfl ?_
  refine o_q (q_nil rfl) rfl rfl rfl ?_
  refine o_q (q_fr fo50_1 rfl) rfl rfl rfl ?_
  refine o_q (q_ldm ag25 sz25 rfl (by repeat first | exact Mem.upd_self _ _ _ | assumption | refine Mem.upd_ne (by assumption) ?_) rfl (v_sl rfl)) rfl rfl rfl ?_
  refine o_q (q_len rfl und25 rfl) rfl rfl rfl ?_
  refine o_q (q_lss rfl rfl) rfl rfl rfl ?_
  refine o_nil ?_
  refine s_cond rfl (fun h1 => ?_) (fun h1 => ?_)
  · have k1 := h1; try simp only [decide_eq_true_eq, decide_eq_false_iff_not, Bool.not_eq_true', Bool.not_eq_false', Bool.not_true, Bool.not_false, List.length_map, Decidable.not_not] at k1
    refine s_skip ?_
    refine s_seq ?_
    refine s_block ?_
    refine s_region ?_
    refine o_q (q_mv (v_raw rfl)) rfl rfl rfl ?_
    refine o_q (q_mv (v_raw rfl)) rfl rfl rfl ?_
    refine o_cases (want := false) (j := 1) rfl rfl (fun h2 => ?_) (fun h2 => ?_)
    · have k2 := h2; try simp only [decide_eq_true_eq, decide_eq_false_iff_not, Bool.not_eq_true', Bool.not_eq_false', Bool.not_true, Bool.not_false, List.length_map, Decidable.not_not] at k2
      refine o_yes rfl rfl rfl h2 ?_
      refine o_q (q_mv ((by first | exact v_raw rfl | exact v_sptr rfl))) rfl rfl rfl ?_
      refine o_yes rfl rfl rfl h2 ?_
      refine o_q (q_nil rfl) rfl rfl rfl ?_
      refine o_yes rfl rfl rfl h2 ?_
      refine o_q (q_fr fo50_1 rfl) rfl rfl rfl ?_
      refine o_yes rfl rfl rfl h2 ?_
      refine o_q (q_ldm ag25 sz25 rfl (by repeat first | exact Mem.upd_self _ _ _ | assumption | refine Mem.upd_ne (by assumption) ?_) rfl (v_sl rfl)) rfl rfl rfl ?_
      refine o_yes rfl rfl rfl h2 ?_
      refine o_q (q_mv (v_raw rfl)) rfl rfl rfl ?_
      refine o_yes rfl rfl rfl h2 ?_
      refine o_q (q_idx und25 sz3 rfl rfl (by omega) (gm i (by first | omega | simp)) rfl) rfl rfl rfl ?_
      refine o_yes rfl rfl rfl h2 ?_
      refine o_q (q_ld ag3 sz3 rfl (gm i (by first | omega | simp)) rfl (v_raw rfl)) rfl rfl rfl ?_
      refine o_yes rfl rfl rfl h2 ?_
      refine o_q (q_mv (v_raw rfl)) rfl rfl rfl ?_
      refine o_yes rfl rfl rfl h2 ?_
      refine o_q (q_eql rfl rfl) rfl rfl rfl ?_
      refine o_q (q_pick_c (t := false) rfl h2 (v_raw rfl)) rfl rfl rfl ?_
      refine o_q (q_as (v_raw rfl)) rfl rfl rfl ?_
      refine o_nil ?_
      refine s_blk_normal ?_
      refine s_region ?_
      refine o_q (q_mv (v_raw rfl)) rfl rfl rfl ?_
      refine o_q (q_add rfl rfl (wrap64 (by omega) (by omega))) rfl rfl rfl ?_
      refine o_q (q_as (v_raw rfl)) rfl rfl rfl ?_
      refine o_nil ?_
      refine s_inv ?_
      exact ⟨x.nodes.length - (i + 1), by omega, _, i + 1, St.mkT (kp (kp (kp (kp rfl rfl) rfl) (congrArg bool (by simp_all [mem_take_succ (l := x.nodes) (i := i) (by omega) v]))) rfl).symm, by omega, rfl⟩
    · have k2 := h2; try simp only [decide_eq_true_eq, decide_eq_false_iff_not, Bool.not_eq_true', Bool.not_eq_false', Bool.not_true, Bool.not_false, List.length_map, Decidable.not_not] at k2
      refine o_no rfl rfl rfl rfl h2 ?_
      refine o_no rfl rfl rfl rfl h2 ?_
      refine o_no rfl rfl rfl rfl h2 ?_
      refine o_no rfl rfl rfl rfl h2 ?_
      refine o_no rfl rfl rfl rfl h2 ?_
      refine o_no rfl rfl rfl rfl h2 ?_
      refine o_no rfl rfl rfl rfl h2 ?_
      refine o_no rfl rfl rfl rfl h2 ?_
      refine o_no rfl rfl rfl rfl h2 ?_
      refine o_q (q_pick_c (t := true) rfl h2 (v_raw rfl)) rfl rfl rfl ?_
      refine o_q (q_as (v_raw rfl)) rfl rfl rfl ?_
      refine o_nil ?_
      refine s_blk_normal ?_
      refine s_region ?_
      refine o_q (q_mv (v_raw rfl)) rfl rfl rfl ?_
      refine o_q (q_add rfl rfl (wrap64 (by omega) (by omega))) rfl rfl rfl ?_
      refine o_q (q_as (v_raw rfl)) rfl rfl rfl ?_
      refine o_nil ?_
      refine s_inv ?_
      exact ⟨x.nodes.length - (i + 1), by omega, _, i + 1, St.mkT (kp (kp (kp (kp rfl rfl) rfl) (congrArg bool (by simp_all [mem_take_succ (l := x.nodes) (i := i) (by omega) v]))) rfl).symm, by omega, rfl⟩
  · have k1 := h1; try simp only [decide_eq_true_eq, decide_eq_false_iff_not, Bool.not_eq_true', Bool.not_eq_false', Bool.not_true, Bool.not_false, List.length_map, Decidable.not_not] at k1
    refine s_exit ?_
    refine s_code_exit ?_
    refine s_inv_exit ?_
    refine s_blk_here ?_
    refine s_seq ?_
    refine s_region ?_
    refine o_q (q_mv ((by first | exact v_raw rfl | exact v_sptr rfl))) rfl rfl rfl ?_
    refine o_call ((snd20 z h x _ hz hn)) goes20 (ac ((by first | exact v_raw rfl | exact v_sptr rfl)) ac_nil) rfl ?_
    refine o_q (q_mv (v_raw rfl)) rfl rfl rfl ?_
    refine o_cases (want := true) (j := 2) rfl rfl (fun h3 => ?_) (fun h3 => ?_)
    · have k3 := h3; try simp only [decide_eq_true_eq, decide_eq_false_iff_not, Bool.not_eq_true', Bool.not_eq_false', Bool.not_true, Bool.not_false, List.length_map, Decidable.not_not] at k3
      refine o_yes rfl rfl rfl h3 ?_
      refine o_q (q_mv (v_raw rfl)) rfl rfl rfl ?_
      refine o_q (q_pick_c (t := true) rfl h3 (v_raw rfl)) rfl rfl rfl ?_
      refine o_q (q_mv (v_raw rfl)) rfl rfl rfl ?_
      refine o_cases (want := true) (j := 5) rfl rfl (fun h4 => ?_) (fun h4 => ?_)
      · have k4 := h4; try simp only [decide_eq_true_eq, decide_eq_false_iff_not, Bool.not_eq_true', Bool.not_eq_false', Bool.not_true, Bool.not_false, List.length_map, Decidable.not_not] at k4
        refine o_yes rfl rfl rfl h4 ?_
        refine o_q (q_mv (v_raw rfl)) rfl rfl rfl ?_
        refine o_yes rfl rfl rfl h4 ?_
        refine o_q (q_mv ((by first | exact v_raw rfl | exact v_sptr rfl))) rfl rfl rfl ?_
        refine o_yes rfl rfl rfl h4 ?_
        refine o_q (q_nil rfl) rfl rfl rfl ?_
        refine o_yes rfl rfl rfl h4 ?_
        refine o_q (q_fr fo50_0 rfl) rfl rfl rfl ?_
        refine o_yes rfl rfl rfl h4 ?_
        refine o_q (q_ldm ag3 sz3 rfl (by repeat first | exact Mem.upd_self _ _ _ | assumption | refine Mem.upd_ne (by assumption) ?_) rfl (v_raw rfl)) rfl rfl rfl ?_
        refine o_yes rfl rfl rfl h4 ?_
        refine o_q (q_neq rfl rfl) rfl rfl rfl ?_
        refine o_q (q_pick_c (t := true) rfl h4 (v_raw rfl)) rfl rfl rfl ?_
        refine o_q (q_as (v_raw rfl)) rfl rfl rfl ?_
        refine o_nil ?_
        refine s_ret ?_
        refine s_end ?_
        exact ⟨congrArg bool (by have ht : x.nodes.take i = x.nodes := List.take_of_length_le (by omega); try simp only [ht] at *; unfold otherR; simp_all), rfl⟩
      · have k4 := h4; try simp only [decide_eq_true_eq, decide_eq_false_iff_not, Bool.not_eq_true', Bool.not_eq_false', Bool.not_true, Bool.not_false, List.length_map, Decidable.not_not] at k4
        refine o_no rfl rfl rfl rfl h4 ?_
        refine o_no rfl rfl rfl rfl h4 ?_
        refine o_no rfl rfl rfl rfl h4 ?_
        refine o_no rfl rfl rfl rfl h4 ?_
        refine o_no rfl rfl rfl rfl h4 ?_
        refine o_no rfl rfl rfl rfl h4 ?_
        refine o_q (q_pick_c (t := false) rfl h4 (v_raw rfl)) rfl rfl rfl ?_
        refine o_q (q_as (v_raw rfl)) rfl rfl rfl ?_
        refine o_nil ?_
        refine s_ret ?_
        refine s_end ?_
        exact ⟨congrArg bool (by have ht : x.nodes.take i = x.nodes := List.take_of_length_le (by omega); try simp only [ht] at *; unfold otherR; simp_all), rfl⟩
    · have k3 := h3; try simp only [decide_eq_true_eq, decide_eq_false_iff_not, Bool.not_eq_true', Bool.not_eq_false', Bool.not_true, Bool.not_false, List.length_map, Decidable.not_not] at k3
      refine o_no rfl rfl rfl rfl h3 ?_
      refine o_q (q_pick_c (t := false) rfl h3 (v_raw rfl)) rfl rfl rfl ?_
      refine o_q (q_mv (v_raw rfl)) rfl rfl rfl ?_
      refine o_no rfl rfl rfl rfl rfl ?_
      refine o_no rfl rfl rfl rfl rfl ?_
      refine o_no rfl rfl rfl rfl rfl ?_
      refine o_no rfl rfl rfl rfl rfl ?_
      refine o_no rfl rfl rfl rfl rfl ?_
      refine o_no rfl rfl rfl rfl rfl ?_
      refine o_q (q_pick_c (t := false) rfl rfl (v_raw rfl)) rfl rfl rfl ?_
      refine o_q (q_as (v_raw rfl)) rfl rfl rfl ?_
      refine o_nil ?_
      refine s_ret ?_
      refine s_end ?_
      exact ⟨congrArg bool (by have ht : x.nodes.take i = x.nodes := List.take_of_length_le (by omega); try simp only [ht] at *; unfold otherR; simp_all), rfl⟩

def tk37 : Nat → Nat → Option Nat := fun _ _ => none
def pl37 : Nat → List PStep := fun _ => []
theorem cb37 : Try.f37.body.map (codeB Try.prog Try.f37.ntmps tk37 pl37) = some true := by kernel_rfl
theorem goes37 : goesB Try.prog 37 = true := by kernel_rfl
-- (*carillon/carillonref18.Order).sure params ['*carillonref18.Order'] results [] own [] names ['0:o', '1:o', '2:n', '3:many', '4:i'] calls [39] paths 5

def medR (x : Rf) : Int := (sortI (x.nodes.map (hadR x))).getD ((x.nodes.length - 1) / 2) 0
def majR (x : Rf) (n : Int) : Prop := x.nodes.length < 2 * x.nodes.countP fun v => decide (n ≤ hadR x v)
theorem medR_ge {x : Rf} (h0 : 0 < x.nodes.length) (n : Int) : n ≤ medR x ↔ majR x n := by
  have := sorted_ge (l := x.nodes.map (hadR x)) (by rw [List.length_map]; exact h0) n
  rw [List.length_map, List.countP_map] at this
  exact this
theorem hadR_le {x : Rf} (hb : x.base ≤ x.log.length) (hv : ∀ v ∈ x.nodes, x.has.getD v.toNat 0 ≤ x.log.length) : ∀ v ∈ x.nodes, hadR x v ≤ x.log.length := fun v hm => by
  have := hv v hm
  unfold hadR
  split <;> omega
theorem medR_le {x : Rf} (h0 : 0 < x.nodes.length) (hb : ∀ v ∈ x.nodes, hadR x v ≤ x.log.length) : medR x ≤ x.log.length := by
  rcases Int.lt_or_le (x.log.length : Int) (medR x) with h' | h'
  · exfalso
    have := (medR_ge h0 (medR x)).1 (Int.le_refl _)
    unfold majR at this
    rw [List.countP_eq_zero.2 fun v hv => by have := hb v hv; simp; omega] at this
    omega
  · exact h'
def sureR (x : Rf) : Rf := ⟨x.self, x.nodes, x.log, max x.sure (medR x), x.base, x.has⟩
theorem cntR_succ {l : List Int} {i : Nat} (hi : i < l.length) (p : Int → Bool) : (l.take (i + 1)).countP p = (l.take i).countP p + if p l[i] then 1 else 0 := by
  rw [List.take_succ_eq_append_getElem hi, List.countP_append, List.countP_singleton]
set_option maxHeartbeats 4000000 in
set_option maxRecDepth 20000 in
theorem snd37 (z h : Nat) (x : Rf) (M : Mem) (hz : M z = some (.cells (rfC h x))) (hh : M h = some (.cells (hsC x))) (h7 : x.has.length = 7) (h0 : 0 < x.nodes.length) (hnr : ∀ n ∈ x.nodes, 0 ≤ n ∧ n < 7) (hn7 : x.nodes.length ≤ 7) (hlg : x.log.length < 2 ^ 60) (hs0 : 0 ≤ x.sure) (hsl : x.sure ≤ x.log.length) (hb : ∀ v ∈ x.nodes, hadR x v ≤ x.log.length) : SoundCall Try.prog 37 [ptr z] M fun r M' => r = .tup [] ∧ M' = M.upd z (.cells (rfC h (sureR x))) := by
  have same : M.upd z (.cells (rfC h x)) = M := Mem.upd_same hz
  have hml := medR_le h0 hb
  refine SoundCall.go tk37 pl37 mixed Try.func37 cb37 rfl (Nat.le_of_ble_eq_true rfl) ?_
  refine s_seq ?_
  refine s_region ?_
  refine o_q (q_mv ((by first | exact v_raw rfl | exact v_sptr rfl))) rfl rfl rfl ?_
  refine o_q (q_nil rfl) rfl rfl rfl ?_
  refine o_q (q_fr fo50_2 rfl) rfl rfl rfl ?_
  refine o_q (q_ldm ag22 sz22 rfl (by repeat first | exact Mem.upd_self _ _ _ | assumption | refine Mem.upd_ne (by assumption) ?_) rfl (v_sl rfl)) rfl rfl rfl ?_
  refine o_q (q_len rfl und22 rfl) rfl rfl rfl ?_
  refine o_q (q_as (v_raw rfl)) rfl rfl rfl ?_
  refine o_nil ?_
  refine s_block ?_
  refine s_loop (fun m S => ∃ T, ∃ n : Int, S = ⟨setT (setT T 0 (ptr z)) 2 (int n), M⟩ ∧ x.sure ≤ n ∧ n ≤ x.log.length ∧ (∀ k : Int, n < k → k ≤ x.log.length → ¬ majR x k) ∧ m = (n - x.sure).toNat) (x.log.length - x.sure).toNat ?_ ?_
  · exact ⟨_, x.log.length, St.mkT (kp (kp rfl rfl) (congrArg (fun n : Nat => AVal.raw (.int .i64 n)) (List.length_map _))).symm, by omega, by omega, fun k h1 h2 => by omega, rfl⟩
  rintro m S ⟨T, n, rfl, hn1, hn2, hno, rfl⟩
  refine s_seq ?_
  refine s_seq ?_
  refine s_region ?_
  refine o_q (q_mv (v_raw rfl)) rfl rfl rfl ?_
  refine o_q (q_mv ((by first | exact v_raw rfl | exact v_sptr rfl))) rfl rfl rfl ?_
  refine o_q (q_nil rfl) rfl rfl rfl ?_
  refine o_q (q_fr fo50_3 rfl) rfl rfl rfl ?_
  refine o_q (q_ldm ag3 sz3 rfl (by repeat first | exact Mem.upd_self _ _ _ | assumption | refine Mem.upd_ne (by assumption) ?_) rfl (v_raw rfl)) rfl rfl rfl ?_
  refine o_q (q_gtr rfl rfl) rfl rfl rfl ?_
  refine o_nil ?_
  refine s_cond rfl (fun h1 => ?_) (fun h1 => ?_)
  · have k1 := h1; try simp only [decide_eq_true_eq, decide_eq_false_iff_not, Bool.not_eq_true', Bool.not_eq_false', Bool.not_true, Bool.not_false, List.length_map, Decidable.not_not] at k1
    skip
    refine s_skip ?_
    refine s_seq ?_
    refine s_block ?_
    refine s_seq ?_
    refine s_region ?_
    refine o_q (q_as (v_raw rfl)) rfl rfl rfl ?_
    refine o_nil ?_
    refine s_seq ?_
    refine s_seq ?_
    refine s_region ?_
    refine o_q (q_as (v_raw rfl)) rfl rfl rfl ?_
    refine o_nil ?_
    refine s_block ?_
    refine s_loop (fun m S => ∃ T, ∃ i : Nat, S = ⟨setT (setT (setT (setT T 0 (ptr z)) 2 (int n)) 3 (int ((x.nodes.take i).countP (fun v => decide (n ≤ hadR x v)) : Nat))) 4 (int (i : Nat)), M⟩ ∧ i ≤ x.nodes.length ∧ m = x.nodes.length - i) x.nodes.length ?_ ?_
    · exact ⟨_, 0, St.mkT (kp (kp (kp (kp rfl rfl) rfl) rfl) rfl).symm, by omega, rfl⟩
    rintro m S ⟨T, i, rfl, hi, rfl⟩
    refine s_seq ?_
    refine s_seq ?_
    refine s_region ?_
    refine o_q (q_mv (v_raw rfl)) rfl rfl rfl ?_
    refine o_q (q_mv ((by first | exact v_raw rfl | exact v_sptr rfl))) rfl rfl rfl ?_
    refine o_q (q_nil rfl) rfl rfl rfl ?_
    refine o_q (q_fr fo50_1 rfl) rfl rfl rfl ?_
    refine o_q (q_ldm ag25 sz25 rfl (by repeat first | exact Mem.upd_self _ _ _ | assumption | refine Mem.upd_ne (by assumption) ?_) rfl (v_sl rfl)) rfl rfl rfl ?_
    refine o_q (q_len rfl und25 rfl) rfl rfl rfl ?_
    refine o_q (q_lss rfl rfl) rfl rfl rfl ?_
    refine o_nil ?_
    refine s_cond rfl (fun h2 => ?_) (fun h2 => ?_)
    · have k2 := h2; try simp only [decide_eq_true_eq, decide_eq_false_iff_not, Bool.not_eq_true', Bool.not_eq_false', Bool.not_true, Bool.not_false, List.length_map, Decidable.not_not] at k2
      have hvi := hnr x.nodes[i] (List.getElem_mem _)
      have hcl := List.countP_le_length (p := fun v => decide (n ≤ hadR x v)) (l := x.nodes.take i)
      rw [List.length_take] at hcl
      refine s_skip ?_
      refine s_seq ?_
      refine s_block ?_
      refine s_seq ?_
      refine s_region ?_
      refine o_q (q_mv ((by first | exact v_raw rfl | exact v_sptr rfl))) rfl rfl rfl ?_
      refine o_q (q_mv ((by first | exact v_raw rfl | exact v_sptr rfl))) rfl rfl rfl ?_
      refine o_q (q_nil rfl) rfl rfl rfl ?_
      refine o_q (q_fr fo50_1 rfl) rfl rfl rfl ?_
      refine o_q (q_ldm ag25 sz25 rfl (by repeat first | exact Mem.upd_self _ _ _ | assumption | refine Mem.upd_ne (by assumption) ?_) rfl (v_sl rfl)) rfl rfl rfl ?_
      refine o_q (q_mv (v_raw rfl)) rfl rfl rfl ?_
      refine o_q (q_idx und25 sz3 rfl rfl (by omega) (gm i (by first | omega | simp)) rfl) rfl rfl rfl ?_
      refine o_q (q_ld ag3 sz3 rfl (gm i (by first | omega | simp)) rfl (v_raw rfl)) rfl rfl rfl ?_
      refine o_call ((snd39 z h x x.nodes[i] _ hz hh h7 hvi)) goes39 (ac ((by first | exact v_raw rfl | exact v_sptr rfl)) (ac (v_raw rfl) ac_nil)) rfl ?_
      refine o_q (q_mv (v_raw rfl)) rfl rfl rfl ?_
      refine o_q (q_geq rfl rfl) rfl rfl rfl ?_
      refine o_nil ?_
      refine s_cond rfl (fun h3 => ?_) (fun h3 => ?_)
      · have k3 := h3; try simp only [decide_eq_true_eq, decide_eq_false_iff_not, Bool.not_eq_true', Bool.not_eq_false', Bool.not_true, Bool.not_false, List.length_map, Decidable.not_not] at k3
        have hcs := cntR_succ (l := x.nodes) (i := i) (by omega) (fun v => decide (n ≤ hadR x v))
        rw [if_pos (decide_eq_true (by omega))] at hcs
        refine s_region ?_
        refine o_q (q_mv (v_raw rfl)) rfl rfl rfl ?_
        refine o_q (q_add rfl rfl (wrap64 (by omega) (by omega))) rfl rfl rfl ?_
        refine o_q (q_as (v_raw rfl)) rfl rfl rfl ?_
        refine o_nil ?_
        refine s_blk_normal ?_
        refine s_region ?_
        refine o_q (q_mv (v_raw rfl)) rfl rfl rfl ?_
        refine o_q (q_add rfl rfl (wrap64 (by omega) (by omega))) rfl rfl rfl ?_
        refine o_q (q_as (v_raw rfl)) rfl rfl rfl ?_
        refine o_nil ?_
        refine s_inv ?_
        exact ⟨x.nodes.length - (i + 1), by omega, _, i + 1, St.mkT (kp (kp (kp (kp rfl rfl) rfl) (congrArg int (by omega))) rfl).symm, by omega, rfl⟩
      · have k3 := h3; try simp only [decide_eq_true_eq, decide_eq_false_iff_not, Bool.not_eq_true', Bool.not_eq_false', Bool.not_true, Bool.not_false, List.length_map, Decidable.not_not] at k3
        have hcs := cntR_succ (l := x.nodes) (i := i) (by omega) (fun v => decide (n ≤ hadR x v))
        rw [if_neg (by simp; omega)] at hcs
        refine s_skip ?_
        refine s_blk_normal ?_
        refine s_region ?_
        refine o_q (q_mv (v_raw rfl)) rfl rfl rfl ?_
        refine o_q (q_add rfl rfl (wrap64 (by omega) (by omega))) rfl rfl rfl ?_
        refine o_q (q_as (v_raw rfl)) rfl rfl rfl ?_
        refine o_nil ?_
        refine s_inv ?_
        exact ⟨x.nodes.length - (i + 1), by omega, _, i + 1, St.mkT (kp (kp (kp (kp rfl rfl) rfl) (congrArg int (by omega))) rfl).symm, by omega, rfl⟩
    · have k2 := h2; try simp only [decide_eq_true_eq, decide_eq_false_iff_not, Bool.not_eq_true', Bool.not_eq_false', Bool.not_true, Bool.not_false, List.length_map, Decidable.not_not] at k2
      obtain rfl : i = x.nodes.length := by omega
      have hcl := List.countP_le_length (p := fun v => decide (n ≤ hadR x v)) (l := x.nodes.take x.nodes.length)
      rw [List.take_length] at *
      refine s_exit ?_
      refine s_code_exit ?_
      refine s_inv_exit ?_
      refine s_blk_here ?_
      refine s_seq ?_
      refine s_region ?_
      refine o_q (q_mv (v_raw rfl)) rfl rfl rfl ?_
      refine o_q (q_mul rfl rfl (wrap64 (by omega) (by omega))) rfl rfl rfl ?_
      refine o_q (q_mv ((by first | exact v_raw rfl | exact v_sptr rfl))) rfl rfl rfl ?_
      refine o_q (q_nil rfl) rfl rfl rfl ?_
      refine o_q (q_fr fo50_1 rfl) rfl rfl rfl ?_
      refine o_q (q_ldm ag25 sz25 rfl (by repeat first | exact Mem.upd_self _ _ _ | assumption | refine Mem.upd_ne (by assumption) ?_) rfl (v_sl rfl)) rfl rfl rfl ?_
      refine o_q (q_len rfl und25 rfl) rfl rfl rfl ?_
      refine o_q (q_gtr rfl rfl) rfl rfl rfl ?_
      refine o_nil ?_
      refine s_cond rfl (fun h4 => ?_) (fun h4 => ?_)
      · have k4 := h4; try simp only [decide_eq_true_eq, decide_eq_false_iff_not, Bool.not_eq_true', Bool.not_eq_false', Bool.not_true, Bool.not_false, List.length_map, Decidable.not_not] at k4
        refine s_seq ?_
        refine s_region ?_
        refine o_q (q_mv ((by first | exact v_raw rfl | exact v_sptr rfl))) rfl rfl rfl ?_
        refine o_q (q_mv (v_raw rfl)) rfl rfl rfl ?_
        refine o_q (q_nil rfl) rfl rfl rfl ?_
        refine o_q (q_fr fo50_3 rfl) rfl rfl rfl ?_
        refine o_store rfl (by repeat first | exact Mem.upd_self _ _ _ | assumption | refine Mem.upd_ne (by assumption) ?_) (by first | exact e_raw rfl | exact e_agg rfl | exact e_sl rfl | rfl) rfl sz3 rfl (Nat.le_of_ble_eq_true rfl) rfl rfl ?_
        refine o_nil ?_
        refine s_ret ?_
        refine s_blk_ret ?_
        refine s_code_ret ?_
        refine s_inv_ret ?_
        refine s_blk_ret ?_
        refine s_end ?_
        have hmx : max x.sure (medR x) = n := by
          have g1 := (medR_ge h0 n).2 (by unfold majR; omega)
          rcases Int.lt_or_le n (medR x) with g2 | g2
          · exact absurd ((medR_ge h0 _).1 (Int.le_refl _)) (hno _ g2 hml)
          · omega
        exact ret_many (.inl rfl) rfl rl_nil rfl ⟨rfl, by unfold sureR; rw [hmx]; rfl⟩
      · have k4 := h4; try simp only [decide_eq_true_eq, decide_eq_false_iff_not, Bool.not_eq_true', Bool.not_eq_false', Bool.not_true, Bool.not_false, List.length_map, Decidable.not_not] at k4
        refine s_skip ?_
        refine s_blk_normal ?_
        refine s_region ?_
        refine o_q (q_mv (v_raw rfl)) rfl rfl rfl ?_
        refine o_q (q_sub rfl rfl (wrap64 (by omega) (by omega))) rfl rfl rfl ?_
        refine o_q (q_as (v_raw rfl)) rfl rfl rfl ?_
        refine o_nil ?_
        refine s_inv ?_
        exact ⟨(n - 1 - x.sure).toNat, by omega, _, n - 1, St.mkT (kp (kp rfl rfl) rfl).symm, by omega, by omega, fun k h1 h2 => by (by_cases e : k = n; (subst e; unfold majR; omega); exact hno k (by omega) h2), rfl⟩
  · have k1 := h1; try simp only [decide_eq_true_eq, decide_eq_false_iff_not, Bool.not_eq_true', Bool.not_eq_false', Bool.not_true, Bool.not_false, List.length_map, Decidable.not_not] at k1
    refine s_exit ?_
    refine s_code_exit ?_
    refine s_inv_exit ?_
    refine s_blk_here ?_
    refine s_end ?_
    have hmx : max x.sure (medR x) = x.sure := by
      rcases Int.lt_or_le x.sure (medR x) with g2 | g2
      · exact absurd ((medR_ge h0 _).1 (Int.le_refl _)) (hno _ (by omega) hml)
      · omega
    exact ret_many (.inr rfl) rfl rl_nil rfl ⟨rfl, by unfold sureR; rw [hmx]; exact same.symm⟩

def tk21 : Nat → Nat → Option Nat
  | 5, 4 => some 0
  | _, _ => none
def pl21 : Nat → List PStep := fun _ => []
theorem cb21 : Try.f21.body.map (codeB Try.prog Try.f21.ntmps tk21 pl21) = some true := by kernel_rfl
theorem goes21 : goesB Try.prog 21 = true := by kernel_rfl
-- (*carillon/carillonref18.Order).Propose params ['*carillonref18.Order', 'string'] results [['t', 4], ['t', 5]] own [20] names ['0:o', '1:s', '2:o', '3:s'] calls [20, 28, 37] paths 3

structure RK (x : Rf) : Prop where
  ne : x.nodes ≠ []
  nr : ∀ n ∈ x.nodes, 0 ≤ n ∧ n < 7
  n7 : x.nodes.length ≤ 7
  has : x.has.length = 7
  sure0 : 0 ≤ x.sure
  sure1 : x.sure ≤ x.log.length
  had : ∀ v ∈ x.nodes, hadR x v ≤ x.log.length
theorem RK.h0 {x : Rf} (h : RK x) : 0 < x.nodes.length := List.length_pos_iff.2 h.ne
def appR (x : Rf) (s : ByteArray) : Rf := ⟨x.self, x.nodes, x.log ++ [s], x.sure, x.base, x.has⟩
def bytesR (x : Rf) (s : ByteArray) : Int := IntKind.i64.wrap (IntKind.i64.wrap (refB x.log + s.size) + 4)
theorem RK.app {x : Rf} (h : RK x) (s : ByteArray) : RK (appR x s) := by
  have hl : (x.log ++ [s]).length = x.log.length + 1 := by simp
  refine ⟨h.ne, h.nr, h.n7, h.has, h.sure0, by have := h.sure1; show x.sure ≤ ((x.log ++ [s]).length : Int); omega, fun v hv => ?_⟩
  have := h.had v hv
  show (if v = x.self then ((x.log ++ [s]).length : Int) else max x.base (x.has.getD v.toNat 0)) ≤ ((x.log ++ [s]).length : Int)
  unfold hadR at this
  split
  · exact Int.le_refl _
  · rename_i e; rw [if_neg e] at this; omega
theorem RK.sure {x : Rf} (h : RK x) : RK (sureR x) := by
  have := medR_le h.h0 h.had
  have := h.sure0; have := h.sure1
  exact ⟨h.ne, h.nr, h.n7, h.has, by show 0 ≤ max x.sure (medR x); omega, by show max x.sure (medR x) ≤ x.log.length; omega, h.had⟩
def propR (x : Rf) (s : ByteArray) : Rf × Int × Int := if firstR x then (if 45000 < bytesR x s then (x, 0, 8) else (sureR (appR x s), x.log.length, 0)) else (x, 0, 11)
theorem sure37 {z h : Nat} {x : Rf} {M : Mem} (hz : M z = some (.cells (rfC h x))) (hh : M h = some (.cells (hsC x))) (hk : RK x) (hlg : x.log.length < 2 ^ 60) : SoundCall Try.prog 37 [ptr z] M fun r M' => r = .tup [] ∧ M' = M.upd z (.cells (rfC h (sureR x))) := snd37 z h x M hz hh hk.has hk.h0 hk.nr hk.n7 hlg hk.sure0 hk.sure1 hk.had
set_option maxHeartbeats 4000000 in
set_option maxRecDepth 20000 in
theorem snd21 (z h : Nat) (x : Rf) (s : ByteArray) (M : Mem) (hz : M z = some (.cells (rfC h x))) (hh : M h = some (.cells (hsC x))) (hzh : z ≠ h) (hk : RK x) (hs : s.size < 2 ^ 61) (hlg : x.log.length + 2 ≤ 2 ^ 43) : SoundCall Try.prog 21 [ptr z, str s] M fun r M' => r = .tup [int (propR x s).2.1, int (propR x s).2.2] ∧ M' = M.upd z (.cells (rfC h (propR x s).1)) := by
  have hM2 := hzh.symm
  have same : M.upd z (.cells (rfC h x)) = M := Mem.upd_same hz
  have hml : (List.map str (x.log ++ [s])).length = x.log.length + 1 := by simp
  have hml2 : (List.map str (sureR (appR x s)).log).length = x.log.length + 1 := hml
  refine SoundCall.go tk21 pl21 mixed Try.func21 cb21 rfl (Nat.le_of_ble_eq_true rfl) ?_
  refine s_seq ?_
  refine s_region ?_
  refine o_q (q_as (v_raw rfl)) rfl rfl rfl ?_
  refine o_q (q_as (v_raw rfl)) rfl rfl rfl ?_
  refine o_nil ?_
  refine s_seq ?_
  refine s_seq ?_
  refine s_region ?_
  refine o_q (q_mv ((by first | exact v_raw rfl | exact v_sptr rfl))) rfl rfl rfl ?_
  refine o_call ((snd20 z h x _ hz hk.ne)) goes20 (ac ((by first | exact v_raw rfl | exact v_sptr rfl)) ac_nil) rfl ?_
  refine o_q (q_not rfl) rfl rfl rfl ?_
  refine o_nil ?_
  refine s_cond rfl (fun h1 => ?_) (fun h1 => ?_)
  · have k1 := h1; try simp only [decide_eq_true_eq, decide_eq_false_iff_not, Bool.not_eq_true', Bool.not_eq_false', Bool.not_true, Bool.not_false, List.length_map, Decidable.not_not] at k1
    refine s_seq ?_
    refine s_region ?_
    refine o_q (q_as (v_raw rfl)) rfl rfl rfl ?_
    refine o_q (q_as (v_raw rfl)) rfl rfl rfl ?_
    refine o_nil ?_
    refine s_ret ?_
    refine s_code_ret ?_
    refine s_end ?_
    have e : propR x s = (x, 0, 11) := by unfold propR; rw [if_neg (by simp [k1])]
    rw [e]
    exact ret_many (.inl rfl) rfl (rl_t rfl (rl_t rfl rl_nil)) rfl ⟨rfl, same.symm⟩
  · have k1 := h1; try simp only [decide_eq_true_eq, decide_eq_false_iff_not, Bool.not_eq_true', Bool.not_eq_false', Bool.not_true, Bool.not_false, List.length_map, Decidable.not_not] at k1
    refine s_skip ?_
    refine s_seq ?_
    refine s_seq ?_
    refine s_region ?_
    refine o_q (q_mv ((by first | exact v_raw rfl | exact v_sptr rfl))) rfl rfl rfl ?_
    refine o_call ((snd28 z h x _ hz (by omega))) goes28 (ac ((by first | exact v_raw rfl | exact v_sptr rfl)) ac_nil) rfl ?_
    refine o_q (q_mv (v_raw rfl)) rfl rfl rfl ?_
    refine o_q (q_lens rfl und9 rfl) rfl rfl rfl ?_
    refine o_q (q_addw rfl rfl) rfl rfl rfl ?_
    refine o_q (q_addw rfl rfl) rfl rfl rfl ?_
    refine o_q (q_gtr rfl rfl) rfl rfl rfl ?_
    refine o_nil ?_
    refine s_cond rfl (fun h2 => ?_) (fun h2 => ?_)
    · have k2 := h2; try simp only [decide_eq_true_eq, decide_eq_false_iff_not, Bool.not_eq_true', Bool.not_eq_false', Bool.not_true, Bool.not_false, List.length_map, Decidable.not_not] at k2
      refine s_seq ?_
      refine s_region ?_
      refine o_q (q_as (v_raw rfl)) rfl rfl rfl ?_
      refine o_q (q_as (v_raw rfl)) rfl rfl rfl ?_
      refine o_nil ?_
      refine s_ret ?_
      refine s_code_ret ?_
      refine s_end ?_
      have e : propR x s = (x, 0, 8) := by
        unfold propR bytesR; rw [if_pos k1, if_pos (by assumption)]
      rw [e]
      exact ret_many (.inl rfl) rfl (rl_t rfl (rl_t rfl rl_nil)) rfl ⟨rfl, same.symm⟩
    · have k2 := h2; try simp only [decide_eq_true_eq, decide_eq_false_iff_not, Bool.not_eq_true', Bool.not_eq_false', Bool.not_true, Bool.not_false, List.length_map, Decidable.not_not] at k2
      refine s_skip ?_
      refine s_seq ?_
      refine s_region ?_
      refine o_q (q_mv ((by first | exact v_raw rfl | exact v_sptr rfl))) rfl rfl rfl ?_
      refine o_q (q_mv ((by first | exact v_raw rfl | exact v_sptr rfl))) rfl rfl rfl ?_
      refine o_q (q_nil rfl) rfl rfl rfl ?_
      refine o_q (q_fr fo50_2 rfl) rfl rfl rfl ?_
      refine o_take rfl rfl (by repeat first | exact Mem.upd_self _ _ _ | assumption | refine Mem.upd_ne (by assumption) ?_) rfl ag22 sz22 ?_
      refine o_q (q_mv (v_raw rfl)) rfl rfl rfl ?_
      refine o_q (q_bs slt22 (pc (v_raw rfl) pn) rfl (Els.cons rfl rfl Els.nil) (by decide)) rfl rfl rfl ?_
      refine o_qs (q_app slt22 rfl rfl rfl rfl (by first | exact elsStr | exact Els.cons rfl rfl Els.nil) (by first | exact (by first | exact elsStr | exact Els.cons rfl rfl Els.nil) | exact Els.cons rfl rfl Els.nil) (by simp; omega)) rfl rfl rfl rfl ?_
      refine o_q (q_nil rfl) rfl rfl rfl ?_
      refine o_q (q_fr fo50_2 rfl) rfl rfl rfl ?_
      refine o_store_own rfl (by repeat first | exact Mem.upd_self _ _ _ | assumption | refine Mem.upd_ne (by assumption) ?_) rfl sz22 (Nat.le_of_ble_eq_true rfl) ?_
      refine o_nil ?_
      refine s_seq ?_
      refine s_region ?_
      refine o_q (q_mv ((by first | exact v_raw rfl | exact v_sptr rfl))) rfl rfl rfl ?_
      refine o_callx ((sure37 (h := h) (x := appR x s) (by repeat first | exact ((Mem.upd_self _ _ _).trans (congrArg (fun l => some (AObj.cells l)) (show _ = rfC h (appR x s) by unfold rfC appR; rw [List.map_append]; rfl))) | exact Mem.upd_self _ _ _ | assumption | refine Mem.upd_ne (by assumption) ?_) (by repeat first | exact Mem.upd_self _ _ _ | assumption | refine Mem.upd_ne (by assumption) ?_) (hk.app s) (by show (x.log ++ [s]).length < _; simp; omega))) goes37 (ac ((by first | exact v_raw rfl | exact v_sptr rfl)) ac_nil) rfl ?_
      rintro r M' ⟨rfl, rfl⟩
      refine o_nil ?_
      refine s_seq ?_
      refine s_region ?_
      refine o_q (q_mv ((by first | exact v_raw rfl | exact v_sptr rfl))) rfl rfl rfl ?_
      refine o_q (q_nil rfl) rfl rfl rfl ?_
      refine o_q (q_fr fo50_2 rfl) rfl rfl rfl ?_
      refine o_q (q_ldm ag22 sz22 rfl (by repeat first | exact Mem.upd_self _ _ _ | assumption | refine Mem.upd_ne (by assumption) ?_) rfl (v_sl rfl)) rfl rfl rfl ?_
      refine o_q (q_len rfl und22 rfl) rfl rfl rfl ?_
      refine o_q (q_sub rfl rfl (wrap64 (by omega) (by omega))) rfl rfl rfl ?_
      refine o_q (q_as (v_raw rfl)) rfl rfl rfl ?_
      refine o_q (q_as (v_raw rfl)) rfl rfl rfl ?_
      refine o_nil ?_
      refine s_ret ?_
      refine s_end ?_
      have e : propR x s = (sureR (appR x s), (x.log.length : Int), 0) := by
        unfold propR bytesR; rw [if_pos k1, if_neg (by assumption)]
      rw [e]
      exact ret_many (.inl rfl) rfl (rl_t rfl (rl_t rfl rl_nil)) rfl ⟨congrArg (fun n => AVal.tup [int n, int 0]) (by show ((List.map str (sureR (appR x s)).log).length : Int) - 1 = x.log.length; rw [hml2]; omega), by simp only [Mem.upd_upd]⟩

def tk22 : Nat → Nat → Option Nat
  | 3, 4 => some 0
  | _, _ => none
def pl22 : Nat → List PStep := fun _ => []
theorem cb22 : Try.f22.body.map (codeB Try.prog Try.f22.ntmps tk22 pl22) = some true := by kernel_rfl
theorem goes22 : goesB Try.prog 22 = true := by kernel_rfl
-- (*carillon/carillonref18.Order).Add params ['*carillonref18.Order', 'int', 'string'] results [['t', 6]] own [31] names ['0:o', '1:i', '2:s', '3:o', '4:i', '5:s'] calls [20, 28] paths 4
def addR (x : Rf) (i : Int) (s : ByteArray) : Rf × Bool := if firstR x = true ∨ i ≠ x.log.length ∨ 45000 < bytesR x s then (x, false) else (appR x s, true)
set_option maxHeartbeats 4000000 in
set_option maxRecDepth 20000 in
theorem snd22 (z h : Nat) (x : Rf) (i : Int) (s : ByteArray) (M : Mem) (hz : M z = some (.cells (rfC h x))) (hn : x.nodes ≠ []) (hs : s.size < 2 ^ 61) (hlg : x.log.length + 2 ≤ 2 ^ 43) : SoundCall Try.prog 22 [ptr z, int i, str s] M fun r M' => r = bool (addR x i s).2 ∧ M' = M.upd z (.cells (rfC h (addR x i s).1)) := by
  have same : M.upd z (.cells (rfC h x)) = M := Mem.upd_same hz
  refine SoundCall.go tk22 pl22 mixed Try.func22 cb22 rfl (Nat.le_of_ble_eq_true rfl) ?_
  refine s_seq ?_
  refine s_region ?_
  refine o_q (q_as (v_raw rfl)) rfl rfl rfl ?_
  refine o_nil ?_
  refine s_seq ?_
  refine s_seq ?_
  refine s_region ?_
  refine o_q (q_mv ((by first | exact v_raw rfl | exact v_sptr rfl))) rfl rfl rfl ?_
  refine o_call ((snd20 z h x _ hz hn)) goes20 (ac ((by first | exact v_raw rfl | exact v_sptr rfl)) ac_nil) rfl ?_
  refine o_q (q_mv (v_raw rfl)) rfl rfl rfl ?_
  refine o_cases (want := false) (j := 2) rfl rfl (fun h1 => ?_) (fun h1 => ?_)
  · have k1 := h1; try simp only [decide_eq_true_eq, decide_eq_false_iff_not, Bool.not_eq_true', Bool.not_eq_false', Bool.not_true, Bool.not_false, List.length_map, Decidable.not_not] at k1
    refine o_yes rfl rfl rfl h1 ?_
    refine o_q (q_mv (v_raw rfl)) rfl rfl rfl ?_
    refine o_yes rfl rfl rfl h1 ?_
    refine o_q (q_mv ((by first | exact v_raw rfl | exact v_sptr rfl))) rfl rfl rfl ?_
    refine o_yes rfl rfl rfl h1 ?_
    refine o_q (q_nil rfl) rfl rfl rfl ?_
    refine o_yes rfl rfl rfl h1 ?_
    refine o_q (q_fr fo50_2 rfl) rfl rfl rfl ?_
    refine o_yes rfl rfl rfl h1 ?_
    refine o_q (q_ldm ag22 sz22 rfl (by repeat first | exact Mem.upd_self _ _ _ | assumption | refine Mem.upd_ne (by assumption) ?_) rfl (v_sl rfl)) rfl rfl rfl ?_
    refine o_yes rfl rfl rfl h1 ?_
    refine o_q (q_len rfl und22 rfl) rfl rfl rfl ?_
    refine o_yes rfl rfl rfl h1 ?_
    refine o_q (q_neq rfl rfl) rfl rfl rfl ?_
    refine o_q (q_pick_c (t := false) rfl h1 (v_raw rfl)) rfl rfl rfl ?_
    refine o_q (q_mv (v_raw rfl)) rfl rfl rfl ?_
    refine o_cases (want := false) (j := 11) rfl rfl (fun h2 => ?_) (fun h2 => ?_)
    · have k2 := h2; try simp only [decide_eq_true_eq, decide_eq_false_iff_not, Bool.not_eq_true', Bool.not_eq_false', Bool.not_true, Bool.not_false, List.length_map, Decidable.not_not] at k2
      refine o_yes rfl rfl rfl h2 ?_
      refine o_q (q_mv ((by first | exact v_raw rfl | exact v_sptr rfl))) rfl rfl rfl ?_
      refine o_yes rfl rfl rfl h2 ?_
      refine o_call ((snd28 z h x _ hz (by omega))) goes28 (ac ((by first | exact v_raw rfl | exact v_sptr rfl)) ac_nil) rfl ?_
      refine o_yes rfl rfl rfl h2 ?_
      refine o_q (q_mv (v_raw rfl)) rfl rfl rfl ?_
      refine o_yes rfl rfl rfl h2 ?_
      refine o_q (q_lens rfl und9 rfl) rfl rfl rfl ?_
      refine o_yes rfl rfl rfl h2 ?_
      refine o_q (q_addw rfl rfl) rfl rfl rfl ?_
      refine o_yes rfl rfl rfl h2 ?_
      refine o_q (q_addw rfl rfl) rfl rfl rfl ?_
      refine o_yes rfl rfl rfl h2 ?_
      refine o_q (q_gtr rfl rfl) rfl rfl rfl ?_
      refine o_q (q_pick_c (t := false) rfl h2 (v_raw rfl)) rfl rfl rfl ?_
      refine o_nil ?_
      refine s_cond rfl (fun h3 => ?_) (fun h3 => ?_)
      · have k3 := h3; try simp only [decide_eq_true_eq, decide_eq_false_iff_not, Bool.not_eq_true', Bool.not_eq_false', Bool.not_true, Bool.not_false, List.length_map, Decidable.not_not] at k3
        refine s_seq ?_
        refine s_region ?_
        refine o_q (q_as (v_raw rfl)) rfl rfl rfl ?_
        refine o_nil ?_
        refine s_ret ?_
        refine s_code_ret ?_
        refine s_end ?_
        unfold addR bytesR
        split
        · first | exact ⟨rfl, same.symm⟩ | (exfalso; rename_i hc; rcases hc with hc | hc | hc <;> simp_all; done)
        · first | exact ⟨rfl, by simp only [Mem.upd_upd]; congr 2; unfold rfC appR; rw [List.map_append]; rfl⟩ | (exfalso; rename_i hc; exact hc (by simp_all))
      · have k3 := h3; try simp only [decide_eq_true_eq, decide_eq_false_iff_not, Bool.not_eq_true', Bool.not_eq_false', Bool.not_true, Bool.not_false, List.length_map, Decidable.not_not] at k3
        refine s_skip ?_
        refine s_seq ?_
        refine s_region ?_
        refine o_q (q_mv ((by first | exact v_raw rfl | exact v_sptr rfl))) rfl rfl rfl ?_
        refine o_q (q_mv ((by first | exact v_raw rfl | exact v_sptr rfl))) rfl rfl rfl ?_
        refine o_q (q_nil rfl) rfl rfl rfl ?_
        refine o_q (q_fr fo50_2 rfl) rfl rfl rfl ?_
        refine o_take rfl rfl (by repeat first | exact Mem.upd_self _ _ _ | assumption | refine Mem.upd_ne (by assumption) ?_) rfl ag22 sz22 ?_
        refine o_q (q_mv (v_raw rfl)) rfl rfl rfl ?_
        refine o_q (q_bs slt22 (pc (v_raw rfl) pn) rfl (Els.cons rfl rfl Els.nil) (by decide)) rfl rfl rfl ?_
        refine o_qs (q_app slt22 rfl rfl rfl rfl (by first | exact elsStr | exact Els.cons rfl rfl Els.nil) (by first | exact (by first | exact elsStr | exact Els.cons rfl rfl Els.nil) | exact Els.cons rfl rfl Els.nil) (by simp; omega)) rfl rfl rfl rfl ?_
        refine o_q (q_nil rfl) rfl rfl rfl ?_
        refine o_q (q_fr fo50_2 rfl) rfl rfl rfl ?_
        refine o_store_own rfl (by repeat first | exact Mem.upd_self _ _ _ | assumption | refine Mem.upd_ne (by assumption) ?_) rfl sz22 (Nat.le_of_ble_eq_true rfl) ?_
        refine o_nil ?_
        refine s_seq ?_
        refine s_region ?_
        refine o_q (q_as (v_raw rfl)) rfl rfl rfl ?_
        refine o_nil ?_
        refine s_ret ?_
        refine s_end ?_
        unfold addR bytesR
        split
        · first | exact ⟨rfl, same.symm⟩ | (exfalso; rename_i hc; rcases hc with hc | hc | hc <;> simp_all; done)
        · first | exact ⟨rfl, by simp only [Mem.upd_upd]; congr 2; unfold rfC appR; rw [List.map_append]; rfl⟩ | (exfalso; rename_i hc; exact hc (by simp_all))
    · have k2 := h2; try simp only [decide_eq_true_eq, decide_eq_false_iff_not, Bool.not_eq_true', Bool.not_eq_false', Bool.not_true, Bool.not_false, List.length_map, Decidable.not_not] at k2
      refine o_no rfl rfl rfl rfl h2 ?_
      refine o_no rfl rfl rfl rfl h2 ?_
      refine o_no rfl rfl rfl rfl h2 ?_
      refine o_no rfl rfl rfl rfl h2 ?_
      refine o_no rfl rfl rfl rfl h2 ?_
      refine o_no rfl rfl rfl rfl h2 ?_
      refine o_no rfl rfl rfl rfl h2 ?_
      refine o_q (q_pick_c (t := true) rfl h2 (v_raw rfl)) rfl rfl rfl ?_
      refine o_nil ?_
      refine s_then rfl rfl ?_
      refine s_seq ?_
      refine s_region ?_
      refine o_q (q_as (v_raw rfl)) rfl rfl rfl ?_
      refine o_nil ?_
      refine s_ret ?_
      refine s_code_ret ?_
      refine s_end ?_
      unfold addR bytesR
      split
      · first | exact ⟨rfl, same.symm⟩ | (exfalso; rename_i hc; rcases hc with hc | hc | hc <;> simp_all; done)
      · first | exact ⟨rfl, by simp only [Mem.upd_upd]; congr 2; unfold rfC appR; rw [List.map_append]; rfl⟩ | (exfalso; rename_i hc; exact hc (by simp_all))
  · have k1 := h1; try simp only [decide_eq_true_eq, decide_eq_false_iff_not, Bool.not_eq_true', Bool.not_eq_false', Bool.not_true, Bool.not_false, List.length_map, Decidable.not_not] at k1
    refine o_no rfl rfl rfl rfl h1 ?_
    refine o_no rfl rfl rfl rfl h1 ?_
    refine o_no rfl rfl rfl rfl h1 ?_
    refine o_no rfl rfl rfl rfl h1 ?_
    refine o_no rfl rfl rfl rfl h1 ?_
    refine o_no rfl rfl rfl rfl h1 ?_
    refine o_no rfl rfl rfl rfl h1 ?_
    refine o_q (q_pick_c (t := true) rfl h1 (v_raw rfl)) rfl rfl rfl ?_
    refine o_q (q_mv (v_raw rfl)) rfl rfl rfl ?_
    refine o_no rfl rfl rfl rfl rfl ?_
    refine o_no rfl rfl rfl rfl rfl ?_
    refine o_no rfl rfl rfl rfl rfl ?_
    refine o_no rfl rfl rfl rfl rfl ?_
    refine o_no rfl rfl rfl rfl rfl ?_
    refine o_no rfl rfl rfl rfl rfl ?_
    refine o_no rfl rfl rfl rfl rfl ?_
    refine o_q (q_pick_c (t := true) rfl rfl (v_raw rfl)) rfl rfl rfl ?_
    refine o_nil ?_
    refine s_then rfl rfl ?_
    refine s_seq ?_
    refine s_region ?_
    refine o_q (q_as (v_raw rfl)) rfl rfl rfl ?_
    refine o_nil ?_
    refine s_ret ?_
    refine s_code_ret ?_
    refine s_end ?_
    unfold addR bytesR
    split
    · first | exact ⟨rfl, same.symm⟩ | (exfalso; rename_i hc; rcases hc with hc | hc | hc <;> simp_all; done)
    · first | exact ⟨rfl, by simp only [Mem.upd_upd]; congr 2; unfold rfC appR; rw [List.map_append]; rfl⟩ | (exfalso; rename_i hc; exact hc (by simp_all))

def tk23 : Nat → Nat → Option Nat := fun _ _ => none
def pl23 : Nat → List PStep
  | 4 => [.q 0, .q 1, .q 2, .q 3, .q 4, .q 5, .q 6, .q 7, .q 8, .q 9, .q 10, .q 11, .q 12, .q 13, .q 14, .s 15 []]
  | _ => []
theorem cb23 : Try.f23.body.map (codeB Try.prog Try.f23.ntmps tk23 pl23) = some true := by kernel_rfl
theorem goes23 : goesB Try.prog 23 = true := by kernel_rfl
-- (*carillon/carillonref18.Order).Has params ['*carillonref18.Order', 'int', 'int'] results [['t', 6]] own [] names ['0:o', '1:node', '2:n', '3:o', '4:node', '5:n', '7:other'] calls [37, 38] paths 4

def setR (x : Rf) (v n : Int) : Rf := ⟨x.self, x.nodes, x.log, x.sure, x.base, x.has.set v.toNat (max (x.has.getD v.toNat 0) n)⟩
def hasR (x : Rf) (v n : Int) : Rf × Bool := if otherR x v = true ∧ 0 ≤ n ∧ n ≤ x.log.length then (sureR (setR x v n), true) else (x, false)
theorem otherR_mem {x : Rf} {v : Int} (h : otherR x v = true) : firstR x = true ∧ v ∈ x.nodes ∧ v ≠ x.self := by
  unfold otherR at h
  simp only [Bool.and_eq_true, decide_eq_true_eq] at h
  exact ⟨h.1.1, h.1.2, h.2⟩
theorem getD_set {l : List Int} {v w : Int} {n : Int} (hv : 0 ≤ v ∧ v < 7) (hw : 0 ≤ w ∧ w < 7) (h7 : l.length = 7) : (l.set v.toNat n).getD w.toNat 0 = if w = v then n else l.getD w.toNat 0 := by
  rw [List.getD_eq_getElem?_getD, List.getElem?_set]
  by_cases e : w = v
  · subst e; rw [if_pos rfl, if_pos rfl, if_pos (by omega)]; rfl
  · rw [if_neg (by omega), if_neg e, List.getD_eq_getElem?_getD]
theorem RK.set {x : Rf} (h : RK x) {v n : Int} (ho : otherR x v = true) (hn : n ≤ x.log.length) : RK (setR x v n) := by
  have hm := otherR_mem ho
  refine ⟨h.ne, h.nr, h.n7, by simp [setR, h.has], h.sure0, h.sure1, fun w hw => ?_⟩
  have h1 := h.had w hw
  have h2 := h.had v hm.2.1
  show (if w = x.self then (x.log.length : Int) else max x.base ((x.has.set v.toNat (max (x.has.getD v.toNat 0) n)).getD w.toNat 0)) ≤ x.log.length
  rw [getD_set (h.nr v hm.2.1) (h.nr w hw) h.has]
  unfold hadR at h1 h2
  rw [if_neg hm.2.2] at h2
  split
  · exact Int.le_refl _
  · rename_i e
    rw [if_neg e] at h1
    split <;> omega
set_option maxHeartbeats 4000000 in
set_option maxRecDepth 20000 in
theorem snd23 (z h : Nat) (x : Rf) (v n : Int) (M : Mem) (hz : M z = some (.cells (rfC h x))) (hh : M h = some (.cells (hsC x))) (hzh : z ≠ h) (hk : RK x) (hlg : x.log.length < 2 ^ 60) : SoundCall Try.prog 23 [ptr z, int v, int n] M fun r M' => r = bool (hasR x v n).2 ∧ M' = (M.upd h (.cells (hsC (hasR x v n).1))).upd z (.cells (rfC h (hasR x v n).1)) := by
  have hM2 := hzh.symm
  have same : (M.upd h (.cells (hsC x))).upd z (.cells (rfC h x)) = M := by rw [Mem.upd_same hh, Mem.upd_same hz]
  have hml : (List.map str x.log).length = x.log.length := List.length_map _
  refine SoundCall.go tk23 pl23 mixed Try.func23 cb23 rfl (Nat.le_of_ble_eq_true rfl) ?_
  refine s_seq ?_
  refine s_region ?_
  refine o_q (q_as (v_raw rfl)) rfl rfl rfl ?_
  refine o_nil ?_
  refine s_seq ?_
  refine s_region ?_
  refine o_q (q_mv ((by first | exact v_raw rfl | exact v_sptr rfl))) rfl rfl rfl ?_
  refine o_q (q_mv (v_raw rfl)) rfl rfl rfl ?_
  refine o_call ((snd38 z h x v _ hz hk.ne (by have := hk.n7; omega))) goes38 (ac ((by first | exact v_raw rfl | exact v_sptr rfl)) (ac (v_raw rfl) ac_nil)) rfl ?_
  refine o_q (q_as (v_raw rfl)) rfl rfl rfl ?_
  refine o_nil ?_
  refine s_seq ?_
  refine s_seq ?_
  refine s_region ?_
  refine o_q (q_mv (v_raw rfl)) rfl rfl rfl ?_
  refine o_q (q_not rfl) rfl rfl rfl ?_
  refine o_q (q_mv (v_raw rfl)) rfl rfl rfl ?_
  refine o_cases (want := false) (j := 2) rfl rfl (fun h1 => ?_) (fun h1 => ?_)
  · have k1 := h1; try simp only [decide_eq_true_eq, decide_eq_false_iff_not, Bool.not_eq_true', Bool.not_eq_false', Bool.not_true, Bool.not_false, List.length_map, Decidable.not_not] at k1
    refine o_yes rfl rfl rfl h1 ?_
    refine o_q (q_mv (v_raw rfl)) rfl rfl rfl ?_
    refine o_yes rfl rfl rfl h1 ?_
    refine o_q (q_lss rfl rfl) rfl rfl rfl ?_
    refine o_q (q_pick_c (t := false) rfl h1 (v_raw rfl)) rfl rfl rfl ?_
    refine o_q (q_mv (v_raw rfl)) rfl rfl rfl ?_
    refine o_cases (want := false) (j := 6) rfl rfl (fun h2 => ?_) (fun h2 => ?_)
    · have k2 := h2; try simp only [decide_eq_true_eq, decide_eq_false_iff_not, Bool.not_eq_true', Bool.not_eq_false', Bool.not_true, Bool.not_false, List.length_map, Decidable.not_not] at k2
      refine o_yes rfl rfl rfl h2 ?_
      refine o_q (q_mv (v_raw rfl)) rfl rfl rfl ?_
      refine o_yes rfl rfl rfl h2 ?_
      refine o_q (q_mv ((by first | exact v_raw rfl | exact v_sptr rfl))) rfl rfl rfl ?_
      refine o_yes rfl rfl rfl h2 ?_
      refine o_q (q_nil rfl) rfl rfl rfl ?_
      refine o_yes rfl rfl rfl h2 ?_
      refine o_q (q_fr fo50_2 rfl) rfl rfl rfl ?_
      refine o_yes rfl rfl rfl h2 ?_
      refine o_q (q_ldm ag22 sz22 rfl (by repeat first | exact Mem.upd_self _ _ _ | assumption | refine Mem.upd_ne (by assumption) ?_) rfl (v_sl rfl)) rfl rfl rfl ?_
      refine o_yes rfl rfl rfl h2 ?_
      refine o_q (q_len rfl und22 rfl) rfl rfl rfl ?_
      refine o_yes rfl rfl rfl h2 ?_
      refine o_q (q_gtr rfl rfl) rfl rfl rfl ?_
      refine o_q (q_pick_c (t := false) rfl h2 (v_raw rfl)) rfl rfl rfl ?_
      refine o_nil ?_
      refine s_cond rfl (fun h3 => ?_) (fun h3 => ?_)
      · have k3 := h3; try simp only [decide_eq_true_eq, decide_eq_false_iff_not, Bool.not_eq_true', Bool.not_eq_false', Bool.not_true, Bool.not_false, List.length_map, Decidable.not_not] at k3
        refine s_seq ?_
        refine s_region ?_
        refine o_q (q_as (v_raw rfl)) rfl rfl rfl ?_
        refine o_nil ?_
        refine s_ret ?_
        refine s_code_ret ?_
        refine s_end ?_
        unfold hasR
        split
        · first | exact ⟨rfl, rfl⟩ | (exfalso; rename_i hc; obtain ⟨h1, h2, h3⟩ := hc; first | omega | (simp_all; done))
        · first | exact ⟨rfl, same.symm⟩ | (exfalso; rename_i hc; exact hc ⟨hot, by omega, by omega⟩)
      · have k3 := h3; try simp only [decide_eq_true_eq, decide_eq_false_iff_not, Bool.not_eq_true', Bool.not_eq_false', Bool.not_true, Bool.not_false, List.length_map, Decidable.not_not] at k3
        have hot : otherR x v = true := by simp_all
        have hvr := hk.nr v (otherR_mem hot).2.1
        have hs7 := hk.has
        have hgv : ∀ h : v.toNat < x.has.length, x.has[v.toNat] = x.has.getD v.toNat 0 := fun h => by rw [List.getD_eq_getElem?_getD, List.getElem?_eq_getElem h]; rfl
        refine s_skip ?_
        refine s_seq ?_
        refine s_draw rfl ?_
        refine d_q rfl (q_mv ((by first | exact v_raw rfl | exact v_sptr rfl))) rfl rfl rfl ?_
        refine d_q rfl (q_nil rfl) rfl rfl rfl ?_
        refine d_q rfl (q_fr fo50_5 rfl) rfl rfl rfl ?_
        refine d_q rfl (q_ldm ag25 sz25 rfl (by repeat first | exact Mem.upd_self _ _ _ | assumption | refine Mem.upd_ne (by assumption) ?_) rfl ((by first | exact v_raw rfl | exact v_sl rfl))) rfl rfl rfl ?_
        refine d_q rfl (q_mv (v_raw rfl)) rfl rfl rfl ?_
        refine d_q rfl (q_mv ((by first | exact v_raw rfl | exact v_sptr rfl))) rfl rfl rfl ?_
        refine d_q rfl (q_nil rfl) rfl rfl rfl ?_
        refine d_q rfl (q_fr fo50_5 rfl) rfl rfl rfl ?_
        refine d_q rfl (q_ldm ag25 sz25 rfl (by repeat first | exact Mem.upd_self _ _ _ | assumption | refine Mem.upd_ne (by assumption) ?_) rfl ((by first | exact v_raw rfl | exact v_sl rfl))) rfl rfl rfl ?_
        refine d_q rfl (q_mv (v_raw rfl)) rfl rfl rfl ?_
        refine d_q rfl (q_idxr und25 sz3 rfl rfl (by omega) (by omega)) rfl rfl rfl ?_
        refine d_q rfl (q_ldm ag3 sz3 rfl (by repeat first | exact Mem.upd_self _ _ _ | assumption | refine Mem.upd_ne (by assumption) ?_) (pcI (j := v.toNat) (by omega) (by omega)) (v_raw rfl)) rfl rfl rfl ?_
        refine d_q rfl (q_mv (v_raw rfl)) rfl rfl rfl ?_
        refine d_q rfl (q_max rfl rfl) rfl rfl rfl ?_
        refine d_q rfl (q_idxr und25 sz3 rfl rfl (by omega) (by omega)) rfl rfl rfl ?_
        refine d_s rfl ?_
        refine o_store rfl (by repeat first | exact Mem.upd_self _ _ _ | assumption | refine Mem.upd_ne (by assumption) ?_) (by first | exact e_raw rfl | exact e_agg rfl | exact e_sl rfl | rfl) rfl sz3 rfl (by simp only [List.length_map]; omega) rfl (show _ = hsC (setR x v n) from (by rw [hgv]; exact sp_set (l := x.has) (j := v.toNat) (by omega) (by omega))) ?_
        refine o_nil ⟨(by simp [Mem.upd, *]), ?_⟩
        refine d_nil ?_
        refine s_seq ?_
        refine s_region ?_
        refine o_q (q_mv ((by first | exact v_raw rfl | exact v_sptr rfl))) rfl rfl rfl ?_
        refine o_callx ((sure37 (h := h) (x := setR x v n) (by repeat first | exact Mem.upd_self _ _ _ | assumption | refine Mem.upd_ne (by assumption) ?_) (by repeat first | exact Mem.upd_self _ _ _ | assumption | refine Mem.upd_ne (by assumption) ?_) (hk.set hot (by omega)) hlg)) goes37 (ac ((by first | exact v_raw rfl | exact v_sptr rfl)) ac_nil) rfl ?_
        rintro r M' ⟨rfl, rfl⟩
        refine o_nil ?_
        refine s_seq ?_
        refine s_region ?_
        refine o_q (q_as (v_raw rfl)) rfl rfl rfl ?_
        refine o_nil ?_
        refine s_ret ?_
        refine s_end ?_
        unfold hasR
        split
        · first | exact ⟨rfl, rfl⟩ | (exfalso; rename_i hc; obtain ⟨h1, h2, h3⟩ := hc; first | omega | (simp_all; done))
        · first | exact ⟨rfl, same.symm⟩ | (exfalso; rename_i hc; exact hc ⟨hot, by omega, by omega⟩)
    · have k2 := h2; try simp only [decide_eq_true_eq, decide_eq_false_iff_not, Bool.not_eq_true', Bool.not_eq_false', Bool.not_true, Bool.not_false, List.length_map, Decidable.not_not] at k2
      refine o_no rfl rfl rfl rfl h2 ?_
      refine o_no rfl rfl rfl rfl h2 ?_
      refine o_no rfl rfl rfl rfl h2 ?_
      refine o_no rfl rfl rfl rfl h2 ?_
      refine o_no rfl rfl rfl rfl h2 ?_
      refine o_no rfl rfl rfl rfl h2 ?_
      refine o_no rfl rfl rfl rfl h2 ?_
      refine o_q (q_pick_c (t := true) rfl h2 (v_raw rfl)) rfl rfl rfl ?_
      refine o_nil ?_
      refine s_then rfl rfl ?_
      refine s_seq ?_
      refine s_region ?_
      refine o_q (q_as (v_raw rfl)) rfl rfl rfl ?_
      refine o_nil ?_
      refine s_ret ?_
      refine s_code_ret ?_
      refine s_end ?_
      unfold hasR
      split
      · first | exact ⟨rfl, rfl⟩ | (exfalso; rename_i hc; obtain ⟨h1, h2, h3⟩ := hc; first | omega | (simp_all; done))
      · first | exact ⟨rfl, same.symm⟩ | (exfalso; rename_i hc; exact hc ⟨hot, by omega, by omega⟩)
  · have k1 := h1; try simp only [decide_eq_true_eq, decide_eq_false_iff_not, Bool.not_eq_true', Bool.not_eq_false', Bool.not_true, Bool.not_false, List.length_map, Decidable.not_not] at k1
    refine o_no rfl rfl rfl rfl h1 ?_
    refine o_no rfl rfl rfl rfl h1 ?_
    refine o_q (q_pick_c (t := true) rfl h1 (v_raw rfl)) rfl rfl rfl ?_
    refine o_q (q_mv (v_raw rfl)) rfl rfl rfl ?_
    refine o_no rfl rfl rfl rfl rfl ?_
    refine o_no rfl rfl rfl rfl rfl ?_
    refine o_no rfl rfl rfl rfl rfl ?_
    refine o_no rfl rfl rfl rfl rfl ?_
    refine o_no rfl rfl rfl rfl rfl ?_
    refine o_no rfl rfl rfl rfl rfl ?_
    refine o_no rfl rfl rfl rfl rfl ?_
    refine o_q (q_pick_c (t := true) rfl rfl (v_raw rfl)) rfl rfl rfl ?_
    refine o_nil ?_
    refine s_then rfl rfl ?_
    refine s_seq ?_
    refine s_region ?_
    refine o_q (q_as (v_raw rfl)) rfl rfl rfl ?_
    refine o_nil ?_
    refine s_ret ?_
    refine s_code_ret ?_
    refine s_end ?_
    unfold hasR
    split
    · first | exact ⟨rfl, rfl⟩ | (exfalso; rename_i hc; obtain ⟨h1, h2, h3⟩ := hc; first | omega | (simp_all; done))
    · first | exact ⟨rfl, same.symm⟩ | (exfalso; rename_i hc; exact hc ⟨hot, by omega, by omega⟩)

def tk24 : Nat → Nat → Option Nat := fun _ _ => none
def pl24 : Nat → List PStep := fun _ => []
theorem cb24 : Try.f24.body.map (codeB Try.prog Try.f24.ntmps tk24 pl24) = some true := by kernel_rfl
theorem goes24 : goesB Try.prog 24 = true := by kernel_rfl
-- (*carillon/carillonref18.Order).Learn params ['*carillonref18.Order', 'int'] results [['t', 4]] own [] names ['0:o', '1:n', '2:o', '3:n'] calls [20] paths 3
def learnR (x : Rf) (n : Int) : Rf × Bool := if firstR x = false ∧ x.sure < min n x.log.length then (⟨x.self, x.nodes, x.log, min n x.log.length, x.base, x.has⟩, true) else (x, false)
set_option maxHeartbeats 4000000 in
set_option maxRecDepth 20000 in
theorem snd24 (z h : Nat) (x : Rf) (n : Int) (M : Mem) (hz : M z = some (.cells (rfC h x))) (hn : x.nodes ≠ []) : SoundCall Try.prog 24 [ptr z, int n] M fun r M' => r = bool (learnR x n).2 ∧ M' = M.upd z (.cells (rfC h (learnR x n).1)) := by
  have same : M.upd z (.cells (rfC h x)) = M := Mem.upd_same hz
  have hlm : (List.map str x.log).length = x.log.length := List.length_map _
  refine SoundCall.go tk24 pl24 mixed Try.func24 cb24 rfl (Nat.le_of_ble_eq_true rfl) ?_
  refine s_seq ?_
  refine s_region ?_
  refine o_q (q_as (v_raw rfl)) rfl rfl rfl ?_
  refine o_nil ?_
  refine s_seq ?_
  refine s_region ?_
  refine o_q (q_mv (v_raw rfl)) rfl rfl rfl ?_
  refine o_q (q_mv ((by first | exact v_raw rfl | exact v_sptr rfl))) rfl rfl rfl ?_
  refine o_q (q_nil rfl) rfl rfl rfl ?_
  refine o_q (q_fr fo50_2 rfl) rfl rfl rfl ?_
  refine o_q (q_ldm ag22 sz22 rfl (by repeat first | exact Mem.upd_self _ _ _ | assumption | refine Mem.upd_ne (by assumption) ?_) rfl (v_sl rfl)) rfl rfl rfl ?_
  refine o_q (q_len rfl und22 rfl) rfl rfl rfl ?_
  refine o_q (q_min rfl rfl) rfl rfl rfl ?_
  refine o_q (q_as (v_raw rfl)) rfl rfl rfl ?_
  refine o_nil ?_
  refine s_seq ?_
  refine s_seq ?_
  refine s_region ?_
  refine o_q (q_mv ((by first | exact v_raw rfl | exact v_sptr rfl))) rfl rfl rfl ?_
  refine o_call ((snd20 z h x _ hz hn)) goes20 (ac ((by first | exact v_raw rfl | exact v_sptr rfl)) ac_nil) rfl ?_
  refine o_q (q_mv (v_raw rfl)) rfl rfl rfl ?_
  refine o_cases (want := false) (j := 2) rfl rfl (fun h1 => ?_) (fun h1 => ?_)
  · have k1 := h1; try simp only [decide_eq_true_eq, decide_eq_false_iff_not, Bool.not_eq_true', Bool.not_eq_false', Bool.not_true, Bool.not_false, List.length_map, Decidable.not_not] at k1
    refine o_yes rfl rfl rfl h1 ?_
    refine o_q (q_mv (v_raw rfl)) rfl rfl rfl ?_
    refine o_yes rfl rfl rfl h1 ?_
    refine o_q (q_mv ((by first | exact v_raw rfl | exact v_sptr rfl))) rfl rfl rfl ?_
    refine o_yes rfl rfl rfl h1 ?_
    refine o_q (q_nil rfl) rfl rfl rfl ?_
    refine o_yes rfl rfl rfl h1 ?_
    refine o_q (q_fr fo50_3 rfl) rfl rfl rfl ?_
    refine o_yes rfl rfl rfl h1 ?_
    refine o_q (q_ldm ag3 sz3 rfl (by repeat first | exact Mem.upd_self _ _ _ | assumption | refine Mem.upd_ne (by assumption) ?_) rfl (v_raw rfl)) rfl rfl rfl ?_
    refine o_yes rfl rfl rfl h1 ?_
    refine o_q (q_leq rfl rfl) rfl rfl rfl ?_
    refine o_q (q_pick_c (t := false) rfl h1 (v_raw rfl)) rfl rfl rfl ?_
    refine o_nil ?_
    refine s_cond rfl (fun h2 => ?_) (fun h2 => ?_)
    · have k2 := h2; try simp only [decide_eq_true_eq, decide_eq_false_iff_not, Bool.not_eq_true', Bool.not_eq_false', Bool.not_true, Bool.not_false, List.length_map, Decidable.not_not] at k2
      refine s_seq ?_
      refine s_region ?_
      refine o_q (q_as (v_raw rfl)) rfl rfl rfl ?_
      refine o_nil ?_
      refine s_ret ?_
      refine s_code_ret ?_
      refine s_end ?_
      unfold learnR
      split
      · first | exact ⟨rfl, by rw [← hlm]; rfl⟩ | (exfalso; rename_i hc; obtain ⟨h1, h2⟩ := hc; first | omega | (simp_all; done))
      · first | exact ⟨rfl, same.symm⟩ | (exfalso; rename_i hc; exact hc ⟨by assumption, by omega⟩)
    · have k2 := h2; try simp only [decide_eq_true_eq, decide_eq_false_iff_not, Bool.not_eq_true', Bool.not_eq_false', Bool.not_true, Bool.not_false, List.length_map, Decidable.not_not] at k2
      refine s_skip ?_
      refine s_seq ?_
      refine s_region ?_
      refine o_q (q_mv ((by first | exact v_raw rfl | exact v_sptr rfl))) rfl rfl rfl ?_
      refine o_q (q_mv (v_raw rfl)) rfl rfl rfl ?_
      refine o_q (q_nil rfl) rfl rfl rfl ?_
      refine o_q (q_fr fo50_3 rfl) rfl rfl rfl ?_
      refine o_store rfl (by repeat first | exact Mem.upd_self _ _ _ | assumption | refine Mem.upd_ne (by assumption) ?_) (by first | exact e_raw rfl | exact e_agg rfl | exact e_sl rfl | rfl) rfl sz3 rfl (Nat.le_of_ble_eq_true rfl) rfl rfl ?_
      refine o_nil ?_
      refine s_seq ?_
      refine s_region ?_
      refine o_q (q_as (v_raw rfl)) rfl rfl rfl ?_
      refine o_nil ?_
      refine s_ret ?_
      refine s_end ?_
      unfold learnR
      split
      · first | exact ⟨rfl, by rw [← hlm]; rfl⟩ | (exfalso; rename_i hc; obtain ⟨h1, h2⟩ := hc; first | omega | (simp_all; done))
      · first | exact ⟨rfl, same.symm⟩ | (exfalso; rename_i hc; exact hc ⟨by assumption, by omega⟩)
  · have k1 := h1; try simp only [decide_eq_true_eq, decide_eq_false_iff_not, Bool.not_eq_true', Bool.not_eq_false', Bool.not_true, Bool.not_false, List.length_map, Decidable.not_not] at k1
    refine o_no rfl rfl rfl rfl h1 ?_
    refine o_no rfl rfl rfl rfl h1 ?_
    refine o_no rfl rfl rfl rfl h1 ?_
    refine o_no rfl rfl rfl rfl h1 ?_
    refine o_no rfl rfl rfl rfl h1 ?_
    refine o_no rfl rfl rfl rfl h1 ?_
    refine o_q (q_pick_c (t := true) rfl h1 (v_raw rfl)) rfl rfl rfl ?_
    refine o_nil ?_
    refine s_then rfl rfl ?_
    refine s_seq ?_
    refine s_region ?_
    refine o_q (q_as (v_raw rfl)) rfl rfl rfl ?_
    refine o_nil ?_
    refine s_ret ?_
    refine s_code_ret ?_
    refine s_end ?_
    unfold learnR
    split
    · first | exact ⟨rfl, by rw [← hlm]; rfl⟩ | (exfalso; rename_i hc; obtain ⟨h1, h2⟩ := hc; first | omega | (simp_all; done))
    · first | exact ⟨rfl, same.symm⟩ | (exfalso; rename_i hc; exact hc ⟨by assumption, by omega⟩)

def tk25 : Nat → Nat → Option Nat
  | 5, 0 => some 0
  | 9, 0 => some 0
  | 9, 10 => some 0
  | _, _ => none
def pl25 : Nat → List PStep := fun _ => []
theorem cb25 : Try.f25.body.map (codeB Try.prog Try.f25.ntmps tk25 pl25) = some true := by kernel_rfl
theorem goes25 : goesB Try.prog 25 = true := by kernel_rfl
-- (*carillon/carillonref18.Order).Wants params ['*carillonref18.Order', 'int', 'int'] results [['t', 6], ['t', 7]] own [36, 10, 45] names ['0:o', '1:node', '2:most', '3:o', '4:node', '5:most', '8:other', '9:at', '10:out', '11:i'] calls [38, 39] paths 4
def wantsR (x : Rf) (v most : Int) : Int × List ByteArray := if otherR x v then (hadR x v, (x.log.drop (hadR x v).toNat).take (max most 0).toNat) else (-1, [])
set_option maxHeartbeats 4000000 in
set_option maxRecDepth 20000 in
theorem snd25 (z h : Nat) (x : Rf) (v most : Int) (M : Mem) (hz : M z = some (.cells (rfC h x))) (hh : M h = some (.cells (hsC x))) (hk : RK x) (hb0 : 0 ≤ x.base) (hlg : x.log.length + 2 ≤ 2 ^ 43) : SoundCall Try.prog 25 [ptr z, int v, int most] M fun r M' => r = .tup [int (wantsR x v most).1, .sl ((wantsR x v most).2.map str) false] ∧ M' = M := by
  have hlm : (List.map str x.log).length = x.log.length := List.length_map _
  refine SoundCall.go tk25 pl25 mixed Try.func25 cb25 rfl (Nat.le_of_ble_eq_true rfl) ?_
  refine s_seq ?_
  refine s_region ?_
  refine o_q (q_as (v_raw rfl)) rfl rfl rfl ?_
  refine o_q (q_as (v_sl rfl)) rfl rfl rfl ?_
  refine o_nil ?_
  refine s_seq ?_
  refine s_region ?_
  refine o_q (q_mv ((by first | exact v_raw rfl | exact v_sptr rfl))) rfl rfl rfl ?_
  refine o_q (q_mv (v_raw rfl)) rfl rfl rfl ?_
  refine o_call ((snd38 z h x v _ hz hk.ne (by have := hk.n7; omega))) goes38 (ac ((by first | exact v_raw rfl | exact v_sptr rfl)) (ac (v_raw rfl) ac_nil)) rfl ?_
  refine o_q (q_as (v_raw rfl)) rfl rfl rfl ?_
  refine o_nil ?_
  refine s_seq ?_
  refine s_seq ?_
  refine s_region ?_
  refine o_q (q_mv (v_raw rfl)) rfl rfl rfl ?_
  refine o_q (q_not rfl) rfl rfl rfl ?_
  refine o_nil ?_
  refine s_cond rfl (fun h1 => ?_) (fun h1 => ?_)
  · have k1 := h1; try simp only [decide_eq_true_eq, decide_eq_false_iff_not, Bool.not_eq_true', Bool.not_eq_false', Bool.not_true, Bool.not_false, List.length_map, Decidable.not_not] at k1
    refine s_seq ?_
    refine s_region ?_
    refine o_q (q_as (v_raw rfl)) rfl rfl rfl ?_
    refine o_q (q_as (v_sl rfl)) rfl rfl rfl ?_
    refine o_nil ?_
    refine s_ret ?_
    refine s_code_ret ?_
    refine s_end ?_
    exact ret_many (.inl rfl) rfl (rl_t rfl (rl_t rfl rl_nil)) rfl ⟨by unfold wantsR; rw [if_neg (by simp_all)]; rfl, rfl⟩
  · have k1 := h1; try simp only [decide_eq_true_eq, decide_eq_false_iff_not, Bool.not_eq_true', Bool.not_eq_false', Bool.not_true, Bool.not_false, List.length_map, Decidable.not_not] at k1
    have hot : otherR x v = true := by simp_all
    have hom := otherR_mem hot
    have hvr := hk.nr v hom.2.1
    have hv1 := hk.had v hom.2.1
    have hv0 : 0 ≤ hadR x v := by unfold hadR; rw [if_neg hom.2.2]; omega
    refine s_skip ?_
    refine s_seq ?_
    refine s_region ?_
    refine o_q (q_mv ((by first | exact v_raw rfl | exact v_sptr rfl))) rfl rfl rfl ?_
    refine o_q (q_mv (v_raw rfl)) rfl rfl rfl ?_
    refine o_call ((snd39 z h x v _ hz hh hk.has hvr)) goes39 (ac ((by first | exact v_raw rfl | exact v_sptr rfl)) (ac (v_raw rfl) ac_nil)) rfl ?_
    refine o_q (q_as (v_raw rfl)) rfl rfl rfl ?_
    refine o_nil ?_
    refine s_seq ?_
    refine s_region ?_
    refine o_q (q_as_const rfl) rfl rfl rfl ?_
    refine o_nil ?_
    refine s_seq ?_
    refine s_seq ?_
    refine s_region ?_
    refine o_q (q_mv (v_raw rfl)) rfl rfl rfl ?_
    refine o_q (q_as (v_raw rfl)) rfl rfl rfl ?_
    refine o_nil ?_
    refine s_block ?_
    refine s_loop (fun m S => ∃ T, ∃ q : Nat, S = ⟨setT (setT (setT (setT (setT T 0 (ptr z)) 2 (int most)) 9 (int (hadR x v))) 10 (.sl (((x.log.drop (hadR x v).toNat).take q).map str) true)) 11 (int (hadR x v + q)), M⟩ ∧ hadR x v + q ≤ x.log.length ∧ q ≤ (max most 0).toNat ∧ ((x.log.drop (hadR x v).toNat).take q).length = q ∧ m = x.log.length - q) x.log.length ?_ ?_
    · exact ⟨_, 0, St.mkT (kp (kp (kp (kp (kp rfl rfl) rfl) rfl) rfl) (congrArg int (by omega))).symm, by omega, by omega, rfl, rfl⟩
    rintro m S ⟨T, q, rfl, hq1, hq2, hq3, rfl⟩
    refine s_seq ?_
    refine s_seq ?_
    refine s_region ?_
    refine o_q (q_mv (v_raw rfl)) rfl rfl rfl ?_
    refine o_q (q_mv ((by first | exact v_raw rfl | exact v_sptr rfl))) rfl rfl rfl ?_
    refine o_q (q_nil rfl) rfl rfl rfl ?_
    refine o_q (q_fr fo50_2 rfl) rfl rfl rfl ?_
    refine o_q (q_ldm ag22 sz22 rfl (by repeat first | exact Mem.upd_self _ _ _ | assumption | refine Mem.upd_ne (by assumption) ?_) rfl (v_sl rfl)) rfl rfl rfl ?_
    refine o_q (q_len rfl und22 rfl) rfl rfl rfl ?_
    refine o_q (q_lss rfl rfl) rfl rfl rfl ?_
    refine o_q (q_mv (v_raw rfl)) rfl rfl rfl ?_
    refine o_cases (want := true) (j := 7) rfl rfl (fun h2 => ?_) (fun h2 => ?_)
    · have k2 := h2; try simp only [decide_eq_true_eq, decide_eq_false_iff_not, Bool.not_eq_true', Bool.not_eq_false', Bool.not_true, Bool.not_false, List.length_map, Decidable.not_not] at k2
      refine o_yes rfl rfl rfl h2 ?_
      refine o_q (q_mv (v_sl rfl)) rfl rfl rfl ?_
      refine o_yes rfl rfl rfl h2 ?_
      refine o_q (q_len rfl und22 rfl) rfl rfl rfl ?_
      refine o_yes rfl rfl rfl h2 ?_
      refine o_q (q_mv (v_raw rfl)) rfl rfl rfl ?_
      refine o_yes rfl rfl rfl h2 ?_
      refine o_q (q_lss rfl rfl) rfl rfl rfl ?_
      refine o_q (q_pick_c (t := true) rfl h2 (v_raw rfl)) rfl rfl rfl ?_
      refine o_nil ?_
      refine s_cond rfl (fun h3 => ?_) (fun h3 => ?_)
      · have k3 := h3; try simp only [decide_eq_true_eq, decide_eq_false_iff_not, Bool.not_eq_true', Bool.not_eq_false', Bool.not_true, Bool.not_false, List.length_map, Decidable.not_not] at k3
        have hql : ((x.log.drop (hadR x v).toNat).take q).length = q := by rw [List.length_take, List.length_drop]; omega
        refine s_skip ?_
        refine s_seq ?_
        refine s_block ?_
        refine s_region ?_
        refine o_qs (q_mv_own rfl) rfl rfl rfl rfl ?_
        refine o_q (q_mv ((by first | exact v_raw rfl | exact v_sptr rfl))) rfl rfl rfl ?_
        refine o_q (q_nil rfl) rfl rfl rfl ?_
        refine o_q (q_fr fo50_2 rfl) rfl rfl rfl ?_
        refine o_q (q_ldm ag22 sz22 rfl (by repeat first | exact Mem.upd_self _ _ _ | assumption | refine Mem.upd_ne (by assumption) ?_) rfl (v_sl rfl)) rfl rfl rfl ?_
        refine o_q (q_mv (v_raw rfl)) rfl rfl rfl ?_
        refine o_q (q_idx und22 sz9 rfl rfl (by omega) (gm (hadR x v + q).toNat (by first | omega | simp)) rfl) rfl rfl rfl ?_
        refine o_q (q_ld ag9 sz9 rfl (gm (hadR x v + q).toNat (by first | omega | simp)) rfl (v_raw rfl)) rfl rfl rfl ?_
        refine o_q (q_bs slt22 (pc (v_raw rfl) pn) rfl (Els.cons rfl rfl Els.nil) (by decide)) rfl rfl rfl ?_
        refine o_qs (q_app slt22 rfl rfl rfl rfl (by first | exact Els.nil | exact elsStr) (by first | exact (by first | exact Els.nil | exact elsStr) | exact Els.cons rfl rfl Els.nil) (by simp; omega)) rfl rfl rfl rfl ?_
        refine o_qs (q_as_own rfl) rfl rfl rfl rfl ?_
        refine o_nil ?_
        refine s_blk_normal ?_
        refine s_region ?_
        refine o_q (q_mv (v_raw rfl)) rfl rfl rfl ?_
        refine o_q (q_add rfl rfl (wrap64 (by omega) (by omega))) rfl rfl rfl ?_
        refine o_q (q_as (v_raw rfl)) rfl rfl rfl ?_
        refine o_nil ?_
        refine s_inv ?_
        have hnx : (x.log.drop (hadR x v).toNat).take (q + 1) = (x.log.drop (hadR x v).toNat).take q ++ [x.log[(hadR x v + q).toNat]'(by omega)] := by
          rw [List.take_succ_eq_append_getElem (by rw [List.length_drop]; omega), List.getElem_drop]
          congr 3
          omega
        exact ⟨x.log.length - (q + 1), by omega, _, q + 1, St.mkT (kp (kp (kp (kp (kp rfl rfl) rfl) rfl) (app_eq rfl hnx)) (congrArg int (by omega))).symm, by omega, by omega, by rw [List.length_take, List.length_drop]; omega, rfl⟩
      · have k3 := h3; try simp only [decide_eq_true_eq, decide_eq_false_iff_not, Bool.not_eq_true', Bool.not_eq_false', Bool.not_true, Bool.not_false, List.length_map, Decidable.not_not] at k3
        refine s_exit ?_
        refine s_code_exit ?_
        refine s_inv_exit ?_
        refine s_blk_here ?_
        refine s_seq ?_
        refine s_region ?_
        refine o_q (q_mv (v_raw rfl)) rfl rfl rfl ?_
        refine o_q (q_mv (v_sl rfl)) rfl rfl rfl ?_
        refine o_q (q_as (v_raw rfl)) rfl rfl rfl ?_
        refine o_q (q_as (v_sl rfl)) rfl rfl rfl ?_
        refine o_nil ?_
        refine s_ret ?_
        refine s_end ?_
        have hfin : (x.log.drop (hadR x v).toNat).take q = (x.log.drop (hadR x v).toNat).take (max most 0).toNat := by
          by_cases e : q = (max most 0).toNat
          · rw [e]
          · rw [List.take_of_length_le (by rw [List.length_drop]; omega), List.take_of_length_le (by rw [List.length_drop]; omega)]
        exact ret_many (.inl rfl) rfl (rl_t rfl (rl_t rfl rl_nil)) rfl ⟨by unfold wantsR; rw [if_pos hot, ← hfin]; rfl, rfl⟩
    · have k2 := h2; try simp only [decide_eq_true_eq, decide_eq_false_iff_not, Bool.not_eq_true', Bool.not_eq_false', Bool.not_true, Bool.not_false, List.length_map, Decidable.not_not] at k2
      refine o_no rfl rfl rfl rfl h2 ?_
      refine o_no rfl rfl rfl rfl h2 ?_
      refine o_no rfl rfl rfl rfl h2 ?_
      refine o_no rfl rfl rfl rfl h2 ?_
      refine o_q (q_pick_c (t := false) rfl h2 (v_raw rfl)) rfl rfl rfl ?_
      refine o_nil ?_
      refine s_else rfl rfl ?_
      refine s_exit ?_
      refine s_code_exit ?_
      refine s_inv_exit ?_
      refine s_blk_here ?_
      refine s_seq ?_
      refine s_region ?_
      refine o_q (q_mv (v_raw rfl)) rfl rfl rfl ?_
      refine o_q (q_mv (v_sl rfl)) rfl rfl rfl ?_
      refine o_q (q_as (v_raw rfl)) rfl rfl rfl ?_
      refine o_q (q_as (v_sl rfl)) rfl rfl rfl ?_
      refine o_nil ?_
      refine s_ret ?_
      refine s_end ?_
      have hfin : (x.log.drop (hadR x v).toNat).take q = (x.log.drop (hadR x v).toNat).take (max most 0).toNat := by
        by_cases e : q = (max most 0).toNat
        · rw [e]
        · rw [List.take_of_length_le (by rw [List.length_drop]; omega), List.take_of_length_le (by rw [List.length_drop]; omega)]
      exact ret_many (.inl rfl) rfl (rl_t rfl (rl_t rfl rl_nil)) rfl ⟨by unfold wantsR; rw [if_pos hot, ← hfin]; rfl, rfl⟩

def tk18 : Nat → Nat → Option Nat := fun _ _ => none
def pl18 : Nat → List PStep
  | 5 => [.q 0, .q 1, .q 2, .q 3, .q 4, .q 5, .q 6, .q 7, .q 8, .q 9, .q 10, .q 11, .q 12, .q 13, .q 14, .q 15, .q 16, .q 17, .q 18, .q 19, .q 20, .q 21, .q 22, .q 23, .q 24, .q 25, .q 26, .q 27]
  | _ => []
theorem cb18 : Try.f18.body.map (codeB Try.prog Try.f18.ntmps tk18 pl18) = some true := by kernel_rfl
theorem goes18 : goesB Try.prog 18 = true := by kernel_rfl
-- carillon/carillonref18.New params ['int', '[]int', '[]string'] results [['t', 6]] own [67, 76] names ['0:self', '1:nodes', '2:log', '3:self', '4:nodes', '5:log', '7:in', '8:i', '9:o'] calls [] paths 9
def newR (self : Int) (nodes : List Int) (log : List ByteArray) : Rf := ⟨self, nodes, log, log.length, log.length, [0, 0, 0, 0, 0, 0, 0]⟩
set_option maxHeartbeats 4000000 in
set_option maxRecDepth 20000 in
theorem snd18 (self : Int) (nodes : List Int) (o1 : Bool) (log : List ByteArray) (o2 : Bool) (M : Mem) (hnl : nodes.length < 2 ^ 60) (hlg : log.length + 2 ≤ 2 ^ 43) : SoundCall Try.prog 18 [int self, .sl (nodes.map int) o1, .sl (log.map str) o2] M fun r M' => (okNew self nodes = false ∧ r = nilp ∧ M' = M) ∨ (okNew self nodes = true ∧ ∃ z h, M z = none ∧ M h = none ∧ z ≠ h ∧ r = ptr z ∧ M' = (M.upd h (.cells (hsC (newR self nodes log)))).upd z (.cells (rfC h (newR self nodes log)))) := by
  refine SoundCall.go tk18 pl18 mixed Try.func18 cb18 rfl (Nat.le_of_ble_eq_true rfl) ?_
  refine s_seq ?_
  refine s_region ?_
  refine o_q (q_as ((by first | exact v_raw rfl | exact v_sptr rfl))) rfl rfl rfl ?_
  refine o_nil ?_
  refine s_seq ?_
  refine s_region ?_
  refine o_q (q_as (v_raw rfl)) rfl rfl rfl ?_
  refine o_nil ?_
  refine s_seq ?_
  refine s_seq ?_
  refine s_region ?_
  refine o_q (q_as (v_raw rfl)) rfl rfl rfl ?_
  refine o_nil ?_
  refine s_block ?_
  refine s_loop (fun m S => ∃ T, ∃ i : Nat, ∃ last : Int, S = ⟨setT (setT (setT (setT (setT T 0 (int self)) 1 (.sl (nodes.map int) o1)) 2 (.sl (log.map str) o2)) 7 (bool (decide (self ∈ nodes.take i)))) 8 (int (i : Nat)), M⟩ ∧ rise (-1) nodes = rise last (nodes.drop i) ∧ (∀ j, j + 1 = i → ∀ hj : j < nodes.length, last = nodes[j]) ∧ (i = 0 → last = -1) ∧ -1 ≤ last ∧ i ≤ nodes.length ∧ m = nodes.length - i) nodes.length ?_ ?_
  · exact ⟨_, 0, -1, St.mkT (kp (kp (kp (kp (kp rfl rfl) rfl) rfl) rfl) rfl).symm, rfl, fun j h => by omega, fun _ => rfl, by omega, by omega, rfl⟩
  rintro m S ⟨T, i, last, rfl, hri, hlast, hl0, hl1, hin, rfl⟩
  refine s_seq ?_
  refine s_seq ?_
  refine s_region ?_
  refine o_q (q_mv (v_raw rfl)) rfl rfl rfl ?_
  refine o_q (q_mv ((by first | exact v_raw rfl | exact v_sl rfl))) rfl rfl rfl ?_
  refine o_q (q_len rfl und25 rfl) rfl rfl rfl ?_
  refine o_q (q_lss rfl rfl) rfl rfl rfl ?_
  refine o_nil ?_
  refine s_cond rfl (fun h1 => ?_) (fun h1 => ?_)
  · have k1 := h1; try simp only [decide_eq_true_eq, decide_eq_false_iff_not, Bool.not_eq_true', Bool.not_eq_false', Bool.not_true, Bool.not_false, List.length_map, Decidable.not_not] at k1
    have hlx : ∀ hj : ((i : Int) - 1).toNat < nodes.length, 0 < i → last = nodes[((i : Int) - 1).toNat] := fun hj h0 => hlast _ (by omega) hj
    have hrd := rise_drop (l := nodes) (a := last) (i := i) (by omega)
    refine s_skip ?_
    refine s_seq ?_
    refine s_block ?_
    refine s_seq ?_
    refine s_seq ?_
    refine s_draw rfl ?_
    refine d_q rfl (q_mv ((by first | exact v_raw rfl | exact v_sl rfl))) rfl rfl rfl ?_
    refine d_q rfl (q_mv (v_raw rfl)) rfl rfl rfl ?_
    refine d_q rfl (q_idx und25 sz3 rfl rfl (by omega) (gm i (by first | omega | simp)) rfl) rfl rfl rfl ?_
    refine d_q rfl (q_ld ag3 sz3 rfl (gm i (by first | omega | simp)) rfl (v_raw rfl)) rfl rfl rfl ?_
    refine d_q rfl (q_lss rfl rfl) rfl rfl rfl ?_
    refine d_q rfl (q_mv (v_raw rfl)) rfl rfl rfl ?_
    refine d_cases (want := false) (j := 5) rfl rfl (fun h2 => ?_) (fun h2 => ?_)
    · have k2 := h2; try simp only [decide_eq_true_eq, decide_eq_false_iff_not, Bool.not_eq_true', Bool.not_eq_false', Bool.not_true, Bool.not_false, List.length_map, Decidable.not_not] at k2
      refine d_yes rfl (q_mv ((by first | exact v_raw rfl | exact v_sl rfl))) rfl rfl rfl h2 rfl rfl ?_
      refine d_yes rfl (q_mv (v_raw rfl)) rfl rfl rfl h2 rfl rfl ?_
      refine d_yes rfl (q_idx und25 sz3 rfl rfl (by omega) (gm i (by first | omega | simp)) rfl) rfl rfl rfl h2 rfl rfl ?_
      refine d_yes rfl (q_ld ag3 sz3 rfl (gm i (by first | omega | simp)) rfl (v_raw rfl)) rfl rfl rfl h2 rfl rfl ?_
      refine d_yes rfl (q_gtr rfl rfl) rfl rfl rfl h2 rfl rfl ?_
      refine d_q rfl (q_pick_c (t := false) rfl h2 (v_raw rfl)) rfl rfl rfl ?_
      refine d_q rfl (q_mv (v_raw rfl)) rfl rfl rfl ?_
      refine d_cases (want := false) (j := 12) rfl rfl (fun h3 => ?_) (fun h3 => ?_)
      · have k3 := h3; try simp only [decide_eq_true_eq, decide_eq_false_iff_not, Bool.not_eq_true', Bool.not_eq_false', Bool.not_true, Bool.not_false, List.length_map, Decidable.not_not] at k3
        refine d_yes rfl (q_mv (v_raw rfl)) rfl rfl rfl h3 rfl rfl ?_
        refine d_yes rfl (q_gtr rfl rfl) rfl rfl rfl h3 rfl rfl ?_
        refine d_yes rfl (q_mv (v_raw rfl)) rfl rfl rfl h3 rfl rfl ?_
        refine d_cases (want := true) (j := 15) rfl rfl (fun h4 => ?_) (fun h4 => ?_)
        · have k4 := h4; try simp only [decide_eq_true_eq, decide_eq_false_iff_not, Bool.not_eq_true', Bool.not_eq_false', Bool.not_true, Bool.not_false, List.length_map, Decidable.not_not] at k4
          refine d_yes rfl (q_mv ((by first | exact v_raw rfl | exact v_sl rfl))) rfl rfl rfl h4 rfl rfl ?_
          refine d_yes rfl (q_mv (v_raw rfl)) rfl rfl rfl h4 rfl rfl ?_
          refine d_yes rfl (q_idx und25 sz3 rfl rfl (by omega) (gm i (by first | omega | simp)) rfl) rfl rfl rfl h4 rfl rfl ?_
          refine d_yes rfl (q_ld ag3 sz3 rfl (gm i (by first | omega | simp)) rfl (v_raw rfl)) rfl rfl rfl h4 rfl rfl ?_
          refine d_yes rfl (q_mv ((by first | exact v_raw rfl | exact v_sl rfl))) rfl rfl rfl h4 rfl rfl ?_
          refine d_yes rfl (q_mv (v_raw rfl)) rfl rfl rfl h4 rfl rfl ?_
          refine d_yes rfl (q_sub rfl rfl (wrap64 (by omega) (by omega))) rfl rfl rfl h4 rfl rfl ?_
          refine d_yes rfl (q_idx und25 sz3 rfl rfl (by omega) (gm (((i : Int) - 1).toNat) (by first | omega | simp)) rfl) rfl rfl rfl h4 rfl rfl ?_
          refine d_yes rfl (q_ld ag3 sz3 rfl (gm (((i : Int) - 1).toNat) (by first | omega | simp)) rfl (v_raw rfl)) rfl rfl rfl h4 rfl rfl ?_
          refine d_yes rfl (q_leq rfl rfl) rfl rfl rfl h4 rfl rfl ?_
          refine d_yes rfl (q_pick_c (t := true) rfl h4 (v_raw rfl)) rfl rfl rfl h3 rfl rfl ?_
          refine d_q rfl (q_pick_c (t := false) rfl h3 (v_raw rfl)) rfl rfl rfl ?_
          refine d_nil ?_
          refine s_cond rfl (fun h5 => ?_) (fun h5 => ?_)
          · have k5 := h5; try simp only [decide_eq_true_eq, decide_eq_false_iff_not, Bool.not_eq_true', Bool.not_eq_false', Bool.not_true, Bool.not_false, List.length_map, Decidable.not_not] at k5
            refine s_seq ?_
            refine s_region ?_
            refine o_q (q_as ((by first | exact v_raw rfl | exact v_sptr rfl))) rfl rfl rfl ?_
            refine o_nil ?_
            refine s_ret ?_
            refine s_code_ret ?_
            refine s_blk_ret ?_
            refine s_code_ret ?_
            refine s_inv_ret ?_
            refine s_blk_ret ?_
            refine s_code_ret ?_
            refine s_end ?_
            refine .inl ⟨?_, rfl, rfl⟩
            unfold okNew
            rw [hri, hrd]
            rcases Nat.eq_zero_or_pos i with e | e
            · have := hl0 e
              simp
              intros
              omega
            · have := hlx (by omega) e
              simp
              intros
              omega
          · have k5 := h5; try simp only [decide_eq_true_eq, decide_eq_false_iff_not, Bool.not_eq_true', Bool.not_eq_false', Bool.not_true, Bool.not_false, List.length_map, Decidable.not_not] at k5
            refine s_skip ?_
            refine s_region ?_
            refine o_q (q_mv (v_raw rfl)) rfl rfl rfl ?_
            refine o_q (q_mv (v_raw rfl)) rfl rfl rfl ?_
            refine o_cases (want := false) (j := 1) rfl rfl (fun h6 => ?_) (fun h6 => ?_)
            · have k6 := h6; try simp only [decide_eq_true_eq, decide_eq_false_iff_not, Bool.not_eq_true', Bool.not_eq_false', Bool.not_true, Bool.not_false, List.length_map, Decidable.not_not] at k6
              refine o_yes rfl rfl rfl h6 ?_
              refine o_q (q_mv ((by first | exact v_raw rfl | exact v_sl rfl))) rfl rfl rfl ?_
              refine o_yes rfl rfl rfl h6 ?_
              refine o_q (q_mv (v_raw rfl)) rfl rfl rfl ?_
              refine o_yes rfl rfl rfl h6 ?_
              refine o_q (q_idx und25 sz3 rfl rfl (by omega) (gm i (by first | omega | simp)) rfl) rfl rfl rfl ?_
              refine o_yes rfl rfl rfl h6 ?_
              refine o_q (q_ld ag3 sz3 rfl (gm i (by first | omega | simp)) rfl (v_raw rfl)) rfl rfl rfl ?_
              refine o_yes rfl rfl rfl h6 ?_
              refine o_q (q_mv (v_raw rfl)) rfl rfl rfl ?_
              refine o_yes rfl rfl rfl h6 ?_
              refine o_q (q_eql rfl rfl) rfl rfl rfl ?_
              refine o_q (q_pick_c (t := false) rfl h6 (v_raw rfl)) rfl rfl rfl ?_
              refine o_q (q_as (v_raw rfl)) rfl rfl rfl ?_
              refine o_nil ?_
              refine s_blk_normal ?_
              refine s_region ?_
              refine o_q (q_mv (v_raw rfl)) rfl rfl rfl ?_
              refine o_q (q_add rfl rfl (wrap64 (by omega) (by omega))) rfl rfl rfl ?_
              refine o_q (q_as (v_raw rfl)) rfl rfl rfl ?_
              refine o_nil ?_
              refine s_inv ?_
              have hb1 : last < nodes[i] ∧ nodes[i] < 7 := by
                rcases Nat.eq_zero_or_pos i with e | e
                · have := hl0 e; omega
                · have := hlx (by omega) e; omega
              exact ⟨nodes.length - (i + 1), by omega, _, i + 1, nodes[i], St.mkT (kp (kp (kp (kp (kp rfl rfl) rfl) rfl) (congrArg bool (by have := mem_take_succ (l := nodes) (i := i) (by omega) self; simp_all))) rfl).symm, by rw [hri, hrd, decide_eq_true hb1.1, decide_eq_true hb1.2]; rfl, fun j h hj => by (have e : j = i := (by omega); subst e; rfl), fun h => by omega, by omega, by omega, rfl⟩
            · have k6 := h6; try simp only [decide_eq_true_eq, decide_eq_false_iff_not, Bool.not_eq_true', Bool.not_eq_false', Bool.not_true, Bool.not_false, List.length_map, Decidable.not_not] at k6
              refine o_no rfl rfl rfl rfl h6 ?_
              refine o_no rfl rfl rfl rfl h6 ?_
              refine o_no rfl rfl rfl rfl h6 ?_
              refine o_no rfl rfl rfl rfl h6 ?_
              refine o_no rfl rfl rfl rfl h6 ?_
              refine o_no rfl rfl rfl rfl h6 ?_
              refine o_q (q_pick_c (t := true) rfl h6 (v_raw rfl)) rfl rfl rfl ?_
              refine o_q (q_as (v_raw rfl)) rfl rfl rfl ?_
              refine o_nil ?_
              refine s_blk_normal ?_
              refine s_region ?_
              refine o_q (q_mv (v_raw rfl)) rfl rfl rfl ?_
              refine o_q (q_add rfl rfl (wrap64 (by omega) (by omega))) rfl rfl rfl ?_
              refine o_q (q_as (v_raw rfl)) rfl rfl rfl ?_
              refine o_nil ?_
              refine s_inv ?_
              have hb1 : last < nodes[i] ∧ nodes[i] < 7 := by
                rcases Nat.eq_zero_or_pos i with e | e
                · have := hl0 e; omega
                · have := hlx (by omega) e; omega
              exact ⟨nodes.length - (i + 1), by omega, _, i + 1, nodes[i], St.mkT (kp (kp (kp (kp (kp rfl rfl) rfl) rfl) (congrArg bool (by have := mem_take_succ (l := nodes) (i := i) (by omega) self; simp_all))) rfl).symm, by rw [hri, hrd, decide_eq_true hb1.1, decide_eq_true hb1.2]; rfl, fun j h hj => by (have e : j = i := (by omega); subst e; rfl), fun h => by omega, by omega, by omega, rfl⟩
        · have k4 := h4; try simp only [decide_eq_true_eq, decide_eq_false_iff_not, Bool.not_eq_true', Bool.not_eq_false', Bool.not_true, Bool.not_false, List.length_map, Decidable.not_not] at k4
          refine d_no rfl rfl rfl rfl h4 rfl ?_
          refine d_no rfl rfl rfl rfl h4 rfl ?_
          refine d_no rfl rfl rfl rfl h4 rfl ?_
          refine d_no rfl rfl rfl rfl h4 rfl ?_
          refine d_no rfl rfl rfl rfl h4 rfl ?_
          refine d_no rfl rfl rfl rfl h4 rfl ?_
          refine d_no rfl rfl rfl rfl h4 rfl ?_
          refine d_no rfl rfl rfl rfl h4 rfl ?_
          refine d_no rfl rfl rfl rfl h4 rfl ?_
          refine d_no rfl rfl rfl rfl h4 rfl ?_
          refine d_yes rfl (q_pick_c (t := false) rfl h4 (v_raw rfl)) rfl rfl rfl h3 rfl rfl ?_
          refine d_q rfl (q_pick_c (t := false) rfl h3 (v_raw rfl)) rfl rfl rfl ?_
          refine d_nil ?_
          refine s_else rfl rfl ?_
          refine s_skip ?_
          refine s_region ?_
          refine o_q (q_mv (v_raw rfl)) rfl rfl rfl ?_
          refine o_q (q_mv (v_raw rfl)) rfl rfl rfl ?_
          refine o_cases (want := false) (j := 1) rfl rfl (fun h7 => ?_) (fun h7 => ?_)
          · have k7 := h7; try simp only [decide_eq_true_eq, decide_eq_false_iff_not, Bool.not_eq_true', Bool.not_eq_false', Bool.not_true, Bool.not_false, List.length_map, Decidable.not_not] at k7
            refine o_yes rfl rfl rfl h7 ?_
            refine o_q (q_mv ((by first | exact v_raw rfl | exact v_sl rfl))) rfl rfl rfl ?_
            refine o_yes rfl rfl rfl h7 ?_
            refine o_q (q_mv (v_raw rfl)) rfl rfl rfl ?_
            refine o_yes rfl rfl rfl h7 ?_
            refine o_q (q_idx und25 sz3 rfl rfl (by omega) (gm i (by first | omega | simp)) rfl) rfl rfl rfl ?_
            refine o_yes rfl rfl rfl h7 ?_
            refine o_q (q_ld ag3 sz3 rfl (gm i (by first | omega | simp)) rfl (v_raw rfl)) rfl rfl rfl ?_
            refine o_yes rfl rfl rfl h7 ?_
            refine o_q (q_mv (v_raw rfl)) rfl rfl rfl ?_
            refine o_yes rfl rfl rfl h7 ?_
            refine o_q (q_eql rfl rfl) rfl rfl rfl ?_
            refine o_q (q_pick_c (t := false) rfl h7 (v_raw rfl)) rfl rfl rfl ?_
            refine o_q (q_as (v_raw rfl)) rfl rfl rfl ?_
            refine o_nil ?_
            refine s_blk_normal ?_
            refine s_region ?_
            refine o_q (q_mv (v_raw rfl)) rfl rfl rfl ?_
            refine o_q (q_add rfl rfl (wrap64 (by omega) (by omega))) rfl rfl rfl ?_
            refine o_q (q_as (v_raw rfl)) rfl rfl rfl ?_
            refine o_nil ?_
            refine s_inv ?_
            have hb1 : last < nodes[i] ∧ nodes[i] < 7 := by
              rcases Nat.eq_zero_or_pos i with e | e
              · have := hl0 e; omega
              · have := hlx (by omega) e; omega
            exact ⟨nodes.length - (i + 1), by omega, _, i + 1, nodes[i], St.mkT (kp (kp (kp (kp (kp rfl rfl) rfl) rfl) (congrArg bool (by have := mem_take_succ (l := nodes) (i := i) (by omega) self; simp_all))) rfl).symm, by rw [hri, hrd, decide_eq_true hb1.1, decide_eq_true hb1.2]; rfl, fun j h hj => by (have e : j = i := (by omega); subst e; rfl), fun h => by omega, by omega, by omega, rfl⟩
          · have k7 := h7; try simp only [decide_eq_true_eq, decide_eq_false_iff_not, Bool.not_eq_true', Bool.not_eq_false', Bool.not_true, Bool.not_false, List.length_map, Decidable.not_not] at k7
            refine o_no rfl rfl rfl rfl h7 ?_
            refine o_no rfl rfl rfl rfl h7 ?_
            refine o_no rfl rfl rfl rfl h7 ?_
            refine o_no rfl rfl rfl rfl h7 ?_
            refine o_no rfl rfl rfl rfl h7 ?_
            refine o_no rfl rfl rfl rfl h7 ?_
            refine o_q (q_pick_c (t := true) rfl h7 (v_raw rfl)) rfl rfl rfl ?_
            refine o_q (q_as (v_raw rfl)) rfl rfl rfl ?_
            refine o_nil ?_
            refine s_blk_normal ?_
            refine s_region ?_
            refine o_q (q_mv (v_raw rfl)) rfl rfl rfl ?_
            refine o_q (q_add rfl rfl (wrap64 (by omega) (by omega))) rfl rfl rfl ?_
            refine o_q (q_as (v_raw rfl)) rfl rfl rfl ?_
            refine o_nil ?_
            refine s_inv ?_
            have hb1 : last < nodes[i] ∧ nodes[i] < 7 := by
              rcases Nat.eq_zero_or_pos i with e | e
              · have := hl0 e; omega
              · have := hlx (by omega) e; omega
            exact ⟨nodes.length - (i + 1), by omega, _, i + 1, nodes[i], St.mkT (kp (kp (kp (kp (kp rfl rfl) rfl) rfl) (congrArg bool (by have := mem_take_succ (l := nodes) (i := i) (by omega) self; simp_all))) rfl).symm, by rw [hri, hrd, decide_eq_true hb1.1, decide_eq_true hb1.2]; rfl, fun j h hj => by (have e : j = i := (by omega); subst e; rfl), fun h => by omega, by omega, by omega, rfl⟩
      · have k3 := h3; try simp only [decide_eq_true_eq, decide_eq_false_iff_not, Bool.not_eq_true', Bool.not_eq_false', Bool.not_true, Bool.not_false, List.length_map, Decidable.not_not] at k3
        refine d_no rfl rfl rfl rfl h3 rfl ?_
        refine d_no rfl rfl rfl rfl h3 rfl ?_
        refine d_no rfl rfl rfl rfl h3 rfl ?_
        refine d_skip rfl rfl rfl rfl rfl ?_
        refine d_skip rfl rfl rfl rfl rfl ?_
        refine d_skip rfl rfl rfl rfl rfl ?_
        refine d_skip rfl rfl rfl rfl rfl ?_
        refine d_skip rfl rfl rfl rfl rfl ?_
        refine d_skip rfl rfl rfl rfl rfl ?_
        refine d_skip rfl rfl rfl rfl rfl ?_
        refine d_skip rfl rfl rfl rfl rfl ?_
        refine d_skip rfl rfl rfl rfl rfl ?_
        refine d_skip rfl rfl rfl rfl rfl ?_
        refine d_no rfl rfl rfl rfl h3 rfl ?_
        refine d_q rfl (q_pick_c (t := true) rfl h3 (v_raw rfl)) rfl rfl rfl ?_
        refine d_nil ?_
        refine s_then rfl rfl ?_
        refine s_seq ?_
        refine s_region ?_
        refine o_q (q_as ((by first | exact v_raw rfl | exact v_sptr rfl))) rfl rfl rfl ?_
        refine o_nil ?_
        refine s_ret ?_
        refine s_code_ret ?_
        refine s_blk_ret ?_
        refine s_code_ret ?_
        refine s_inv_ret ?_
        refine s_blk_ret ?_
        refine s_code_ret ?_
        refine s_end ?_
        refine .inl ⟨?_, rfl, rfl⟩
        unfold okNew
        rw [hri, hrd]
        rcases Nat.eq_zero_or_pos i with e | e
        · have := hl0 e
          simp
          intros
          omega
        · have := hlx (by omega) e
          simp
          intros
          omega
    · have k2 := h2; try simp only [decide_eq_true_eq, decide_eq_false_iff_not, Bool.not_eq_true', Bool.not_eq_false', Bool.not_true, Bool.not_false, List.length_map, Decidable.not_not] at k2
      refine d_no rfl rfl rfl rfl h2 rfl ?_
      refine d_no rfl rfl rfl rfl h2 rfl ?_
      refine d_no rfl rfl rfl rfl h2 rfl ?_
      refine d_no rfl rfl rfl rfl h2 rfl ?_
      refine d_no rfl rfl rfl rfl h2 rfl ?_
      refine d_q rfl (q_pick_c (t := true) rfl h2 (v_raw rfl)) rfl rfl rfl ?_
      refine d_q rfl (q_mv (v_raw rfl)) rfl rfl rfl ?_
      refine d_no rfl rfl rfl rfl rfl rfl ?_
      refine d_no rfl rfl rfl rfl rfl rfl ?_
      refine d_no rfl rfl rfl rfl rfl rfl ?_
      refine d_skip rfl rfl rfl rfl rfl ?_
      refine d_skip rfl rfl rfl rfl rfl ?_
      refine d_skip rfl rfl rfl rfl rfl ?_
      refine d_skip rfl rfl rfl rfl rfl ?_
      refine d_skip rfl rfl rfl rfl rfl ?_
      refine d_skip rfl rfl rfl rfl rfl ?_
      refine d_skip rfl rfl rfl rfl rfl ?_
      refine d_skip rfl rfl rfl rfl rfl ?_
      refine d_skip rfl rfl rfl rfl rfl ?_
      refine d_skip rfl rfl rfl rfl rfl ?_
      refine d_no rfl rfl rfl rfl rfl rfl ?_
      refine d_q rfl (q_pick_c (t := true) rfl rfl (v_raw rfl)) rfl rfl rfl ?_
      refine d_nil ?_
      refine s_then rfl rfl ?_
      refine s_seq ?_
      refine s_region ?_
      refine o_q (q_as ((by first | exact v_raw rfl | exact v_sptr rfl))) rfl rfl rfl ?_
      refine o_nil ?_
      refine s_ret ?_
      refine s_code_ret ?_
      refine s_blk_ret ?_
      refine s_code_ret ?_
      refine s_inv_ret ?_
      refine s_blk_ret ?_
      refine s_code_ret ?_
      refine s_end ?_
      refine .inl ⟨?_, rfl, rfl⟩
      unfold okNew
      rw [hri, hrd]
      rcases Nat.eq_zero_or_pos i with e | e
      · have := hl0 e
        simp
        intros
        omega
      · have := hlx (by omega) e
        simp
        intros
        omega
  · have k1 := h1; try simp only [decide_eq_true_eq, decide_eq_false_iff_not, Bool.not_eq_true', Bool.not_eq_false', Bool.not_true, Bool.not_false, List.length_map, Decidable.not_not] at k1
    have hro : rise (-1) nodes = true := by rw [hri, List.drop_of_length_le (by omega)]; rfl
    have htk : nodes.take i = nodes := List.take_of_length_le (by omega)
    have hrl := rise_len hro (by omega)
    refine s_exit ?_
    refine s_code_exit ?_
    refine s_inv_exit ?_
    refine s_blk_here ?_
    refine s_seq ?_
    refine s_seq ?_
    refine s_region ?_
    refine o_q (q_mv (v_raw rfl)) rfl rfl rfl ?_
    refine o_q (q_not rfl) rfl rfl rfl ?_
    refine o_nil ?_
    refine s_cond rfl (fun h8 => ?_) (fun h8 => ?_)
    · have k8 := h8; try simp only [decide_eq_true_eq, decide_eq_false_iff_not, Bool.not_eq_true', Bool.not_eq_false', Bool.not_true, Bool.not_false, List.length_map, Decidable.not_not] at k8
      refine s_seq ?_
      refine s_region ?_
      refine o_q (q_as ((by first | exact v_raw rfl | exact v_sptr rfl))) rfl rfl rfl ?_
      refine o_nil ?_
      refine s_ret ?_
      refine s_code_ret ?_
      refine s_end ?_
      exact .inl ⟨by unfold okNew; rw [htk] at *; simp_all, rfl, rfl⟩
    · have k8 := h8; try simp only [decide_eq_true_eq, decide_eq_false_iff_not, Bool.not_eq_true', Bool.not_eq_false', Bool.not_true, Bool.not_false, List.length_map, Decidable.not_not] at k8
      refine s_skip ?_
      refine s_seq ?_
      refine s_region ?_
      refine o_q (q_mv (v_raw rfl)) rfl rfl rfl ?_
      refine o_q (q_mv ((by first | exact v_raw rfl | exact v_sl rfl))) rfl rfl rfl ?_
      refine o_q (q_len rfl und22 rfl) rfl rfl rfl ?_
      refine o_q (q_mv ((by first | exact v_raw rfl | exact v_sl rfl))) rfl rfl rfl ?_
      refine o_q (q_len rfl und22 rfl) rfl rfl rfl ?_
      refine o_makeSlice und25 sz3 by3 zc3 rfl (by decide) rfl rfl (by omega) (by omega) (by omega) (by omega) (fun B1 hB1 => ?_)
      refine o_q (q_b (cs := [_, .raw (.slice none 0 0), .raw (.slice none 0 0), _, _, _]) bz50 bp50 (bf fo50_0 (e_raw rfl) rfl rfl (Nat.le_of_ble_eq_true rfl) rfl (bf fo50_3 (e_raw rfl) rfl rfl (Nat.le_of_ble_eq_true rfl) rfl (bf fo50_4 (e_raw rfl) rfl rfl (Nat.le_of_ble_eq_true rfl) rfl (bf fo50_5 (e_raw rfl) rfl rfl (Nat.le_of_ble_eq_true rfl) rfl bf_nil))))) rfl rfl rfl ?_
      refine o_box (by first | exact e_raw rfl | exact e_agg rfl | exact e_sl rfl) rfl rfl (fun B2 hB2 => ?_)
      have n12 : B1 ≠ B2 := Mem.fresh_ne hB2 (Mem.upd_self _ _ _)
      have n21 := n12.symm
      have m2 := (Mem.upd_none hB2).2
      refine o_q (q_as ((by first | exact v_raw rfl | exact v_sptr rfl))) rfl rfl rfl ?_
      refine o_nil ?_
      refine s_seq ?_
      refine s_region ?_
      refine o_q (q_mv ((by first | exact v_raw rfl | exact v_sptr rfl))) rfl rfl rfl ?_
      refine o_q (q_mv ((by first | exact v_raw rfl | exact v_sptr rfl))) rfl rfl rfl ?_
      refine o_q (q_nil rfl) rfl rfl rfl ?_
      refine o_q (q_fr fo50_1 rfl) rfl rfl rfl ?_
      refine o_q (q_ldm ag25 sz25 rfl (by repeat first | exact Mem.upd_self _ _ _ | assumption | refine Mem.upd_ne (by assumption) ?_) rfl ((by first | exact v_raw rfl | exact v_sl rfl))) rfl rfl rfl ?_
      refine o_q (q_mv ((by first | exact v_raw rfl | exact v_sl rfl))) rfl rfl rfl ?_
      refine o_apps slt25 rfl rfl (by first | exact .inl rfl | exact .inr rfl) (src_sl rfl) (by first | exact Els.nil | exact elsInt) (by simp; omega) ?_
      refine o_q (q_nil rfl) rfl rfl rfl ?_
      refine o_q (q_fr fo50_1 rfl) rfl rfl rfl ?_
      refine o_store_own rfl (by repeat first | exact Mem.upd_self _ _ _ | assumption | refine Mem.upd_ne (by assumption) ?_) rfl sz25 (Nat.le_of_ble_eq_true rfl) ?_
      refine o_nil ?_
      refine s_seq ?_
      refine s_region ?_
      refine o_q (q_mv ((by first | exact v_raw rfl | exact v_sptr rfl))) rfl rfl rfl ?_
      refine o_q (q_mv ((by first | exact v_raw rfl | exact v_sptr rfl))) rfl rfl rfl ?_
      refine o_q (q_nil rfl) rfl rfl rfl ?_
      refine o_q (q_fr fo50_2 rfl) rfl rfl rfl ?_
      refine o_q (q_ldm ag22 sz22 rfl (by repeat first | exact Mem.upd_self _ _ _ | assumption | refine Mem.upd_ne (by assumption) ?_) rfl ((by first | exact v_raw rfl | exact v_sl rfl))) rfl rfl rfl ?_
      refine o_q (q_mv ((by first | exact v_raw rfl | exact v_sl rfl))) rfl rfl rfl ?_
      refine o_apps slt22 rfl rfl (by first | exact .inl rfl | exact .inr rfl) (src_sl rfl) (by first | exact Els.nil | exact elsStr) (by simp; omega) ?_
      refine o_q (q_nil rfl) rfl rfl rfl ?_
      refine o_q (q_fr fo50_2 rfl) rfl rfl rfl ?_
      refine o_store_own rfl (by repeat first | exact Mem.upd_self _ _ _ | assumption | refine Mem.upd_ne (by assumption) ?_) rfl sz22 (Nat.le_of_ble_eq_true rfl) ?_
      refine o_nil ?_
      refine s_seq ?_
      refine s_region ?_
      refine o_q (q_mv ((by first | exact v_raw rfl | exact v_sptr rfl))) rfl rfl rfl ?_
      refine o_q (q_as ((by first | exact v_raw rfl | exact v_sptr rfl))) rfl rfl rfl ?_
      refine o_nil ?_
      refine s_ret ?_
      refine s_end ?_
      exact .inr ⟨by unfold okNew; rw [htk] at *; simp_all, B2, B1, m2, hB1, n21, rfl, by simp only [Mem.upd_upd, List.length_map]; rfl⟩

def tk32r : Nat → Nat → Option Nat := fun _ _ => none
def pl32r : Nat → List PStep := fun _ => []
theorem cb32r : Try.f32.body.map (codeB Try.prog Try.f32.ntmps tk32r pl32r) = some true := by kernel_rfl
-- slices.Clone[[]string,string] params ['[]string'] results [['t', 2]] own [5] names ['0:s', '1:s'] calls [] paths 2
abbrev emp0 : ByteArray := { data := #[] }
abbrev rawS (base : Option Addr) (n c : Nat) : AVal := .raw (.slice base n c)
set_option maxHeartbeats 4000000 in
set_option maxRecDepth 20000 in
theorem snd32s (l : List ByteArray) (o : Bool) (M : Mem) (hl : l.length ≤ 2 ^ 43) : SoundCall Try.prog 32 [.sl (l.map str) o] M fun r M' => (r = .sl [] false ∧ l = [] ∧ M' = M) ∨ ∃ base c, r = rawS base (l).length c ∧ Fr str emp0 M M' base c (l) := by
  refine SoundCall.go tk32r pl32r mixed Try.func32 cb32r rfl (Nat.le_of_ble_eq_true rfl) ?_
  refine s_seq ?_
  refine s_region ?_
  refine o_q (q_as (v_sl rfl)) rfl rfl rfl ?_
  refine o_nil ?_
  refine s_seq ?_
  refine s_seq ?_
  refine s_region ?_
  refine o_q (q_mv (v_sl rfl)) rfl rfl rfl ?_
  refine o_nilcmp und22 rfl rfl (.inl rfl) (fun nh1 h1n => ?_)
  refine o_nil ?_
  refine s_cond rfl (fun h2 => ?_) (fun h2 => ?_)
  · have k2 := h2; try simp only [decide_eq_true_eq, decide_eq_false_iff_not, Bool.not_eq_true', Bool.not_eq_false', Bool.not_true, Bool.not_false, List.length_map, Decidable.not_not] at k2
    obtain rfl : l = [] := by
      rcases l with _ | ⟨a, l⟩
      · rfl
      · have := h1n (by simp); subst this; cases h2
    refine s_seq ?_
    refine s_region ?_
    refine o_q (q_as (v_sl rfl)) rfl rfl rfl ?_
    refine o_nil ?_
    refine s_ret ?_
    refine s_code_ret ?_
    refine s_end ?_
    exact .inl ⟨rfl, rfl, rfl⟩
  · have k2 := h2; try simp only [decide_eq_true_eq, decide_eq_false_iff_not, Bool.not_eq_true', Bool.not_eq_false', Bool.not_true, Bool.not_false, List.length_map, Decidable.not_not] at k2
    refine s_skip ?_
    refine s_seq ?_
    refine s_region ?_
    refine o_q (q_bs slt22 pn rfl Els.nil (by decide)) rfl rfl rfl ?_
    refine o_q (q_mv (v_sl rfl)) rfl rfl rfl ?_
    refine o_appf (f := str) (z0 := ({ data := #[] } : ByteArray)) slt22 rfl rfl zc9 (fun _ => ⟨rfl, rfl, rfl, rfl⟩) (by first | exact .inl rfl | exact .inr rfl) (src_sl rfl) (by omega) (fun P1 C1 N1 hF1 => ?_)
    refine o_q (q_as (v_raw rfl)) rfl rfl rfl ?_
    refine o_nil ?_
    refine s_ret ?_
    refine s_end ?_
    exact .inr ⟨_, _, rfl, hF1⟩
theorem copyS (l : List ByteArray) (o : Bool) (M : Mem) (hl : l.length ≤ 2 ^ 43) : SoundCall Try.prog 32 [.sl (l.map str) o] M fun r M' => ∃ base c, r = rawS base l.length c ∧ Fr str emp0 M M' base c l :=
  (snd32s l o M hl).rawnil fun r M' h => by
    rcases h with ⟨rfl, rfl, rfl⟩ | h
    · exact .inr ⟨false, rfl, fun base c => ⟨base, c, rfl, ⟨fun _ => rfl, fun h => absurd rfl h⟩⟩⟩
    · exact .inl h


def tk27r : Nat → Nat → Option Nat := fun _ _ => none
def pl27r : Nat → List PStep := fun _ => []
theorem cb27r : Try.f27.body.map (codeB Try.prog Try.f27.ntmps tk27r pl27r) = some true := by kernel_rfl
-- (*carillon/order.Order).Log params ['*order.Order'] results [['t', 2]] own [] names ['0:o', '1:o'] calls [32] paths 1
set_option maxHeartbeats 4000000 in
set_option maxRecDepth 20000 in
theorem snd27r (b : Nat) (o : Od) (M : Mem) (hb : M b = some (.cells (odC o))) (hlg : o.log.length + 2 ≤ 2 ^ 43) : SoundCall Try.prog 27 [ptr b] M fun r M' => ∃ base c, r = rawS base (o.log).length c ∧ Fr str emp0 M M' base c (o.log) := by
  refine SoundCall.go tk27r pl27r mixed Try.func27 cb27r rfl (Nat.le_of_ble_eq_true rfl) ?_
  refine s_seq ?_
  refine s_region ?_
  refine o_q (q_as (v_sl rfl)) rfl rfl rfl ?_
  refine o_nil ?_
  refine s_seq ?_
  refine s_region ?_
  refine o_q (q_mv ((by first | exact v_raw rfl | exact v_sptr rfl))) rfl rfl rfl ?_
  refine o_q (q_nil rfl) rfl rfl rfl ?_
  refine o_q (q_fr fo66_2 rfl) rfl rfl rfl ?_
  refine o_q (q_ldm ag22 sz22 rfl (by repeat first | exact Mem.upd_self _ _ _ | assumption | refine Mem.upd_ne (by assumption) ?_) rfl (v_sl rfl)) rfl rfl rfl ?_
  refine o_callx ((copyS o.log _ _ (by omega))) goes32 (ac (v_sl rfl) ac_nil) rfl ?_
  rintro r M' ⟨base, c, rfl, hF⟩
  refine o_q (q_as (v_raw rfl)) rfl rfl rfl ?_
  refine o_nil ?_
  refine s_ret ?_
  refine s_end ?_
  exact ⟨_, _, rfl, hF⟩

def tk11r : Nat → Nat → Option Nat := fun _ _ => none
def pl11r : Nat → List PStep := fun _ => []
theorem cb11r : Try.f11.body.map (codeB Try.prog Try.f11.ntmps tk11r pl11r) = some true := by kernel_rfl
-- (*carillon/order.Order).Wants params ['*order.Order', 'int', 'int'] results [['t', 6], ['t', 7]] own [] names ['0:o', '1:node', '2:most', '3:o', '4:node', '5:most', '8:at', '9:l'] calls [32, 36] paths 2
set_option maxHeartbeats 4000000 in
set_option maxRecDepth 20000 in
theorem snd11r (b : Nat) (o : Od) (v most : Int) (M : Mem) (hb : M b = some (.cells (odC o))) (h0 : 0 < o.nodes.length) (hha : o.has.length = 7) (h7 : o.nodes.length ≤ 7) (hnr : ∀ n ∈ o.nodes, 0 ≤ n ∧ n < 7) (hhA : ∀ w ∈ o.nodes, 0 ≤ hv o w ∧ hv o w ≤ o.log.length) (hlg : o.log.length + 2 ≤ 2 ^ 43) : SoundCall Try.prog 11 [ptr b, int v, int most] M fun r M' => (r = .tup [.raw (.int .i64 (-1)), .sl [] false] ∧ wantsO o v most = (-1, []) ∧ M' = M) ∨ ∃ base c, r = .tup [int (wantsO o v most).1, rawS base (wantsO o v most).2.length c] ∧ Fr str emp0 M M' base c (wantsO o v most).2 := by
  have hn : o.nodes ≠ [] := fun h => by rw [h] at h0; simp at h0
  refine SoundCall.go tk11r pl11r mixed Try.func11 cb11r rfl (Nat.le_of_ble_eq_true rfl) ?_
  refine s_seq ?_
  refine s_region ?_
  refine o_q (q_as (v_raw rfl)) rfl rfl rfl ?_
  refine o_q (q_as (v_sl rfl)) rfl rfl rfl ?_
  refine o_nil ?_
  refine s_seq ?_
  refine s_seq ?_
  refine s_region ?_
  refine o_q (q_mv ((by first | exact v_raw rfl | exact v_sptr rfl))) rfl rfl rfl ?_
  refine o_q (q_mv (v_raw rfl)) rfl rfl rfl ?_
  refine o_call ((snd36 b o v _ hb hn (by omega))) goes36 (ac ((by first | exact v_raw rfl | exact v_sptr rfl)) (ac (v_raw rfl) ac_nil)) rfl ?_
  refine o_q (q_not rfl) rfl rfl rfl ?_
  refine o_nil ?_
  refine s_cond rfl (fun h1 => ?_) (fun h1 => ?_)
  · have k1 := h1; try simp only [decide_eq_true_eq, decide_eq_false_iff_not, Bool.not_eq_true', Bool.not_eq_false', Bool.not_true, Bool.not_false, List.length_map, Decidable.not_not] at k1
    have hot : otherO o v = false := by simp_all [otherO]
    refine s_seq ?_
    refine s_region ?_
    refine o_q (q_as (v_raw rfl)) rfl rfl rfl ?_
    refine o_q (q_as (v_sl rfl)) rfl rfl rfl ?_
    refine o_nil ?_
    refine s_ret ?_
    refine s_code_ret ?_
    refine s_end ?_
    exact ret_many (.inl rfl) rfl (rl_t rfl (rl_t rfl rl_nil)) rfl (.inl ⟨rfl, by unfold wantsO; rw [hot]; rfl, rfl⟩)
  · have k1 := h1; try simp only [decide_eq_true_eq, decide_eq_false_iff_not, Bool.not_eq_true', Bool.not_eq_false', Bool.not_true, Bool.not_false, List.length_map, Decidable.not_not] at k1
    have hot : otherO o v = true := by simp_all [otherO]
    have hvm : v ∈ o.nodes := by simp [otherO] at hot; exact hot.2
    have hhb := hhA v hvm
    have hvr := hnr v hvm
    have hlm : (List.map str (o.log.drop (hv o v).toNat)).length = (o.log.drop (hv o v).toNat).length := List.length_map _
    refine s_skip ?_
    refine s_seq ?_
    refine s_region ?_
    refine o_q (q_mv ((by first | exact v_raw rfl | exact v_sptr rfl))) rfl rfl rfl ?_
    refine o_q (q_mv (v_raw rfl)) rfl rfl rfl ?_
    refine o_q (q_nil rfl) rfl rfl rfl ?_
    refine o_q (q_fr fo66_5 rfl) rfl rfl rfl ?_
    refine o_q (q_idxa und64 sz3 rfl rfl (by omega) (by omega)) rfl rfl rfl ?_
    refine o_q (q_ldm ag3 sz3 rfl (by repeat first | exact Mem.upd_self _ _ _ | assumption | refine Mem.upd_ne (by assumption) ?_) (od_get (n := v) (by omega) (by omega)) (v_raw rfl)) rfl rfl rfl ?_
    refine o_q (q_as (v_raw rfl)) rfl rfl rfl ?_
    refine o_nil ?_
    refine s_seq ?_
    refine s_region ?_
    refine o_q (q_mv ((by first | exact v_raw rfl | exact v_sptr rfl))) rfl rfl rfl ?_
    refine o_q (q_nil rfl) rfl rfl rfl ?_
    refine o_q (q_fr fo66_2 rfl) rfl rfl rfl ?_
    refine o_q (q_ldm ag22 sz22 rfl (by repeat first | exact Mem.upd_self _ _ _ | assumption | refine Mem.upd_ne (by assumption) ?_) rfl (v_sl rfl)) rfl rfl rfl ?_
    refine o_q (q_mv (v_raw rfl)) rfl rfl rfl ?_
    refine o_q (q_sl_lo (n := (hv o v).toNat) und22 sz9 rfl elsStr (ab rfl (by omega)) (by omega)) rfl rfl rfl ?_
    refine o_q (q_as (v_sl rfl)) rfl rfl rfl ?_
    refine o_nil ?_
    refine s_seq ?_
    refine s_region ?_
    refine o_q (q_mv (v_raw rfl)) rfl rfl rfl ?_
    refine o_q (q_mv (v_sl rfl)) rfl rfl rfl ?_
    refine o_q (q_mv (v_raw rfl)) rfl rfl rfl ?_
    refine o_q (q_max rfl rfl) rfl rfl rfl ?_
    refine o_q (q_mv (v_sl rfl)) rfl rfl rfl ?_
    refine o_q (q_len rfl und22 rfl) rfl rfl rfl ?_
    refine o_q (q_min rfl rfl) rfl rfl rfl ?_
    refine o_q (q_sl_hi (n := (min (max most 0) ((o.log.drop (hv o v).toNat).length : Int)).toNat) und22 sz9 rfl elsStr (ab rfl (by rw [List.length_map]; omega)) (by omega)) rfl rfl rfl ?_
    refine o_callx ((copyS _ _ _ (by rw [List.length_take, List.length_drop]; omega))) goes32 (ac (v_sl rfl) ac_nil) rfl ?_
    rintro r M' ⟨base, c, rfl, hF⟩
    refine o_q (q_as (v_raw rfl)) rfl rfl rfl ?_
    refine o_q (q_as (v_raw rfl)) rfl rfl rfl ?_
    refine o_nil ?_
    refine s_ret ?_
    refine s_end ?_
    have hwe : wantsO o v most = (hv o v, (o.log.drop (hv o v).toNat).take (min (max most 0) (o.log.drop (hv o v).toNat).length : Int).toNat) := by unfold wantsO; rw [if_pos hot, ← take_minS]
    exact ret_many (.inl rfl) rfl (rl_t rfl (rl_t rfl rl_nil)) rfl (.inr (by rw [hwe]; exact ⟨_, _, rfl, hF⟩))
theorem wantsS {b : Nat} {o : Od} {M : Mem} (hb : M b = some (.cells (odC o))) (h : OK o) {v most : Int} (hlg : o.log.length + 2 ≤ 2 ^ 43) : SoundCall Try.prog 11 [ptr b, int v, int most] M fun r M' => ∃ base c, r = .tup [int (wantsO o v most).1, rawS base (wantsO o v most).2.length c] ∧ Fr str emp0 M M' base c (wantsO o v most).2 :=
  (snd11r b o v most M hb h.h0 h.has h.h7 h.hnr h.hvb hlg).rawnil2 fun r M' h => by
    rcases h with ⟨rfl, hw, rfl⟩ | h
    · exact .inr ⟨_, false, rfl, fun base c => by rw [hw]; exact ⟨base, c, rfl, ⟨fun _ => rfl, fun h => absurd rfl h⟩⟩⟩
    · exact .inl h


-- slices.Clone[[]int,int] params ['[]int'] results [['t', 2]] own [5] names ['0:s', '1:s'] calls [] paths 2

theorem pcA {l : List Int} {k off j : Nat} (h : off = j) (hj : j < l.length) : piece false ((l ++ List.replicate k 0).map int) off 1 = some (.raw (.int .i64 l[j])) := by
  subst h
  show ((l ++ List.replicate k 0).map int)[off]? = _
  rw [List.getElem?_map, List.getElem?_append_left hj, List.getElem?_eq_getElem hj]; rfl
theorem pcS {l : List ByteArray} {k off j : Nat} (h : off = j) (hj : j < l.length) : piece false ((l ++ List.replicate k emp0).map str) off 1 = some (.raw (.string l[j])) := by
  subst h
  show ((l ++ List.replicate k emp0).map str)[off]? = _
  rw [List.getElem?_map, List.getElem?_append_left hj, List.getElem?_eq_getElem hj]; rfl
set_option maxHeartbeats 4000000 in
set_option maxRecDepth 20000 in
theorem snd31r (base : Option Addr) (c : Nat) (l : List Int) (M : Mem) (hA : At int 0 M base l) (hl : l.length ≤ 2 ^ 43) : SoundCall Try.prog 31 [rawS base l.length c] M fun r M' => r = .sl (l.map int) true ∧ M' = M := by
  refine SoundCall.go tk31 pl31 mixed Try.func31 cb31 rfl (Nat.le_of_ble_eq_true rfl) ?_
  refine s_seq ?_
  refine s_region ?_
  refine o_q (q_as_const rfl) rfl rfl rfl ?_
  refine o_nil ?_
  refine s_seq ?_
  refine s_seq ?_
  refine s_region ?_
  refine o_q (q_mv (v_raw rfl)) rfl rfl rfl ?_
  refine o_nilraw und25 rfl rfl (.inl rfl) (fun nh1 h1e h1n => ?_)
  refine o_nil ?_
  refine s_cond rfl (fun h2 => ?_) (fun h2 => ?_)
  · have k2 := h2; try simp only [decide_eq_true_eq, decide_eq_false_iff_not, Bool.not_eq_true', Bool.not_eq_false', Bool.not_true, Bool.not_false, List.length_map, Decidable.not_not] at k2
    obtain rfl : l = [] := hA.nil_of (by rw [← h1e rfl]; exact h2)
    refine s_seq ?_
    refine s_region ?_
    refine o_q (q_as_const rfl) rfl rfl rfl ?_
    refine o_nil ?_
    refine s_ret ?_
    refine s_code_ret ?_
    refine s_end ?_
    exact ⟨rfl, rfl⟩
  · have k2 := h2; try simp only [decide_eq_true_eq, decide_eq_false_iff_not, Bool.not_eq_true', Bool.not_eq_false', Bool.not_true, Bool.not_false, List.length_map, Decidable.not_not] at k2
    refine s_skip ?_
    refine s_seq ?_
    refine s_region ?_
    refine o_q (q_bs slt25 pn rfl Els.nil (by decide)) rfl rfl rfl ?_
    refine o_q (q_mv (v_raw rfl)) rfl rfl rfl ?_
    refine o_apps slt25 rfl rfl (by first | exact .inl rfl | exact .inr rfl) (src_at (fun _ => rfl) hA rfl) elsInt (by simp; omega) ?_
    refine o_qs (q_as_own rfl) rfl rfl rfl rfl ?_
    refine o_nil ?_
    refine s_ret ?_
    refine s_end ?_
    exact ⟨rfl, rfl⟩

-- slices.Clone[[]string,string] params ['[]string'] results [['t', 2]] own [5] names ['0:s', '1:s'] calls [] paths 2
set_option maxHeartbeats 4000000 in
set_option maxRecDepth 20000 in
theorem snd32r (base : Option Addr) (c : Nat) (l : List ByteArray) (M : Mem) (hA : At str emp0 M base l) (hl : l.length ≤ 2 ^ 43) : SoundCall Try.prog 32 [rawS base l.length c] M fun r M' => r = .sl (l.map str) true ∧ M' = M := by
  refine SoundCall.go tk32 pl32 mixed Try.func32 cb32 rfl (Nat.le_of_ble_eq_true rfl) ?_
  refine s_seq ?_
  refine s_region ?_
  refine o_q (q_as_const rfl) rfl rfl rfl ?_
  refine o_nil ?_
  refine s_seq ?_
  refine s_seq ?_
  refine s_region ?_
  refine o_q (q_mv (v_raw rfl)) rfl rfl rfl ?_
  refine o_nilraw und22 rfl rfl (.inl rfl) (fun nh1 h1e h1n => ?_)
  refine o_nil ?_
  refine s_cond rfl (fun h2 => ?_) (fun h2 => ?_)
  · have k2 := h2; try simp only [decide_eq_true_eq, decide_eq_false_iff_not, Bool.not_eq_true', Bool.not_eq_false', Bool.not_true, Bool.not_false, List.length_map, Decidable.not_not] at k2
    obtain rfl : l = [] := hA.nil_of (by rw [← h1e rfl]; exact h2)
    refine s_seq ?_
    refine s_region ?_
    refine o_q (q_as_const rfl) rfl rfl rfl ?_
    refine o_nil ?_
    refine s_ret ?_
    refine s_code_ret ?_
    refine s_end ?_
    exact ⟨rfl, rfl⟩
  · have k2 := h2; try simp only [decide_eq_true_eq, decide_eq_false_iff_not, Bool.not_eq_true', Bool.not_eq_false', Bool.not_true, Bool.not_false, List.length_map, Decidable.not_not] at k2
    refine s_skip ?_
    refine s_seq ?_
    refine s_region ?_
    refine o_q (q_bs slt22 pn rfl Els.nil (by decide)) rfl rfl rfl ?_
    refine o_q (q_mv (v_raw rfl)) rfl rfl rfl ?_
    refine o_apps slt22 rfl rfl (by first | exact .inl rfl | exact .inr rfl) (src_at (fun _ => rfl) hA rfl) elsStr (by simp; omega) ?_
    refine o_qs (q_as_own rfl) rfl rfl rfl rfl ?_
    refine o_nil ?_
    refine s_ret ?_
    refine s_end ?_
    exact ⟨rfl, rfl⟩

-- slices.Index[[]int,int] params ['[]int', 'int'] results [['t', 4]] own [] names ['0:s', '1:v', '2:s', '3:v', '5:i'] calls [] paths 3
set_option maxHeartbeats 4000000 in
set_option maxRecDepth 20000 in
theorem snd40r (base : Option Addr) (c : Nat) (l : List Int) (v : Int) (M : Mem) (hA : At int 0 M base l) (hl : l.length < 2 ^ 60) : SoundCall Try.prog 40 [rawS base l.length c, int v] M fun r M' => ∃ k : Int, r = int k ∧ decide (0 ≤ k) = decide (v ∈ l) ∧ M' = M := by
  refine SoundCall.go tk40 pl40 mixed Try.func40 cb40 rfl (Nat.le_of_ble_eq_true rfl) ?_
  refine s_seq ?_
  refine s_region ?_
  refine o_q (q_as (v_raw rfl)) rfl rfl rfl ?_
  refine o_nil ?_
  refine s_seq ?_
  refine s_seq ?_
  refine s_region ?_
  refine o_q (q_mv (v_raw rfl)) rfl rfl rfl ?_
  refine o_q (q_lenr rfl und25 rfl) rfl rfl rfl ?_
  refine o_q (q_mv (v_raw rfl)) rfl rfl rfl ?_
  refine o_nil ?_
  refine s_block ?_
  refine s_loop (fun m S => ∃ T, ∃ i : Nat, S = ⟨setT (setT (setT (setT T 0 (rawS base l.length c)) 1 (int v)) 7 (int l.length)) 8 (int (i : Nat)), M⟩ ∧ (∀ j, ∀ hj : j < l.length, j < i → l[j] ≠ v) ∧ i ≤ l.length ∧ m = l.length - i) l.length ?_ ?_
  · exact ⟨_, 0, St.mkT (kp (kp (kp (kp rfl rfl) rfl) rfl) rfl).symm, fun j hj h => by omega, by omega, rfl⟩
  rintro m S ⟨T, i, rfl, hno, hi, rfl⟩
  refine s_seq ?_
  refine s_region ?_
  refine o_q (q_lss rfl rfl) rfl rfl rfl ?_
  refine o_nil ?_
  refine s_seq ?_
  refine s_cond rfl (fun h1 => ?_) (fun h1 => ?_)
  · have k1 := h1; try simp only [decide_eq_true_eq, decide_eq_false_iff_not, Bool.not_eq_true', Bool.not_eq_false', Bool.not_true, Bool.not_false, List.length_map, Decidable.not_not] at k1
    obtain ⟨b1, k1, rfl, hb1⟩ := hA.at_ (List.ne_nil_of_length_pos (l := l) (by omega))
    refine s_skip ?_
    refine s_seq ?_
    refine s_block ?_
    refine s_seq ?_
    refine s_region ?_
    refine o_q (q_mv (v_raw rfl)) rfl rfl rfl ?_
    refine o_q (q_as (v_raw rfl)) rfl rfl rfl ?_
    refine o_nil ?_
    refine s_seq ?_
    refine s_region ?_
    refine o_q (q_mv (v_raw rfl)) rfl rfl rfl ?_
    refine o_q (q_mv (v_raw rfl)) rfl rfl rfl ?_
    refine o_q (q_mv (v_raw rfl)) rfl rfl rfl ?_
    refine o_q (q_idxr und25 sz3 rfl rfl (by omega) (by omega)) rfl rfl rfl ?_
    refine o_q (q_ldm ag3 sz3 rfl (by repeat first | exact Mem.upd_self _ _ _ | assumption | refine Mem.upd_ne (by assumption) ?_) (pcA (j := i) (by omega) (by omega)) (v_raw rfl)) rfl rfl rfl ?_
    refine o_q (q_eql rfl rfl) rfl rfl rfl ?_
    refine o_nil ?_
    refine s_cond rfl (fun h2 => ?_) (fun h2 => ?_)
    · have k2 := h2; try simp only [decide_eq_true_eq, decide_eq_false_iff_not, Bool.not_eq_true', Bool.not_eq_false', Bool.not_true, Bool.not_false, List.length_map, Decidable.not_not] at k2
      refine s_seq ?_
      refine s_region ?_
      refine o_q (q_mv (v_raw rfl)) rfl rfl rfl ?_
      refine o_q (q_as (v_raw rfl)) rfl rfl rfl ?_
      refine o_nil ?_
      refine s_ret ?_
      refine s_blk_ret ?_
      refine s_code_ret ?_
      refine s_inv_ret ?_
      refine s_blk_ret ?_
      refine s_code_ret ?_
      refine s_end ?_
      exact ⟨i, rfl, by rw [decide_eq_true (show (0 : Int) ≤ i by omega), decide_eq_true (show v ∈ l from k2 ▸ List.getElem_mem _)], rfl⟩
    · have k2 := h2; try simp only [decide_eq_true_eq, decide_eq_false_iff_not, Bool.not_eq_true', Bool.not_eq_false', Bool.not_true, Bool.not_false, List.length_map, Decidable.not_not] at k2
      refine s_skip ?_
      refine s_blk_normal ?_
      refine s_region ?_
      refine o_q (q_add rfl rfl (wrap64 (by omega) (by omega))) rfl rfl rfl ?_
      refine o_q (q_mv (v_raw rfl)) rfl rfl rfl ?_
      refine o_nil ?_
      refine s_inv ?_
      exact ⟨l.length - (i + 1), by omega, _, i + 1, St.mkT (kp (kp (kp (kp rfl rfl) rfl) rfl) rfl).symm, no_succ hno (by omega) (fun e => k2 e.symm), by omega, rfl⟩
  · have k1 := h1; try simp only [decide_eq_true_eq, decide_eq_false_iff_not, Bool.not_eq_true', Bool.not_eq_false', Bool.not_true, Bool.not_false, List.length_map, Decidable.not_not] at k1
    refine s_exit ?_
    refine s_code_exit ?_
    refine s_inv_exit ?_
    refine s_blk_here ?_
    refine s_seq ?_
    refine s_region ?_
    refine o_q (q_as (v_raw rfl)) rfl rfl rfl ?_
    refine o_nil ?_
    refine s_ret ?_
    refine s_end ?_
    exact ⟨-1, rfl, by rw [decide_eq_false (by omega), decide_eq_false (fun h => by obtain ⟨j, hj, e⟩ := List.mem_iff_getElem.1 h; exact hno j hj (by omega) e)], rfl⟩

-- slices.Contains[[]int,int] params ['[]int', 'int'] results [['t', 4]] own [] names ['0:s', '1:v', '2:s', '3:v'] calls [40] paths 1
set_option maxHeartbeats 4000000 in
set_option maxRecDepth 20000 in
theorem snd30r (base : Option Addr) (c : Nat) (l : List Int) (v : Int) (M : Mem) (hA : At int 0 M base l) (hl : l.length < 2 ^ 60) : SoundCall Try.prog 30 [rawS base l.length c, int v] M fun r M' => r = bool (decide (v ∈ l)) ∧ M' = M := by
  refine SoundCall.go tk30 pl30 mixed Try.func30 cb30 rfl (Nat.le_of_ble_eq_true rfl) ?_
  refine s_seq ?_
  refine s_region ?_
  refine o_q (q_as (v_raw rfl)) rfl rfl rfl ?_
  refine o_nil ?_
  refine s_seq ?_
  refine s_region ?_
  refine o_q (q_mv (v_raw rfl)) rfl rfl rfl ?_
  refine o_q (q_mv (v_raw rfl)) rfl rfl rfl ?_
  refine o_callx (snd40r base c l v _ hA hl) goes40 (ac (v_raw rfl) (ac (v_raw rfl) ac_nil)) rfl ?_
  rintro r M' ⟨k, rfl, hk, rfl⟩
  refine o_q (q_geq rfl rfl) rfl rfl rfl ?_
  refine o_q (q_as (v_raw rfl)) rfl rfl rfl ?_
  refine o_nil ?_
  refine s_ret ?_
  refine s_end ?_
  exact ⟨congrArg bool hk, rfl⟩

-- carillon/carillonlaw18.texts params ['[]string', '[]string'] results [['t', 4]] own [] names ['0:a', '1:b', '2:a', '3:b', '5:i'] calls [] paths 4
set_option maxHeartbeats 4000000 in
set_option maxRecDepth 20000 in
theorem snd26r (base : Option Addr) (c : Nat) (a : List ByteArray) (b : List ByteArray) (o2 : Bool) (M : Mem) (hA : At str emp0 M base a) (hla : a.length < 2 ^ 60) : SoundCall Try.prog 26 [rawS base a.length c, .sl (b.map str) o2] M fun r M' => r = bool (decide (a = b)) ∧ M' = M := by
  refine SoundCall.go tk26 pl26 mixed Try.func26 cb26 rfl (Nat.le_of_ble_eq_true rfl) ?_
  refine s_seq ?_
  refine s_region ?_
  refine o_q (q_as (v_raw rfl)) rfl rfl rfl ?_
  refine o_nil ?_
  refine s_seq ?_
  refine s_seq ?_
  refine s_region ?_
  refine o_q (q_mv (v_raw rfl)) rfl rfl rfl ?_
  refine o_q (q_lenr rfl und22 rfl) rfl rfl rfl ?_
  refine o_q (q_mv (v_sl rfl)) rfl rfl rfl ?_
  refine o_q (q_len rfl und22 rfl) rfl rfl rfl ?_
  refine o_q (q_neq rfl rfl) rfl rfl rfl ?_
  refine o_nil ?_
  refine s_cond rfl (fun h1 => ?_) (fun h1 => ?_)
  · have k1 := h1; try simp only [decide_eq_true_eq, decide_eq_false_iff_not, Bool.not_eq_true', Bool.not_eq_false', Bool.not_true, Bool.not_false, List.length_map, Decidable.not_not] at k1
    refine s_seq ?_
    refine s_region ?_
    refine o_q (q_as (v_raw rfl)) rfl rfl rfl ?_
    refine o_nil ?_
    refine s_ret ?_
    refine s_code_ret ?_
    refine s_end ?_
    exact ⟨congrArg bool (decide_eq_false fun e => by subst e; exact k1 rfl).symm, rfl⟩
  · have k1 := h1; try simp only [decide_eq_true_eq, decide_eq_false_iff_not, Bool.not_eq_true', Bool.not_eq_false', Bool.not_true, Bool.not_false, List.length_map, Decidable.not_not] at k1
    have hle : a.length = b.length := by omega
    refine s_skip ?_
    refine s_seq ?_
    refine s_seq ?_
    refine s_region ?_
    refine o_q (q_as (v_raw rfl)) rfl rfl rfl ?_
    refine o_nil ?_
    refine s_block ?_
    refine s_loop (fun m S => ∃ T, ∃ i : Nat, S = ⟨setT (setT (setT T 0 (rawS base a.length c)) 1 (.sl (b.map str) o2)) 5 (int (i : Nat)), M⟩ ∧ a.take i = b.take i ∧ i ≤ a.length ∧ m = a.length - i) a.length ?_ ?_
    · exact ⟨_, 0, St.mkT (kp (kp (kp rfl rfl) rfl) rfl).symm, rfl, by omega, rfl⟩
    rintro m S ⟨T, i, rfl, hab, hin, rfl⟩
    refine s_seq ?_
    refine s_seq ?_
    refine s_region ?_
    refine o_q (q_mv (v_raw rfl)) rfl rfl rfl ?_
    refine o_q (q_mv (v_raw rfl)) rfl rfl rfl ?_
    refine o_q (q_lenr rfl und22 rfl) rfl rfl rfl ?_
    refine o_q (q_lss rfl rfl) rfl rfl rfl ?_
    refine o_nil ?_
    refine s_cond rfl (fun h2 => ?_) (fun h2 => ?_)
    · have k2 := h2; try simp only [decide_eq_true_eq, decide_eq_false_iff_not, Bool.not_eq_true', Bool.not_eq_false', Bool.not_true, Bool.not_false, List.length_map, Decidable.not_not] at k2
      obtain ⟨b1, k1, rfl, hb1⟩ := hA.at_ (List.ne_nil_of_length_pos (l := a) (by omega))
      refine s_skip ?_
      refine s_seq ?_
      refine s_block ?_
      refine s_seq ?_
      refine s_draw rfl ?_
      refine d_q rfl (q_mv (v_raw rfl)) rfl rfl rfl ?_
      refine d_q rfl (q_mv (v_raw rfl)) rfl rfl rfl ?_
      refine d_q rfl (q_idxr und22 sz9 rfl rfl (by omega) (by omega)) rfl rfl rfl ?_
      refine d_q rfl (q_ldm ag9 sz9 rfl (by repeat first | exact Mem.upd_self _ _ _ | assumption | refine Mem.upd_ne (by assumption) ?_) (pcS (j := i) (by omega) (by omega)) (v_raw rfl)) rfl rfl rfl ?_
      refine d_q rfl (q_mv (v_sl rfl)) rfl rfl rfl ?_
      refine d_q rfl (q_mv (v_raw rfl)) rfl rfl rfl ?_
      refine d_q rfl (q_idx und22 sz9 rfl rfl (by omega) (gm i (by first | omega | simp)) rfl) rfl rfl rfl ?_
      refine d_q rfl (q_ld ag9 sz9 rfl (gm i (by first | omega | simp)) rfl (v_raw rfl)) rfl rfl rfl ?_
      refine d_q rfl (q_sneq rfl rfl) rfl rfl rfl ?_
      refine d_nil ?_
      refine s_cond rfl (fun h3 => ?_) (fun h3 => ?_)
      · have k3 := h3; try simp only [decide_eq_true_eq, decide_eq_false_iff_not, Bool.not_eq_true', Bool.not_eq_false', Bool.not_true, Bool.not_false, List.length_map, Decidable.not_not] at k3
        have k3 : a[i] ≠ b[i] := by simpa using h3
        refine s_seq ?_
        refine s_region ?_
        refine o_q (q_as (v_raw rfl)) rfl rfl rfl ?_
        refine o_nil ?_
        refine s_ret ?_
        refine s_blk_ret ?_
        refine s_code_ret ?_
        refine s_inv_ret ?_
        refine s_blk_ret ?_
        refine s_code_ret ?_
        refine s_end ?_
        exact ⟨congrArg bool (decide_eq_false fun e => by subst e; exact k3 rfl).symm, rfl⟩
      · have k3 := h3; try simp only [decide_eq_true_eq, decide_eq_false_iff_not, Bool.not_eq_true', Bool.not_eq_false', Bool.not_true, Bool.not_false, List.length_map, Decidable.not_not] at k3
        have k3 : a[i] = b[i] := by simpa using h3
        refine s_skip ?_
        refine s_blk_normal ?_
        refine s_region ?_
        refine o_q (q_mv (v_raw rfl)) rfl rfl rfl ?_
        refine o_q (q_add rfl rfl (wrap64 (by omega) (by omega))) rfl rfl rfl ?_
        refine o_q (q_as (v_raw rfl)) rfl rfl rfl ?_
        refine o_nil ?_
        refine s_inv ?_
        exact ⟨a.length - (i + 1), by omega, _, i + 1, St.mkT (kp (kp (kp rfl rfl) rfl) rfl).symm, by rw [List.take_succ_eq_append_getElem (by omega), List.take_succ_eq_append_getElem (by omega), hab, k3], by omega, rfl⟩
    · have k2 := h2; try simp only [decide_eq_true_eq, decide_eq_false_iff_not, Bool.not_eq_true', Bool.not_eq_false', Bool.not_true, Bool.not_false, List.length_map, Decidable.not_not] at k2
      refine s_exit ?_
      refine s_code_exit ?_
      refine s_inv_exit ?_
      refine s_blk_here ?_
      refine s_seq ?_
      refine s_region ?_
      refine o_q (q_as (v_raw rfl)) rfl rfl rfl ?_
      refine o_nil ?_
      refine s_ret ?_
      refine s_end ?_
      exact ⟨congrArg bool (decide_eq_true (by rw [← List.take_of_length_le (l := a) (i := i) (by omega), hab, List.take_of_length_le (by omega)])).symm, rfl⟩

-- carillon/order.New params ['int', '[]int', '[]string'] results [['t', 6], ['t', 7]] own [] names ['0:self', '1:nodes', '2:log', '3:self', '4:nodes', '5:log', '8:last', '9:_', '10:n', '11:o', '12:_', '13:s', '14:_', '15:n'] calls [30, 31, 32, 33] paths 7
set_option maxHeartbeats 4000000 in
set_option maxRecDepth 20000 in
theorem snd9r (self : Int) (ba : Option Addr) (ca : Nat) (nodes : List Int) (bb : Option Addr) (cb : Nat) (log : List ByteArray) (M : Mem) (hA : At int 0 M ba nodes) (hB : At str emp0 M bb log) (hnl : nodes.length < 2 ^ 60) (hlg : log.length + 2 ≤ 2 ^ 43) (hsz : ∀ s ∈ log, s.size < 2 ^ 61) : SoundCall Try.prog 9 [int self, rawS ba nodes.length ca, rawS bb log.length cb] M fun r M' => (okNew self nodes = false ∧ r = .tup [nilp, int 1] ∧ M' = M) ∨ (okNew self nodes = true ∧ ∃ b, M b = none ∧ r = .tup [ptr b, int 0] ∧ M' = M.upd b (.cells (odC (newO self nodes log)))) := by
  refine SoundCall.go tk9 pl9 mixed Try.func9 cb9 rfl (Nat.le_of_ble_eq_true rfl) ?_
  refine s_seq ?_
  refine s_region ?_
  refine o_q (q_as ((by first | exact v_raw rfl | exact v_sptr rfl))) rfl rfl rfl ?_
  refine o_q (q_as (v_raw rfl)) rfl rfl rfl ?_
  refine o_nil ?_
  refine s_seq ?_
  refine s_region ?_
  refine o_q (q_as (v_raw rfl)) rfl rfl rfl ?_
  refine o_nil ?_
  refine s_seq ?_
  refine s_seq ?_
  refine s_region ?_
  refine o_q (q_mv (v_raw rfl)) rfl rfl rfl ?_
  refine o_q (q_lenr rfl und25 rfl) rfl rfl rfl ?_
  refine o_q (q_mv (v_raw rfl)) rfl rfl rfl ?_
  refine o_nil ?_
  refine s_block ?_
  refine s_loop (fun m S => ∃ T, ∃ i : Nat, ∃ last : Int, S = ⟨setT (setT (setT (setT (setT (setT (setT T 0 (int self)) 1 (rawS ba nodes.length ca)) 2 (rawS bb log.length cb)) 8 (int last)) 16 (rawS ba nodes.length ca)) 17 (int nodes.length)) 18 (int (i : Nat)), M⟩ ∧ rise (-1) nodes = rise last (nodes.drop i) ∧ i ≤ nodes.length ∧ m = nodes.length - i) nodes.length ?_ ?_
  · exact ⟨_, 0, -1, St.mkT (kp (kp (kp (kp (kp (kp (kp rfl rfl) rfl) rfl) rfl) rfl) rfl) rfl).symm, rfl, by omega, rfl⟩
  rintro m S ⟨T, i, last, rfl, hri, hin, rfl⟩
  refine s_seq ?_
  refine s_region ?_
  refine o_q (q_lss rfl rfl) rfl rfl rfl ?_
  refine o_nil ?_
  refine s_seq ?_
  refine s_cond rfl (fun h1 => ?_) (fun h1 => ?_)
  · have k1 := h1; try simp only [decide_eq_true_eq, decide_eq_false_iff_not, Bool.not_eq_true', Bool.not_eq_false', Bool.not_true, Bool.not_false, List.length_map, Decidable.not_not] at k1
    obtain ⟨b1, k1, rfl, hb1⟩ := hA.at_ (List.ne_nil_of_length_pos (l := nodes) (by omega))
    refine s_skip ?_
    refine s_seq ?_
    refine s_block ?_
    refine s_seq ?_
    refine s_region ?_
    refine o_q (q_idxr und25 sz3 rfl rfl (by omega) (by omega)) rfl rfl rfl ?_
    refine o_q (q_ldm ag3 sz3 rfl (by repeat first | exact Mem.upd_self _ _ _ | assumption | refine Mem.upd_ne (by assumption) ?_) (pcA (j := i) (by omega) (by omega)) (v_raw rfl)) rfl rfl rfl ?_
    refine o_q (q_as (v_raw rfl)) rfl rfl rfl ?_
    refine o_nil ?_
    refine s_seq ?_
    refine s_seq ?_
    refine s_region ?_
    refine o_q (q_mv (v_raw rfl)) rfl rfl rfl ?_
    refine o_q (q_mv (v_raw rfl)) rfl rfl rfl ?_
    refine o_q (q_leq rfl rfl) rfl rfl rfl ?_
    refine o_q (q_mv (v_raw rfl)) rfl rfl rfl ?_
    refine o_cases (want := false) (j := 3) rfl rfl (fun h2 => ?_) (fun h2 => ?_)
    · have k2 := h2; try simp only [decide_eq_true_eq, decide_eq_false_iff_not, Bool.not_eq_true', Bool.not_eq_false', Bool.not_true, Bool.not_false, List.length_map, Decidable.not_not] at k2
      refine o_yes rfl rfl rfl h2 ?_
      refine o_q (q_mv (v_raw rfl)) rfl rfl rfl ?_
      refine o_yes rfl rfl rfl h2 ?_
      refine o_q (q_geq rfl rfl) rfl rfl rfl ?_
      refine o_q (q_pick_c (t := false) rfl h2 (v_raw rfl)) rfl rfl rfl ?_
      refine o_nil ?_
      refine s_cond rfl (fun h3 => ?_) (fun h3 => ?_)
      · have k3 := h3; try simp only [decide_eq_true_eq, decide_eq_false_iff_not, Bool.not_eq_true', Bool.not_eq_false', Bool.not_true, Bool.not_false, List.length_map, Decidable.not_not] at k3
        refine s_seq ?_
        refine s_region ?_
        refine o_q (q_as ((by first | exact v_raw rfl | exact v_sptr rfl))) rfl rfl rfl ?_
        refine o_q (q_as (v_raw rfl)) rfl rfl rfl ?_
        refine o_nil ?_
        refine s_ret ?_
        refine s_code_ret ?_
        refine s_blk_ret ?_
        refine s_code_ret ?_
        refine s_inv_ret ?_
        refine s_blk_ret ?_
        refine s_code_ret ?_
        refine s_end ?_
        exact ret_many (.inl rfl) rfl (rl_t rfl (rl_t rfl rl_nil)) rfl (.inl ⟨by unfold okNew; rw [hri, rise_drop (by omega)]; simp; intros; omega, rfl, rfl⟩)
      · have k3 := h3; try simp only [decide_eq_true_eq, decide_eq_false_iff_not, Bool.not_eq_true', Bool.not_eq_false', Bool.not_true, Bool.not_false, List.length_map, Decidable.not_not] at k3
        refine s_skip ?_
        refine s_region ?_
        refine o_q (q_mv (v_raw rfl)) rfl rfl rfl ?_
        refine o_q (q_as (v_raw rfl)) rfl rfl rfl ?_
        refine o_nil ?_
        refine s_blk_normal ?_
        refine s_region ?_
        refine o_q (q_add rfl rfl (wrap64 (by omega) (by omega))) rfl rfl rfl ?_
        refine o_q (q_mv (v_raw rfl)) rfl rfl rfl ?_
        refine o_nil ?_
        refine s_inv ?_
        exact ⟨nodes.length - (i + 1), by omega, _, i + 1, nodes[i], St.mkT (kp (kp (kp (kp (kp (kp (kp rfl rfl) rfl) rfl) rfl) rfl) rfl) rfl).symm, by rw [hri, rise_drop (by omega), decide_eq_true (show last < nodes[i] by omega), decide_eq_true (show nodes[i] < 7 by omega)]; rfl, by omega, rfl⟩
    · have k2 := h2; try simp only [decide_eq_true_eq, decide_eq_false_iff_not, Bool.not_eq_true', Bool.not_eq_false', Bool.not_true, Bool.not_false, List.length_map, Decidable.not_not] at k2
      refine o_no rfl rfl rfl rfl h2 ?_
      refine o_no rfl rfl rfl rfl h2 ?_
      refine o_q (q_pick_c (t := true) rfl h2 (v_raw rfl)) rfl rfl rfl ?_
      refine o_nil ?_
      refine s_then rfl rfl ?_
      refine s_seq ?_
      refine s_region ?_
      refine o_q (q_as ((by first | exact v_raw rfl | exact v_sptr rfl))) rfl rfl rfl ?_
      refine o_q (q_as (v_raw rfl)) rfl rfl rfl ?_
      refine o_nil ?_
      refine s_ret ?_
      refine s_code_ret ?_
      refine s_blk_ret ?_
      refine s_code_ret ?_
      refine s_inv_ret ?_
      refine s_blk_ret ?_
      refine s_code_ret ?_
      refine s_end ?_
      exact ret_many (.inl rfl) rfl (rl_t rfl (rl_t rfl rl_nil)) rfl (.inl ⟨by unfold okNew; rw [hri, rise_drop (by omega)]; simp; intros; omega, rfl, rfl⟩)
  · have k1 := h1; try simp only [decide_eq_true_eq, decide_eq_false_iff_not, Bool.not_eq_true', Bool.not_eq_false', Bool.not_true, Bool.not_false, List.length_map, Decidable.not_not] at k1
    have hro : rise (-1) nodes = true := by rw [hri, List.drop_of_length_le (by omega)]; rfl
    have hrf := rise_facts hro
    refine s_exit ?_
    refine s_code_exit ?_
    refine s_inv_exit ?_
    refine s_blk_here ?_
    refine s_seq ?_
    refine s_seq ?_
    refine s_region ?_
    refine o_q (q_mv (v_raw rfl)) rfl rfl rfl ?_
    refine o_q (q_mv (v_raw rfl)) rfl rfl rfl ?_
    refine o_call ((snd30r ba ca nodes self _ hA (by omega))) goes30 (ac (v_raw rfl) (ac (v_raw rfl) ac_nil)) rfl ?_
    refine o_q (q_not rfl) rfl rfl rfl ?_
    refine o_nil ?_
    refine s_cond rfl (fun h4 => ?_) (fun h4 => ?_)
    · have k4 := h4; try simp only [decide_eq_true_eq, decide_eq_false_iff_not, Bool.not_eq_true', Bool.not_eq_false', Bool.not_true, Bool.not_false, List.length_map, Decidable.not_not] at k4
      refine s_seq ?_
      refine s_region ?_
      refine o_q (q_as ((by first | exact v_raw rfl | exact v_sptr rfl))) rfl rfl rfl ?_
      refine o_q (q_as (v_raw rfl)) rfl rfl rfl ?_
      refine o_nil ?_
      refine s_ret ?_
      refine s_code_ret ?_
      refine s_end ?_
      exact ret_many (.inl rfl) rfl (rl_t rfl (rl_t rfl rl_nil)) rfl (.inl ⟨by unfold okNew; simp_all, rfl, rfl⟩)
    · have k4 := h4; try simp only [decide_eq_true_eq, decide_eq_false_iff_not, Bool.not_eq_true', Bool.not_eq_false', Bool.not_true, Bool.not_false, List.length_map, Decidable.not_not] at k4
      refine s_skip ?_
      refine s_seq ?_
      refine s_regf 7 39 2 rfl ?_
      refine o_q (q_mv (v_raw rfl)) rfl rfl rfl ?_
      refine o_q (q_mv (v_raw rfl)) rfl rfl rfl ?_
      refine o_call ((snd31r ba ca nodes _ hA (by have := rise_len hro (by omega); omega))) goes31 (ac (v_raw rfl) ac_nil) rfl ?_
      refine o_q (q_mv (v_raw rfl)) rfl rfl rfl ?_
      refine o_call ((snd32r bb cb log _ hB (by omega))) goes32 (ac (v_raw rfl) ac_nil) rfl ?_
      refine o_q (q_mv (v_raw rfl)) rfl rfl rfl ?_
      refine o_q (q_lenr rfl und22 rfl) rfl rfl rfl ?_
      refine o_nil ?_
      refine f_bb rfl (by decide) (q_b (cs := [_, _, _, .raw (.int .i64 0), _, .raw (.int .i64 0), .raw (.int .i64 0), .raw (.int .i64 0), .raw (.int .i64 0), .raw (.int .i64 0), .raw (.int .i64 0), .raw (.int .i64 0)]) bz66 bp66 (bf fo66_0 (e_raw rfl) rfl rfl (Nat.le_of_ble_eq_true rfl) rfl (bf fo66_1 (e_sl rfl) rfl rfl (Nat.le_of_ble_eq_true rfl) rfl (bf fo66_2 (e_sl rfl) rfl rfl (Nat.le_of_ble_eq_true rfl) rfl (bf fo66_4 (e_raw rfl) rfl rfl (Nat.le_of_ble_eq_true rfl) rfl bf_nil))))) (fun v n c => ⟨_, (q_b (cs := [_, _, _, .raw (.int .i64 0), _, .raw (.int .i64 0), .raw (.int .i64 0), .raw (.int .i64 0), .raw (.int .i64 0), .raw (.int .i64 0), .raw (.int .i64 0), .raw (.int .i64 0)]) bz66 bp66 (bf fo66_0 (e_raw rfl) rfl rfl (Nat.le_of_ble_eq_true rfl) rfl (bf fo66_1 (e_sl rfl) rfl rfl (Nat.le_of_ble_eq_true rfl) rfl (bf fo66_2 (e_raw rfl) rfl rfl (Nat.le_of_ble_eq_true rfl) rfl (bf fo66_4 (e_raw rfl) rfl rfl (Nat.le_of_ble_eq_true rfl) rfl bf_nil))))), rfl⟩) rfl (Nat.le_of_ble_eq_true rfl) rfl (fun B1 hB1 => ?_)
      refine o_q (q_as ((by first | exact v_raw rfl | exact v_sptr rfl))) rfl rfl rfl ?_
      refine o_nil ?_
      refine s_seq ?_
      refine s_seq ?_
      refine s_region ?_
      refine o_q (q_mv (v_raw rfl)) rfl rfl rfl ?_
      refine o_q (q_lenr rfl und22 rfl) rfl rfl rfl ?_
      refine o_q (q_mv (v_raw rfl)) rfl rfl rfl ?_
      refine o_nil ?_
      refine s_block ?_
      refine s_loop (fun m S => ∃ T, ∃ i : Nat, S = ⟨setT (setT (setT (setT (setT (setT (setT T 0 (int self)) 1 (rawS ba nodes.length ca)) 2 (rawS bb log.length cb)) 11 (ptr B1)) 44 (rawS bb log.length cb)) 45 (int log.length)) 46 (int (i : Nat)), M.upd B1 (.cells (odC ⟨self, nodes, log, sumW 0 (log.take i), log.length, [0, 0, 0, 0, 0, 0, 0]⟩))⟩ ∧ i ≤ log.length ∧ m = log.length - i) log.length ?_ ?_
      · exact ⟨_, 0, St.mkT (kp (kp (kp (kp (kp (kp (kp rfl rfl) rfl) rfl) rfl) rfl) rfl) rfl).symm, by omega, rfl⟩
      rintro m S ⟨T, i, rfl, hil, rfl⟩
      refine s_seq ?_
      refine s_region ?_
      refine o_q (q_lss rfl rfl) rfl rfl rfl ?_
      refine o_nil ?_
      refine s_seq ?_
      refine s_cond rfl (fun h5 => ?_) (fun h5 => ?_)
      · have k5 := h5; try simp only [decide_eq_true_eq, decide_eq_false_iff_not, Bool.not_eq_true', Bool.not_eq_false', Bool.not_true, Bool.not_false, List.length_map, Decidable.not_not] at k5
        obtain ⟨b2, k2, rfl, hb2⟩ := hB.at_ (List.ne_nil_of_length_pos (l := log) (by omega))
        have nb : b2 ≠ B1 := Mem.fresh_ne hB1 hb2
        have hls := hsz log[i] (List.getElem_mem _)
        refine s_skip ?_
        refine s_seq ?_
        refine s_block ?_
        refine s_seq ?_
        refine s_region ?_
        refine o_q (q_idxr und22 sz9 rfl rfl (by omega) (by omega)) rfl rfl rfl ?_
        refine o_q (q_ldm ag9 sz9 rfl (by repeat first | exact Mem.upd_self _ _ _ | assumption | refine Mem.upd_ne (by assumption) ?_) (pcS (j := i) (by omega) (by omega)) (v_raw rfl)) rfl rfl rfl ?_
        refine o_q (q_as (v_raw rfl)) rfl rfl rfl ?_
        refine o_nil ?_
        refine s_draw rfl ?_
        refine d_q rfl (q_mv ((by first | exact v_raw rfl | exact v_sptr rfl))) rfl rfl rfl ?_
        refine d_q rfl (q_nil rfl) rfl rfl rfl ?_
        refine d_q rfl (q_fr fo66_3 rfl) rfl rfl rfl ?_
        refine d_q rfl (q_ldm ag3 sz3 rfl (by repeat first | exact Mem.upd_self _ _ _ | assumption | refine Mem.upd_ne (by assumption) ?_) rfl (v_raw rfl)) rfl rfl rfl ?_
        refine d_q rfl (q_mv (v_raw rfl)) rfl rfl rfl ?_
        refine d_s rfl ?_
        refine o_call ((snd33 log[i] _ (by omega))) goes33 (ac (v_raw rfl) ac_nil) rfl ?_
        refine o_nil ⟨(by simp [Mem.upd, *]), ?_⟩
        refine d_q rfl (q_addw rfl rfl) rfl rfl rfl ?_
        refine d_q rfl (q_nil rfl) rfl rfl rfl ?_
        refine d_q rfl (q_fr fo66_3 rfl) rfl rfl rfl ?_
        refine d_s rfl ?_
        refine o_store rfl (by repeat first | exact Mem.upd_self _ _ _ | assumption | refine Mem.upd_ne (by assumption) ?_) (by first | exact e_raw rfl | exact e_agg rfl | exact e_sl rfl | rfl) rfl sz3 rfl (Nat.le_of_ble_eq_true rfl) rfl rfl ?_
        refine o_nil ⟨(by simp [Mem.upd, *]), ?_⟩
        refine d_nil ?_
        refine s_blk_normal ?_
        refine s_region ?_
        refine o_q (q_add rfl rfl (wrap64 (by omega) (by omega))) rfl rfl rfl ?_
        refine o_q (q_mv (v_raw rfl)) rfl rfl rfl ?_
        refine o_nil ?_
        refine s_inv ?_
        exact ⟨log.length - (i + 1), by omega, _, i + 1, (by rw [Mem.upd_upd, sumW_succ (by omega)]; exact St.mkT (kp (kp (kp (kp (kp (kp (kp rfl rfl) rfl) rfl) rfl) rfl) rfl) rfl).symm), by omega, rfl⟩
      · have k5 := h5; try simp only [decide_eq_true_eq, decide_eq_false_iff_not, Bool.not_eq_true', Bool.not_eq_false', Bool.not_true, Bool.not_false, List.length_map, Decidable.not_not] at k5
        refine s_exit ?_
        refine s_code_exit ?_
        refine s_inv_exit ?_
        refine s_blk_here ?_
        refine s_seq ?_
        refine s_seq ?_
        refine s_region ?_
        refine o_q (q_mv (v_raw rfl)) rfl rfl rfl ?_
        refine o_q (q_lenr rfl und25 rfl) rfl rfl rfl ?_
        refine o_q (q_mv (v_raw rfl)) rfl rfl rfl ?_
        refine o_nil ?_
        refine s_block ?_
        refine s_loop (fun m S => ∃ T, ∃ i : Nat, S = ⟨setT (setT (setT (setT (setT (setT (setT T 0 (int self)) 1 (rawS ba nodes.length ca)) 2 (rawS bb log.length cb)) 11 (ptr B1)) 60 (rawS ba nodes.length ca)) 61 (int nodes.length)) 62 (int (i : Nat)), M.upd B1 (.cells (odC ⟨self, nodes, log, sumW 0 log, log.length, hasN (nodes.take i) log.length⟩))⟩ ∧ i ≤ nodes.length ∧ m = nodes.length - i) nodes.length ?_ ?_
        · exact ⟨_, 0, (by have hie : i = log.length := (by omega); rw [hie, List.take_length]; exact St.mkT (kp (kp (kp (kp (kp (kp (kp rfl rfl) rfl) rfl) rfl) rfl) rfl) rfl).symm), by omega, rfl⟩
        rintro m S ⟨T, i, rfl, hil, rfl⟩
        refine s_seq ?_
        refine s_region ?_
        refine o_q (q_lss rfl rfl) rfl rfl rfl ?_
        refine o_nil ?_
        refine s_seq ?_
        refine s_cond rfl (fun h6 => ?_) (fun h6 => ?_)
        · have k6 := h6; try simp only [decide_eq_true_eq, decide_eq_false_iff_not, Bool.not_eq_true', Bool.not_eq_false', Bool.not_true, Bool.not_false, List.length_map, Decidable.not_not] at k6
          obtain ⟨b3, k3, rfl, hb3⟩ := hA.at_ (List.ne_nil_of_length_pos (l := nodes) (by omega))
          have nb : b3 ≠ B1 := Mem.fresh_ne hB1 hb3
          have hni := hrf.2 nodes[i] (List.getElem_mem _)
          have hhl : (hasN (nodes.take i) log.length).length = 7 := hasN_len
          have hpl : (0 + 5 + nodes[i].toNat * 1) + 1 ≤ (odC ⟨self, nodes, log, sumW 0 log, log.length, hasN (nodes.take i) log.length⟩).length := by simp [odC, hhl]; omega
          refine s_skip ?_
          refine s_seq ?_
          refine s_block ?_
          refine s_seq ?_
          refine s_region ?_
          refine o_q (q_idxr und25 sz3 rfl rfl (by omega) (by omega)) rfl rfl rfl ?_
          refine o_q (q_ldm ag3 sz3 rfl (by repeat first | exact Mem.upd_self _ _ _ | assumption | refine Mem.upd_ne (by assumption) ?_) (pcA (j := i) (by omega) (by omega)) (v_raw rfl)) rfl rfl rfl ?_
          refine o_q (q_as (v_raw rfl)) rfl rfl rfl ?_
          refine o_nil ?_
          refine s_region ?_
          refine o_q (q_mv ((by first | exact v_raw rfl | exact v_sptr rfl))) rfl rfl rfl ?_
          refine o_q (q_mv (v_raw rfl)) rfl rfl rfl ?_
          refine o_q (q_mv (v_raw rfl)) rfl rfl rfl ?_
          refine o_q (q_lenr rfl und22 rfl) rfl rfl rfl ?_
          refine o_q (q_nil rfl) rfl rfl rfl ?_
          refine o_q (q_fr fo66_5 rfl) rfl rfl rfl ?_
          refine o_q (q_idxa und64 sz3 rfl rfl (by omega) (by omega)) rfl rfl rfl ?_
          refine o_store rfl (by repeat first | exact Mem.upd_self _ _ _ | assumption | refine Mem.upd_ne (by assumption) ?_) (by first | exact e_raw rfl | exact e_agg rfl | exact e_sl rfl | rfl) rfl sz3 rfl hpl rfl (od_set (p := [int self, .sl (nodes.map int) false, .sl (log.map str) true, int (sumW 0 log), int log.length]) (has := hasN (nodes.take i) log.length) (n := nodes[i].toNat) rfl (by omega) (by omega)) ?_
          refine o_nil ?_
          refine s_blk_normal ?_
          refine s_region ?_
          refine o_q (q_add rfl rfl (wrap64 (by omega) (by omega))) rfl rfl rfl ?_
          refine o_q (q_mv (v_raw rfl)) rfl rfl rfl ?_
          refine o_nil ?_
          refine s_inv ?_
          exact ⟨nodes.length - (i + 1), by omega, _, i + 1, (by rw [Mem.upd_upd, hasN_succ (by omega)]; exact St.mkT (kp (kp (kp (kp (kp (kp (kp rfl rfl) rfl) rfl) rfl) rfl) rfl) rfl).symm), by omega, rfl⟩
        · have k6 := h6; try simp only [decide_eq_true_eq, decide_eq_false_iff_not, Bool.not_eq_true', Bool.not_eq_false', Bool.not_true, Bool.not_false, List.length_map, Decidable.not_not] at k6
          refine s_exit ?_
          refine s_code_exit ?_
          refine s_inv_exit ?_
          refine s_blk_here ?_
          refine s_seq ?_
          refine s_region ?_
          refine o_q (q_mv ((by first | exact v_raw rfl | exact v_sptr rfl))) rfl rfl rfl ?_
          refine o_q (q_as ((by first | exact v_raw rfl | exact v_sptr rfl))) rfl rfl rfl ?_
          refine o_q (q_as (v_raw rfl)) rfl rfl rfl ?_
          refine o_nil ?_
          refine s_ret ?_
          refine s_end ?_
          exact ret_many (.inl rfl) rfl (rl_t rfl (rl_t rfl rl_nil)) rfl (.inr ⟨by unfold okNew; simp [hro, k4], B1, hB1, rfl, by have hie : i = nodes.length := (by omega); rw [hie, List.take_length]; rfl⟩)
end C18
