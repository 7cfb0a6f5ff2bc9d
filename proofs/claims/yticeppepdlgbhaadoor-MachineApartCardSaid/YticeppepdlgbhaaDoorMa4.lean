import Derived.Test.YticeppepdlgbhaaDoorFl
import Derived.Test.YticeppepdlgbhaaDoorProg
/-! Chapter 3: what its functions compute. -/
open Go Go.Proofs Go.Am Fl
set_option linter.unusedVariables false
set_option linter.unusedSimpArgs false
namespace C3
theorem ag3 : aggT Tryd.prog 3 = some false := by kernel_rfl
theorem ag5 : aggT Tryd.prog 5 = some false := by kernel_rfl
theorem ag104 : aggT Tryd.prog 104 = some true := by kernel_rfl
theorem bz104 : (zeroT Tryd.prog 104).map (fun z => z.cells.toList.map AVal.raw) = some [.raw (.int .i64 0), .raw (.int .i64 0)] := by kernel_rfl
theorem bp104 : (aPlaces Tryd.prog 104).isSome = true := by kernel_rfl
theorem cc2_3 : (AVal.raw (.complex .f64 4611686018427387904 4613937818241073152)) = cx 2 3 := by kernel_rfl
theorem fc0 : (AVal.raw (.float .f64 0)) = fl 0 := by kernel_rfl
theorem fc1 : (AVal.raw (.float .f64 4607182418800017408)) = fl 1 := by kernel_rfl
theorem fo104_0 : fo Tryd.prog 104 0 = some (0, 1) := by kernel_rfl
theorem fo104_1 : fo Tryd.prog 104 1 = some (1, 1) := by kernel_rfl
theorem s2b9_125 : s2b Tryd.prog 9 125 = true := by kernel_rfl
theorem sz3 : sizeT Tryd.prog 3 = some 1 := by kernel_rfl
theorem sz5 : sizeT Tryd.prog 5 = some 1 := by kernel_rfl
theorem sz104 : sizeT Tryd.prog 104 = some 2 := by kernel_rfl
theorem und3 : Tryd.prog.underlying 3 = some (.int .i64) := by kernel_rfl
theorem und5 : Tryd.prog.underlying 5 = some (.int .u8) := by kernel_rfl
theorem und9 : Tryd.prog.underlying 9 = some .string := by kernel_rfl
theorem und125 : Tryd.prog.underlying 125 = some (.slice 5) := by kernel_rfl
theorem und163 : Tryd.prog.underlying 163 = some (.float .f64) := by kernel_rfl
theorem zc104 : zeroCellsT Tryd.prog 104 = some [.raw (.int .i64 0), .raw (.int .i64 0)] := by kernel_rfl
theorem mixed : Tryd.prog.follows .mixedOrders = true := by kernel_rfl
/-- A pair. -/
structure Pr where
  re : Int
  im : Int
  deriving DecidableEq, Inhabited
def encP (a : Pr) : AVal := .agg [.raw (.int .i64 a.re), .raw (.int .i64 a.im)]
def ptr (b : Nat) : AVal := .raw (.pointer (some ⟨b, 0, none⟩))
def int (n : Int) : AVal := .raw (.int .i64 n)
def right (a : Pr) : Bool := decide (0 ≤ a.re) && decide (a.re < 33554383) && decide (0 ≤ a.im) && decide (a.im < 33554383)
def md (a : Pr) : Pr := ⟨a.re % 33554383, a.im % 33554383⟩
def cxp (a : Pr) : AVal := cx a.re a.im
theorem right_spec {a : Pr} : right a = true ↔ 0 ≤ a.re ∧ a.re < 33554383 ∧ 0 ≤ a.im ∧ a.im < 33554383 := by
  unfold right; simp [and_assoc]
theorem md_right (a : Pr) : right (md a) = true := right_spec.2 ⟨by show 0 ≤ a.re % 33554383; omega, by show a.re % 33554383 < 33554383; omega, by show 0 ≤ a.im % 33554383; omega, by show a.im % 33554383 < 33554383; omega⟩
/-- A pair, or none. -/
def resP (r : Bool) (a : Pr) : AVal := .tup [encP (if r then a else ⟨0, 0⟩), int (if r then 0 else 1)]
theorem low_of {u : Int} (h0 : 0 ≤ u) (h1 : u < 33554383) : Low u := ⟨h0, by omega⟩
def tk86 : Nat → Nat → Option Nat := fun _ _ => none
def pl86 : Nat → List PStep := fun _ => []
theorem cb86 : Tryd.f86.body.map (codeB Tryd.prog Tryd.f86.ntmps tk86 pl86) = some true := by kernel_rfl
theorem goes86 : goesB Tryd.prog 86 = true := by kernel_rfl
theorem snd86 (m : Pr) (M : Mem) : SoundCall Tryd.prog 86 [encP m] M fun r M' => r = .raw (.bool (right m)) ∧ M.le M' := by
  refine SoundCall.go tk86 pl86 mixed Tryd.func86 cb86 rfl (Nat.le_of_ble_eq_true rfl) ?_
  refine s_seq ?_
  refine s_region ?_
  refine o_box (by first | exact e_raw rfl | exact e_agg rfl | exact e_sl rfl) rfl rfl (fun B1 hB1 => ?_)
  have m1 : M B1 = none := by have h := hB1; repeat (first | exact h | exact Mem.none_of_le hle h | replace h := (Mem.upd_none h).2)
  refine o_q (q_as (v_raw rfl)) rfl rfl rfl ?_
  refine o_nil ?_
  refine s_seq ?_
  refine s_region ?_
  refine o_q (q_fr fo104_0 rfl) rfl rfl rfl ?_
  refine o_q (q_ldm ag3 sz3 rfl (by repeat first | exact Mem.upd_self _ _ _ | assumption | refine Mem.upd_ne (by assumption) ?_) rfl (v_raw rfl)) rfl rfl rfl ?_
  refine o_q (q_geq rfl rfl) rfl rfl rfl ?_
  refine o_q (q_mv (v_raw rfl)) rfl rfl rfl ?_
  refine o_cases (want := true) (j := 3) rfl rfl (fun h1 => ?_) (fun h1 => ?_)
  · have k1 := h1; try simp only [decide_eq_true_eq, decide_eq_false_iff_not, Bool.not_eq_true', Bool.not_eq_false', Bool.not_true, Bool.not_false, List.length_map, Decidable.not_not] at k1
    refine o_yes rfl rfl rfl h1 ?_
    refine o_q (q_fr fo104_0 rfl) rfl rfl rfl ?_
    refine o_yes rfl rfl rfl h1 ?_
    refine o_q (q_ldm ag3 sz3 rfl (by repeat first | exact Mem.upd_self _ _ _ | assumption | refine Mem.upd_ne (by assumption) ?_) rfl (v_raw rfl)) rfl rfl rfl ?_
    refine o_yes rfl rfl rfl h1 ?_
    refine o_q (q_lss rfl rfl) rfl rfl rfl ?_
    refine o_q (q_pick_c (t := true) rfl h1 (v_raw rfl)) rfl rfl rfl ?_
    refine o_q (q_mv (v_raw rfl)) rfl rfl rfl ?_
    refine o_cases (want := true) (j := 8) rfl rfl (fun h2 => ?_) (fun h2 => ?_)
    · have k2 := h2; try simp only [decide_eq_true_eq, decide_eq_false_iff_not, Bool.not_eq_true', Bool.not_eq_false', Bool.not_true, Bool.not_false, List.length_map, Decidable.not_not] at k2
      refine o_yes rfl rfl rfl h2 ?_
      refine o_q (q_fr fo104_1 rfl) rfl rfl rfl ?_
      refine o_yes rfl rfl rfl h2 ?_
      refine o_q (q_ldm ag3 sz3 rfl (by repeat first | exact Mem.upd_self _ _ _ | assumption | refine Mem.upd_ne (by assumption) ?_) rfl (v_raw rfl)) rfl rfl rfl ?_
      refine o_yes rfl rfl rfl h2 ?_
      refine o_q (q_geq rfl rfl) rfl rfl rfl ?_
      refine o_q (q_pick_c (t := true) rfl h2 (v_raw rfl)) rfl rfl rfl ?_
      refine o_q (q_mv (v_raw rfl)) rfl rfl rfl ?_
      refine o_cases (want := true) (j := 13) rfl rfl (fun h3 => ?_) (fun h3 => ?_)
      · have k3 := h3; try simp only [decide_eq_true_eq, decide_eq_false_iff_not, Bool.not_eq_true', Bool.not_eq_false', Bool.not_true, Bool.not_false, List.length_map, Decidable.not_not] at k3
        refine o_yes rfl rfl rfl h3 ?_
        refine o_q (q_fr fo104_1 rfl) rfl rfl rfl ?_
        refine o_yes rfl rfl rfl h3 ?_
        refine o_q (q_ldm ag3 sz3 rfl (by repeat first | exact Mem.upd_self _ _ _ | assumption | refine Mem.upd_ne (by assumption) ?_) rfl (v_raw rfl)) rfl rfl rfl ?_
        refine o_yes rfl rfl rfl h3 ?_
        refine o_q (q_lss rfl rfl) rfl rfl rfl ?_
        refine o_q (q_pick_c (t := true) rfl h3 (v_raw rfl)) rfl rfl rfl ?_
        refine o_q (q_as (v_raw rfl)) rfl rfl rfl ?_
        refine o_nil ?_
        refine s_ret ?_
        refine s_end ?_
        refine ⟨?_, (by repeat first | exact hle | exact Mem.le_refl M | assumption | exact Mem.none_of_le hle (by assumption) | refine Mem.le_upd ?_ ?_)⟩
        exact congrArg (fun b => AVal.raw (.bool b)) (by simp_all [right] <;> (intros; omega))
      · have k3 := h3; try simp only [decide_eq_true_eq, decide_eq_false_iff_not, Bool.not_eq_true', Bool.not_eq_false', Bool.not_true, Bool.not_false, List.length_map, Decidable.not_not] at k3
        refine o_no rfl rfl rfl rfl h3 ?_
        refine o_no rfl rfl rfl rfl h3 ?_
        refine o_no rfl rfl rfl rfl h3 ?_
        refine o_q (q_pick_c (t := false) rfl h3 (v_raw rfl)) rfl rfl rfl ?_
        refine o_q (q_as (v_raw rfl)) rfl rfl rfl ?_
        refine o_nil ?_
        refine s_ret ?_
        refine s_end ?_
        refine ⟨?_, (by repeat first | exact hle | exact Mem.le_refl M | assumption | exact Mem.none_of_le hle (by assumption) | refine Mem.le_upd ?_ ?_)⟩
        exact congrArg (fun b => AVal.raw (.bool b)) (by simp_all [right] <;> (intros; omega))
    · have k2 := h2; try simp only [decide_eq_true_eq, decide_eq_false_iff_not, Bool.not_eq_true', Bool.not_eq_false', Bool.not_true, Bool.not_false, List.length_map, Decidable.not_not] at k2
      refine o_no rfl rfl rfl rfl h2 ?_
      refine o_no rfl rfl rfl rfl h2 ?_
      refine o_no rfl rfl rfl rfl h2 ?_
      refine o_q (q_pick_c (t := false) rfl h2 (v_raw rfl)) rfl rfl rfl ?_
      refine o_q (q_mv (v_raw rfl)) rfl rfl rfl ?_
      refine o_no rfl rfl rfl rfl rfl ?_
      refine o_no rfl rfl rfl rfl rfl ?_
      refine o_no rfl rfl rfl rfl rfl ?_
      refine o_q (q_pick_c (t := false) rfl rfl (v_raw rfl)) rfl rfl rfl ?_
      refine o_q (q_as (v_raw rfl)) rfl rfl rfl ?_
      refine o_nil ?_
      refine s_ret ?_
      refine s_end ?_
      refine ⟨?_, (by repeat first | exact hle | exact Mem.le_refl M | assumption | exact Mem.none_of_le hle (by assumption) | refine Mem.le_upd ?_ ?_)⟩
      exact congrArg (fun b => AVal.raw (.bool b)) (by simp_all [right] <;> (intros; omega))
  · have k1 := h1; try simp only [decide_eq_true_eq, decide_eq_false_iff_not, Bool.not_eq_true', Bool.not_eq_false', Bool.not_true, Bool.not_false, List.length_map, Decidable.not_not] at k1
    refine o_no rfl rfl rfl rfl h1 ?_
    refine o_no rfl rfl rfl rfl h1 ?_
    refine o_no rfl rfl rfl rfl h1 ?_
    refine o_q (q_pick_c (t := false) rfl h1 (v_raw rfl)) rfl rfl rfl ?_
    refine o_q (q_mv (v_raw rfl)) rfl rfl rfl ?_
    refine o_no rfl rfl rfl rfl rfl ?_
    refine o_no rfl rfl rfl rfl rfl ?_
    refine o_no rfl rfl rfl rfl rfl ?_
    refine o_q (q_pick_c (t := false) rfl rfl (v_raw rfl)) rfl rfl rfl ?_
    refine o_q (q_mv (v_raw rfl)) rfl rfl rfl ?_
    refine o_no rfl rfl rfl rfl rfl ?_
    refine o_no rfl rfl rfl rfl rfl ?_
    refine o_no rfl rfl rfl rfl rfl ?_
    refine o_q (q_pick_c (t := false) rfl rfl (v_raw rfl)) rfl rfl rfl ?_
    refine o_q (q_as (v_raw rfl)) rfl rfl rfl ?_
    refine o_nil ?_
    refine s_ret ?_
    refine s_end ?_
    refine ⟨?_, (by repeat first | exact hle | exact Mem.le_refl M | assumption | exact Mem.none_of_le hle (by assumption) | refine Mem.le_upd ?_ ?_)⟩
    exact congrArg (fun b => AVal.raw (.bool b)) (by simp_all [right] <;> (intros; omega))

def tk87 : Nat → Nat → Option Nat := fun _ _ => none
def pl87 : Nat → List PStep := fun _ => []
theorem cb87 : Tryd.f87.body.map (codeB Tryd.prog Tryd.f87.ntmps tk87 pl87) = some true := by kernel_rfl
theorem goes87 : goesB Tryd.prog 87 = true := by kernel_rfl
theorem snd87 (a : Pr) (M : Mem) : SoundCall Tryd.prog 87 [encP a] M fun r M' => r = cxp a ∧ M.le M' := by
  refine SoundCall.go tk87 pl87 mixed Tryd.func87 cb87 rfl (Nat.le_of_ble_eq_true rfl) ?_
  refine s_seq ?_
  refine s_region ?_
  refine o_box (by first | exact e_raw rfl | exact e_agg rfl | exact e_sl rfl) rfl rfl (fun B1 hB1 => ?_)
  have m1 : M B1 = none := by have h := hB1; repeat (first | exact h | exact Mem.none_of_le hle h | replace h := (Mem.upd_none h).2)
  refine o_q (q_as (v_raw rfl)) rfl rfl rfl ?_
  refine o_nil ?_
  refine s_seq ?_
  refine s_region ?_
  refine o_q (q_fr fo104_0 rfl) rfl rfl rfl ?_
  refine o_q (q_ldm ag3 sz3 rfl (by repeat first | exact Mem.upd_self _ _ _ | assumption | refine Mem.upd_ne (by assumption) ?_) rfl (v_raw rfl)) rfl rfl rfl ?_
  refine o_q (q_i2f und3 und163 rfl) rfl rfl rfl ?_
  refine o_q (q_fr fo104_1 rfl) rfl rfl rfl ?_
  refine o_q (q_ldm ag3 sz3 rfl (by repeat first | exact Mem.upd_self _ _ _ | assumption | refine Mem.upd_ne (by assumption) ?_) rfl (v_raw rfl)) rfl rfl rfl ?_
  refine o_q (q_i2f und3 und163 rfl) rfl rfl rfl ?_
  refine o_q (q_complex rfl rfl) rfl rfl rfl ?_
  refine o_q (q_as (v_raw rfl)) rfl rfl rfl ?_
  refine o_nil ?_
  refine s_ret ?_
  refine s_end ?_
  exact ⟨rfl, (by repeat first | exact hle | exact Mem.le_refl M | assumption | exact Mem.none_of_le hle (by assumption) | refine Mem.le_upd ?_ ?_)⟩

def tk119 : Nat → Nat → Option Nat := fun _ _ => none
def pl119 : Nat → List PStep := fun _ => []
theorem cb119 : Tryd.f119.body.map (codeB Tryd.prog Tryd.f119.ntmps tk119 pl119) = some true := by kernel_rfl
theorem goes119 : goesB Tryd.prog 119 = true := by kernel_rfl
theorem snd119 (n : Int) (M : Mem) (h : n.natAbs < 2 ^ 52) : SoundCall Tryd.prog 119 [fl n] M fun r M' => r = int (n % 33554383) ∧ M.le M' := by
  have t1 : n.tmod 33554383 < 33554383 := Int.tmod_lt_of_pos n (by decide)
  have t2 : -33554383 < n.tmod 33554383 := by have := Int.tmod_lt_of_pos (-n) (b := 33554383) (by decide); rw [Int.neg_tmod] at this; omega
  have t3 := Int.mul_tdiv_add_tmod n 33554383
  refine SoundCall.go tk119 pl119 mixed Tryd.func119 cb119 rfl (Nat.le_of_ble_eq_true rfl) ?_
  refine s_seq ?_
  refine s_region ?_
  refine o_q (q_as (v_raw rfl)) rfl rfl rfl ?_
  refine o_nil ?_
  refine s_seq ?_
  refine s_region ?_
  refine o_q (q_mv (v_raw rfl)) rfl rfl rfl ?_
  refine o_q (q_f2i und163 und3 rfl (by omega)) rfl rfl rfl ?_
  refine o_q (q_rem rfl rfl (by decide)) rfl rfl rfl ?_
  refine o_q (q_as (v_raw rfl)) rfl rfl rfl ?_
  refine o_nil ?_
  refine s_seq ?_
  refine s_seq ?_
  refine s_region ?_
  refine o_q (q_mv (v_raw rfl)) rfl rfl rfl ?_
  refine o_q (q_lss rfl rfl) rfl rfl rfl ?_
  refine o_nil ?_
  refine s_cond rfl (fun h1 => ?_) (fun h1 => ?_)
  · have k1 := h1; try simp only [decide_eq_true_eq, decide_eq_false_iff_not, Bool.not_eq_true', Bool.not_eq_false', Bool.not_true, Bool.not_false, List.length_map, Decidable.not_not] at k1
    refine s_region ?_
    refine o_q (q_mv (v_raw rfl)) rfl rfl rfl ?_
    refine o_q (q_add rfl rfl (wrap64 (by omega) (by omega))) rfl rfl rfl ?_
    refine o_q (q_as (v_raw rfl)) rfl rfl rfl ?_
    refine o_nil ?_
    refine s_seq ?_
    refine s_region ?_
    refine o_q (q_mv (v_raw rfl)) rfl rfl rfl ?_
    refine o_q (q_as (v_raw rfl)) rfl rfl rfl ?_
    refine o_nil ?_
    refine s_ret ?_
    refine s_end ?_
    refine ⟨congrArg int (?_ : n.tmod 33554383 + 33554383 = n % 33554383), (by repeat first | exact hle | exact Mem.le_refl M | assumption | exact Mem.none_of_le hle (by assumption) | refine Mem.le_upd ?_ ?_)⟩
    omega
  · have k1 := h1; try simp only [decide_eq_true_eq, decide_eq_false_iff_not, Bool.not_eq_true', Bool.not_eq_false', Bool.not_true, Bool.not_false, List.length_map, Decidable.not_not] at k1
    refine s_skip ?_
    refine s_seq ?_
    refine s_region ?_
    refine o_q (q_mv (v_raw rfl)) rfl rfl rfl ?_
    refine o_q (q_as (v_raw rfl)) rfl rfl rfl ?_
    refine o_nil ?_
    refine s_ret ?_
    refine s_end ?_
    refine ⟨congrArg int (?_ : n.tmod 33554383 = n % 33554383), (by repeat first | exact hle | exact Mem.le_refl M | assumption | exact Mem.none_of_le hle (by assumption) | refine Mem.le_upd ?_ ?_)⟩
    omega

def tk89 : Nat → Nat → Option Nat := fun _ _ => none
def pl89 : Nat → List PStep := fun _ => []
theorem cb89 : Tryd.f89.body.map (codeB Tryd.prog Tryd.f89.ntmps tk89 pl89) = some true := by kernel_rfl
theorem goes89 : goesB Tryd.prog 89 = true := by kernel_rfl
theorem snd89 (z : Pr) (M : Mem) (h1 : z.re.natAbs < 2 ^ 52) (h2 : z.im.natAbs < 2 ^ 52) : SoundCall Tryd.prog 89 [cxp z] M fun r M' => r = encP (md z) ∧ M.le M' := by
  refine SoundCall.go tk89 pl89 mixed Tryd.func89 cb89 rfl (Nat.le_of_ble_eq_true rfl) ?_
  refine s_seq ?_
  refine s_region ?_
  refine o_alloc zc104 (fun B1 hB1 => ?_)
  have m1 : M B1 = none := by have h := hB1; repeat (first | exact h | exact Mem.none_of_le hle h | replace h := (Mem.upd_none h).2)
  refine o_nil ?_
  refine s_seq ?_
  refine s_region ?_
  refine o_q (q_mv (v_raw rfl)) rfl rfl rfl ?_
  refine o_q (q_real rfl) rfl rfl rfl ?_
  refine o_call ((snd119 z.re _ h1).det) goes119 (ac (v_raw rfl) ac_nil) rfl ?_
  refine o_q (q_mv (v_raw rfl)) rfl rfl rfl ?_
  refine o_q (q_imag rfl) rfl rfl rfl ?_
  refine o_call ((snd119 z.im _ h2).det) goes119 (ac (v_raw rfl) ac_nil) rfl ?_
  refine o_q (q_b (cs := [_, _]) bz104 bp104 (bf fo104_0 (e_raw rfl) rfl rfl (Nat.le_of_ble_eq_true rfl) rfl (bf fo104_1 (e_raw rfl) rfl rfl (Nat.le_of_ble_eq_true rfl) rfl bf_nil))) rfl rfl rfl ?_
  refine o_storew rfl (by repeat first | exact Mem.upd_self _ _ _ | assumption | refine Mem.upd_ne (by assumption) ?_) (by first | exact e_agg rfl | rfl) rfl sz104 rfl rfl rfl rfl ?_
  refine o_nil ?_
  refine s_ret ?_
  refine s_end ?_
  exact ret_one (.inl rfl) rfl (rl_c rfl (Mem.upd_self _ _ _) (loadP_w ag104 sz104 rfl rfl) rfl rl_nil) ⟨rfl, (by repeat first | exact hle | exact Mem.le_refl M | assumption | exact Mem.none_of_le hle (by assumption) | refine Mem.le_upd ?_ ?_)⟩

def tk88 : Nat → Nat → Option Nat := fun _ _ => none
def pl88 : Nat → List PStep := fun _ => []
theorem cb88 : Tryd.f88.body.map (codeB Tryd.prog Tryd.f88.ntmps tk88 pl88) = some true := by kernel_rfl
theorem goes88 : goesB Tryd.prog 88 = true := by kernel_rfl
theorem snd88 (z : Pr) (M : Mem) (h1 : z.re.natAbs < 2 ^ 52) (h2 : z.im.natAbs < 2 ^ 52) : SoundCall Tryd.prog 88 [cxp z] M fun r M' => r = cxp (md z) ∧ M.le M' := by
  refine SoundCall.go tk88 pl88 mixed Tryd.func88 cb88 rfl (Nat.le_of_ble_eq_true rfl) ?_
  refine s_seq ?_
  refine s_region ?_
  refine o_q (q_as (v_raw rfl)) rfl rfl rfl ?_
  refine o_nil ?_
  refine s_seq ?_
  refine s_region ?_
  refine o_q (q_mv (v_raw rfl)) rfl rfl rfl ?_
  refine o_call ((snd89 z _ h1 h2).det) goes89 (ac (v_raw rfl) ac_nil) rfl ?_
  refine o_call ((snd87 (md z) _).det) goes87 (ac (v_agg rfl) ac_nil) rfl ?_
  refine o_q (q_as (v_raw rfl)) rfl rfl rfl ?_
  refine o_nil ?_
  refine s_ret ?_
  refine s_end ?_
  exact ⟨rfl, (by repeat first | exact hle | exact Mem.le_refl M | assumption | exact Mem.none_of_le hle (by assumption) | refine Mem.le_upd ?_ ?_)⟩

def tk42 : Nat → Nat → Option Nat := fun _ _ => none
def pl42 : Nat → List PStep := fun _ => []
theorem cb42 : Tryd.f42.body.map (codeB Tryd.prog Tryd.f42.ntmps tk42 pl42) = some true := by kernel_rfl
theorem goes42 : goesB Tryd.prog 42 = true := by kernel_rfl
theorem snd42 (M : Mem) : SoundCall Tryd.prog 42 [] M fun r M' => r = encP ⟨1, 0⟩ ∧ M.le M' := by
  refine SoundCall.go tk42 pl42 mixed Tryd.func42 cb42 rfl (Nat.le_of_ble_eq_true rfl) ?_
  refine s_seq ?_
  refine s_region ?_
  refine o_alloc zc104 (fun B1 hB1 => ?_)
  have m1 : M B1 = none := by have h := hB1; repeat (first | exact h | exact Mem.none_of_le hle h | replace h := (Mem.upd_none h).2)
  refine o_nil ?_
  refine s_seq ?_
  refine s_region ?_
  refine o_q (q_b (cs := [_, .raw (.int .i64 0)]) bz104 bp104 (bf fo104_0 (e_raw rfl) rfl rfl (Nat.le_of_ble_eq_true rfl) rfl bf_nil)) rfl rfl rfl ?_
  refine o_storew rfl (by repeat first | exact Mem.upd_self _ _ _ | assumption | refine Mem.upd_ne (by assumption) ?_) (by first | exact e_agg rfl | rfl) rfl sz104 rfl rfl rfl rfl ?_
  refine o_nil ?_
  refine s_ret ?_
  refine s_end ?_
  exact ret_one (.inl rfl) rfl (rl_c rfl (Mem.upd_self _ _ _) (loadP_w ag104 sz104 rfl rfl) rfl rl_nil) ⟨rfl, (by repeat first | exact hle | exact Mem.le_refl M | assumption | exact Mem.none_of_le hle (by assumption) | refine Mem.le_upd ?_ ?_)⟩

def tk59 : Nat → Nat → Option Nat := fun _ _ => none
def pl59 : Nat → List PStep := fun _ => []
theorem cb59 : Tryd.f59.body.map (codeB Tryd.prog Tryd.f59.ntmps tk59 pl59) = some true := by kernel_rfl
theorem goes59 : goesB Tryd.prog 59 = true := by kernel_rfl

/-- A digest goes on by one byte; what is told is not yet brought below p. -/
def stepO (z : Pr) (c : Nat) : Pr := ⟨(md z).re * 2 - (md z).im * 3 + ((c : Int) + 1), (md z).re * 3 + (md z).im * 2 + 0⟩
def beginO (d : Pr) (n : Nat) : Pr := ⟨d.re * 2 - d.im * 3 + (257 + (n : Int)).tmod 33554383, d.re * 3 + d.im * 2 + 0⟩
def onZ (d : Pr) (n : Nat) (bs : List UInt8) : Pr := bs.foldl (fun z c => stepO z c.toNat) (beginO d n)
def onP (d : Pr) (s : ByteArray) : Pr := md (onZ d s.size s.data.toList)
def Sm (z : Pr) : Prop := z.re.natAbs < 2 ^ 40 ∧ z.im.natAbs < 2 ^ 40
theorem stepO_sm (z : Pr) {c : Nat} (h : c < 256) : Sm (stepO z c) := by
  have := right_spec.1 (md_right z)
  unfold Sm stepO
  dsimp only
  omega
theorem beginO_sm {d : Pr} (n : Nat) (h : right d = true) : Sm (beginO d n) := by
  have := right_spec.1 h
  have t1 : (257 + (n : Int)).tmod 33554383 < 33554383 := Int.tmod_lt_of_pos _ (by decide)
  have t2 : 0 ≤ (257 + (n : Int)).tmod 33554383 := Int.tmod_nonneg _ (by omega)
  unfold Sm beginO
  dsimp only
  omega
theorem onZ_sm {d : Pr} (n : Nat) (h : right d = true) : ∀ bs : List UInt8, Sm (onZ d n bs) := by
  have : ∀ (bs : List UInt8) (z : Pr), Sm z → Sm (bs.foldl (fun z c => stepO z c.toNat) z) := by
    intro bs
    induction bs with
    | nil => exact fun z h => h
    | cons c bs ih => exact fun z h => ih _ (stepO_sm z c.toNat_lt)
  exact fun bs => this bs _ (beginO_sm n h)
theorem onZ_succ (d : Pr) (n : Nat) (bs : List UInt8) {i : Nat} (h : i < bs.length) : onZ d n (bs.take (i + 1)) = stepO (onZ d n (bs.take i)) bs[i].toNat := by
  unfold onZ
  rw [List.take_succ_eq_append_getElem h, List.foldl_append]; rfl
theorem snd59 (d : Pr) (s : ByteArray) (M : Mem) (hs : s.size < 2 ^ 62) : SoundCall Tryd.prog 59 [encP d, .raw (.string s)] M fun r M' => r = resP (right d) (onP d s) ∧ M.le M' := by
  refine SoundCall.go tk59 pl59 mixed Tryd.func59 cb59 rfl (Nat.le_of_ble_eq_true rfl) ?_
  refine s_seq ?_
  refine s_region ?_
  refine o_box (by first | exact e_raw rfl | exact e_agg rfl | exact e_sl rfl) rfl rfl (fun B1 hB1 => ?_)
  have m1 : M B1 = none := by have h := hB1; repeat (first | exact h | exact Mem.none_of_le hle h | replace h := (Mem.upd_none h).2)
  refine o_alloc zc104 (fun B2 hB2 => ?_)
  have f1_2 : B1 ≠ B2 := Mem.fresh_ne hB2 (by repeat first | exact Mem.upd_self _ _ _ | assumption | refine Mem.upd_ne (by assumption) ?_)
  have g2_1 : B2 ≠ B1 := f1_2.symm
  have m2 : M B2 = none := by have h := hB2; repeat (first | exact h | exact Mem.none_of_le hle h | replace h := (Mem.upd_none h).2)
  refine o_q (q_as (v_raw rfl)) rfl rfl rfl ?_
  refine o_nil ?_
  refine s_seq ?_
  refine s_seq ?_
  refine s_region ?_
  refine o_q (q_ldmw ag104 sz104 rfl (by repeat first | exact Mem.upd_self _ _ _ | assumption | refine Mem.upd_ne (by assumption) ?_) rfl rfl) rfl rfl rfl ?_
  refine o_call ((snd86 d _).det) goes86 (ac (v_agg rfl) ac_nil) rfl ?_
  refine o_q (q_not rfl) rfl rfl rfl ?_
  refine o_nil ?_
  refine s_cond rfl (fun h1 => ?_) (fun h1 => ?_)
  · have k1 := h1; try simp only [decide_eq_true_eq, decide_eq_false_iff_not, Bool.not_eq_true', Bool.not_eq_false', Bool.not_true, Bool.not_false, List.length_map, Decidable.not_not] at k1
    refine s_seq ?_
    refine s_region ?_
    refine o_q (q_b (cs := [.raw (.int .i64 0), .raw (.int .i64 0)]) bz104 bp104 bf_nil) rfl rfl rfl ?_
    refine o_storew rfl (by repeat first | exact Mem.upd_self _ _ _ | assumption | refine Mem.upd_ne (by assumption) ?_) (by first | exact e_agg rfl | rfl) rfl sz104 rfl rfl rfl rfl ?_
    refine o_q (q_as (v_raw rfl)) rfl rfl rfl ?_
    refine o_nil ?_
    refine s_ret ?_
    refine s_code_ret ?_
    refine s_end ?_
    exact ret_many (.inl rfl) rfl (rl_c rfl (by repeat first | exact Mem.upd_self _ _ _ | assumption | refine Mem.upd_ne (by assumption) ?_) (loadP_w ag104 sz104 rfl rfl) rfl (rl_t rfl rl_nil)) rfl ⟨by rw [show right d = false by simp_all]; rfl, (by repeat first | exact hle | exact Mem.le_refl M | assumption | exact Mem.none_of_le hle (by assumption) | refine Mem.le_upd ?_ ?_)⟩
  · have k1 := h1; try simp only [decide_eq_true_eq, decide_eq_false_iff_not, Bool.not_eq_true', Bool.not_eq_false', Bool.not_true, Bool.not_false, List.length_map, Decidable.not_not] at k1
    have hd : right d = true := by simpa using h1
    have rd := right_spec.1 hd
    have w1 : Low d.re := low_of rd.1 rd.2.1
    have w2 : Low d.im := low_of rd.2.2.1 rd.2.2.2
    have t1 : (257 + (s.size : Int)).tmod 33554383 < 33554383 := Int.tmod_lt_of_pos _ (by decide)
    have t2 : 0 ≤ (257 + (s.size : Int)).tmod 33554383 := Int.tmod_nonneg _ (by omega)
    refine s_skip ?_
    refine s_seq ?_
    refine s_region ?_
    refine o_q (q_ldmw ag104 sz104 rfl (by repeat first | exact Mem.upd_self _ _ _ | assumption | refine Mem.upd_ne (by assumption) ?_) rfl rfl) rfl rfl rfl ?_
    refine o_call ((snd87 d _).det) goes87 (ac (v_agg rfl) ac_nil) rfl ?_
    refine o_q (q_cmul rfl cc2_3 (by first | assumption | exact ⟨by omega, by omega⟩) (by first | assumption | exact ⟨by omega, by omega⟩) (by first | assumption | exact ⟨by omega, by omega⟩) (by first | assumption | exact ⟨by omega, by omega⟩)) rfl rfl rfl ?_
    refine o_q (q_mv (v_raw rfl)) rfl rfl rfl ?_
    refine o_q (q_lens rfl und9 rfl) rfl rfl rfl ?_
    refine o_q (q_add rfl rfl (wrap64 (by omega) (by omega))) rfl rfl rfl ?_
    refine o_q (q_rem rfl rfl (by decide)) rfl rfl rfl ?_
    refine o_q (q_i2f und3 und163 rfl) rfl rfl rfl ?_
    refine o_q (q_complex rfl fc0) rfl rfl rfl ?_
    refine o_q (q_cadd rfl rfl (by omega) (by omega)) rfl rfl rfl ?_
    refine o_q (q_as (v_raw rfl)) rfl rfl rfl ?_
    refine o_nil ?_
    refine s_seq ?_
    refine s_seq ?_
    refine s_region ?_
    refine o_q (q_mv (v_raw rfl)) rfl rfl rfl ?_
    refine o_s2b s2b9_125 rfl (fun B3 C3 hB3 hC3 => ?_)
    have f1_3 : B1 ≠ B3 := Mem.fresh_ne hB3 (by repeat first | exact Mem.upd_self _ _ _ | assumption | refine Mem.upd_ne (by assumption) ?_)
    have g3_1 : B3 ≠ B1 := f1_3.symm
    have f2_3 : B2 ≠ B3 := Mem.fresh_ne hB3 (by repeat first | exact Mem.upd_self _ _ _ | assumption | refine Mem.upd_ne (by assumption) ?_)
    have g3_2 : B3 ≠ B2 := f2_3.symm
    have m3 : M B3 = none := by have h := hB3; repeat (first | exact h | exact Mem.none_of_le hle h | replace h := (Mem.upd_none h).2)
    refine o_q (q_lenr rfl und125 rfl) rfl rfl rfl ?_
    refine o_q (q_mv (v_raw rfl)) rfl rfl rfl ?_
    refine o_nil ?_
    refine s_block ?_
    refine s_loop (fun m S => ∃ T, ∃ M' : Mem, ∃ i : Nat, S = ⟨setT (setT (setT (setT (setT (setT T 6 (cxp (onZ d s.size (s.data.toList.take i)))) 24 (.raw (.slice (some ⟨B3, 0, none⟩) s.size C3))) 25 (int s.size)) 26 (int i)) 2 (ptr B1)) 4 (ptr B2), M'⟩ ∧ M.le M' ∧ (M' B2 = some (.cells [int 0, int 0]) ∧ M' B3 = some (.cells (u8l s ++ List.replicate (C3 - s.size) (.raw (.int .u8 0))))) ∧ i ≤ s.size ∧ m = s.size - i) s.size ?_ ?_
    · exact ⟨_, _, 0, St.mkT (kp (kp (kp (kp (kp (kp rfl rfl) rfl) rfl) rfl) rfl) rfl).symm, (by repeat first | exact hle | exact Mem.le_refl M | assumption | exact Mem.none_of_le hle (by assumption) | refine Mem.le_upd ?_ ?_), ⟨(by repeat first | exact Mem.upd_self _ _ _ | assumption | refine Mem.upd_ne (by assumption) ?_), (by repeat first | exact Mem.upd_self _ _ _ | assumption | refine Mem.upd_ne (by assumption) ?_)⟩, by omega, rfl⟩
    rintro m S ⟨T, M', i, rfl, hle, ⟨bm2, bm3⟩, hi, rfl⟩
    have hsm := onZ_sm s.size hd (s.data.toList.take i)
    have hsl : s.data.toList.length = s.size := Array.length_toList
    have rz := right_spec.1 (md_right (onZ d s.size (s.data.toList.take i)))
    have w3 := low_of rz.1 rz.2.1
    have w4 := low_of rz.2.2.1 rz.2.2.2
    refine s_seq ?_
    refine s_region ?_
    refine o_q (q_lss rfl rfl) rfl rfl rfl ?_
    refine o_nil ?_
    refine s_seq ?_
    refine s_cond rfl (fun h2 => ?_) (fun h2 => ?_)
    · have k2 := h2; try simp only [decide_eq_true_eq, decide_eq_false_iff_not, Bool.not_eq_true', Bool.not_eq_false', Bool.not_true, Bool.not_false, List.length_map, Decidable.not_not] at k2
      have hc8 : (s.data[i]'(by have h : i < s.size := (by omega); exact h)).toNat < 256 := UInt8.toNat_lt _
      refine s_skip ?_
      refine s_seq ?_
      refine s_block ?_
      refine s_seq ?_
      refine s_region ?_
      refine o_q (q_idxr und125 sz5 rfl rfl (by omega) (by omega)) rfl rfl rfl ?_
      refine o_q (q_ldm ag5 sz5 rfl (by repeat first | exact Mem.upd_self _ _ _ | assumption | refine Mem.upd_ne (by assumption) ?_) (by simpa [piece] using u8l_get (s := s) (j := i) (by omega)) (v_raw rfl)) rfl rfl rfl ?_
      refine o_q (q_as (v_raw rfl)) rfl rfl rfl ?_
      refine o_nil ?_
      refine s_region ?_
      refine o_q (q_mv (v_raw rfl)) rfl rfl rfl ?_
      refine o_call ((snd88 (onZ d s.size (s.data.toList.take i)) _ (by have := hsm.1; omega) (by have := hsm.2; omega)).det) goes88 (ac (v_raw rfl) ac_nil) rfl ?_
      refine o_q (q_cmul rfl cc2_3 (by first | assumption | exact ⟨by omega, by omega⟩) (by first | assumption | exact ⟨by omega, by omega⟩) (by first | assumption | exact ⟨by omega, by omega⟩) (by first | assumption | exact ⟨by omega, by omega⟩)) rfl rfl rfl ?_
      refine o_q (q_mv (v_raw rfl)) rfl rfl rfl ?_
      refine o_q (q_i2f und5 und163 rfl) rfl rfl rfl ?_
      refine o_q (q_fadd rfl fc1 (by omega)) rfl rfl rfl ?_
      refine o_q (q_complex rfl fc0) rfl rfl rfl ?_
      refine o_q (q_cadd rfl rfl (by omega) (by omega)) rfl rfl rfl ?_
      refine o_q (q_as (v_raw rfl)) rfl rfl rfl ?_
      refine o_nil ?_
      refine s_blk_normal ?_
      refine s_region ?_
      refine o_q (q_add rfl rfl (wrap64 (by omega) (by omega))) rfl rfl rfl ?_
      refine o_q (q_mv (v_raw rfl)) rfl rfl rfl ?_
      refine o_nil ?_
      refine s_inv ?_
      exact ⟨s.size - (i + 1), by omega, _, _, i + 1, St.mkT (kp (kp (kp (kp (kp (kp rfl (show _ = cxp (onZ d s.size (s.data.toList.take (i + 1))) by rw [onZ_succ d s.size s.data.toList (by omega)]; rfl)) rfl) rfl) rfl) rfl) rfl).symm, (by repeat first | exact hle | exact Mem.le_refl M | assumption | exact Mem.none_of_le hle (by assumption) | refine Mem.le_upd ?_ ?_), ⟨(by repeat first | exact Mem.upd_self _ _ _ | assumption | refine Mem.upd_ne (by assumption) ?_), (by repeat first | exact Mem.upd_self _ _ _ | assumption | refine Mem.upd_ne (by assumption) ?_)⟩, by omega, rfl⟩
    · have k2 := h2; try simp only [decide_eq_true_eq, decide_eq_false_iff_not, Bool.not_eq_true', Bool.not_eq_false', Bool.not_true, Bool.not_false, List.length_map, Decidable.not_not] at k2
      refine s_exit ?_
      refine s_code_exit ?_
      refine s_inv_exit ?_
      refine s_blk_here ?_
      refine s_seq ?_
      refine s_region ?_
      refine o_q (q_mv (v_raw rfl)) rfl rfl rfl ?_
      refine o_call ((snd89 (onZ d s.size (s.data.toList.take i)) _ (by have := hsm.1; omega) (by have := hsm.2; omega)).det) goes89 (ac (v_raw rfl) ac_nil) rfl ?_
      refine o_storew rfl (by repeat first | exact Mem.upd_self _ _ _ | assumption | refine Mem.upd_ne (by assumption) ?_) (by first | exact e_agg rfl | rfl) rfl sz104 rfl rfl rfl rfl ?_
      refine o_q (q_as (v_raw rfl)) rfl rfl rfl ?_
      refine o_nil ?_
      refine s_ret ?_
      refine s_end ?_
      obtain rfl : i = s.size := by omega
      exact ret_many (.inl rfl) rfl (rl_c rfl (by repeat first | exact Mem.upd_self _ _ _ | assumption | refine Mem.upd_ne (by assumption) ?_) (loadP_w ag104 sz104 rfl rfl) rfl (rl_t rfl rl_nil)) rfl ⟨by rw [hd]; unfold resP onP; rw [← hsl, List.take_length]; rfl, (by repeat first | exact hle | exact Mem.le_refl M | assumption | exact Mem.none_of_le hle (by assumption) | refine Mem.le_upd ?_ ?_)⟩
end C3
