import Derived.Test.YtlfghpdopponaaaFl
import Derived.Test.YtlfghpdopponaaaProg
/-! Chapter 3: what its functions compute. -/
open Go Go.Proofs Go.Am Fl
set_option linter.unusedVariables false
set_option linter.unusedSimpArgs false
namespace C3
theorem ag3 : aggT Try.prog 3 = some false := by kernel_rfl
theorem ag5 : aggT Try.prog 5 = some false := by kernel_rfl
theorem ag23 : aggT Try.prog 23 = some true := by kernel_rfl
theorem bz23 : (zeroT Try.prog 23).map (fun z => z.cells.toList.map AVal.raw) = some [.raw (.int .i64 0), .raw (.int .i64 0)] := by kernel_rfl
theorem bp23 : (aPlaces Try.prog 23).isSome = true := by kernel_rfl
theorem cc1_0 : (AVal.raw (.complex .f64 4607182418800017408 0)) = cx 1 0 := by kernel_rfl
theorem cc2_3 : (AVal.raw (.complex .f64 4611686018427387904 4613937818241073152)) = cx 2 3 := by kernel_rfl
theorem fc0 : (AVal.raw (.float .f64 0)) = fl 0 := by kernel_rfl
theorem fc1 : (AVal.raw (.float .f64 4607182418800017408)) = fl 1 := by kernel_rfl
theorem fo23_0 : fo Try.prog 23 0 = some (0, 1) := by kernel_rfl
theorem fo23_1 : fo Try.prog 23 1 = some (1, 1) := by kernel_rfl
theorem s2b9_26 : s2b Try.prog 9 26 = true := by kernel_rfl
theorem sz3 : sizeT Try.prog 3 = some 1 := by kernel_rfl
theorem sz5 : sizeT Try.prog 5 = some 1 := by kernel_rfl
theorem sz23 : sizeT Try.prog 23 = some 2 := by kernel_rfl
theorem und3 : Try.prog.underlying 3 = some (.int .i64) := by kernel_rfl
theorem und5 : Try.prog.underlying 5 = some (.int .u8) := by kernel_rfl
theorem und9 : Try.prog.underlying 9 = some .string := by kernel_rfl
theorem und26 : Try.prog.underlying 26 = some (.slice 5) := by kernel_rfl
theorem und54 : Try.prog.underlying 54 = some (.float .f64) := by kernel_rfl
theorem zc23 : zeroCellsT Try.prog 23 = some [.raw (.int .i64 0), .raw (.int .i64 0)] := by kernel_rfl
theorem mixed : Try.prog.follows .mixedOrders = true := by kernel_rfl
/-- A pair. -/
structure Pr where
  re : Int
  im : Int
  deriving DecidableEq, Inhabited
def encP (a : Pr) : AVal := .agg [.raw (.int .i64 a.re), .raw (.int .i64 a.im)]
def ptr (b : Nat) : AVal := .raw (.pointer (some ⟨b, 0, none⟩))
def int (n : Int) : AVal := .raw (.int .i64 n)
def right (a : Pr) : Bool := decide (0 ≤ a.re) && decide (a.re < 33554383) && decide (0 ≤ a.im) && decide (a.im < 33554383)
def md (a : Pr) : Pr := ⟨a.re % 33554383, a.im % 33554383⟩
def mulZ (a b : Pr) : Pr := ⟨a.re * b.re - a.im * b.im, a.re * b.im + a.im * b.re⟩
def addZ (a b : Pr) : Pr := ⟨a.re + b.re, a.im + b.im⟩
def subZ (a b : Pr) : Pr := ⟨a.re - b.re, a.im - b.im⟩
def cxp (a : Pr) : AVal := cx a.re a.im
theorem right_spec {a : Pr} : right a = true ↔ 0 ≤ a.re ∧ a.re < 33554383 ∧ 0 ≤ a.im ∧ a.im < 33554383 := by
  unfold right; simp [and_assoc]
theorem md_right (a : Pr) : right (md a) = true := right_spec.2 ⟨by show 0 ≤ a.re % 33554383; omega, by show a.re % 33554383 < 33554383; omega, by show 0 ≤ a.im % 33554383; omega, by show a.im % 33554383 < 33554383; omega⟩
/-- A pair, or none. -/
def resP (r : Bool) (a : Pr) : AVal := .tup [encP (if r then a else ⟨0, 0⟩), int (if r then 0 else 1)]
theorem ret_p {T : Nat → AVal} {M : Mem} {P : Program} {l : List AVal} {W : AVal} {o : Nat} {a b : Pr} {t : TypeId} (h : loadP P t l o = some (encP a)) (e : a = b) : loadP P t l o = some (encP b) := by rw [← e]; exact h
theorem low_of {u : Int} (h0 : 0 ≤ u) (h1 : u < 33554383) : Low u := ⟨h0, by omega⟩
theorem mul_bound {u v : Int} (hu : Low u) (hv : Low v) : 0 ≤ u * v ∧ u * v < 4503599627370496 := by
  refine ⟨Int.mul_nonneg hu.1 hv.1, ?_⟩
  have h1 : u * v ≤ 67108863 * 67108863 := Int.mul_le_mul (by have := hu.2; omega) (by have := hv.2; omega) hv.1 (by decide)
  omega

def tk23 : Nat → Nat → Option Nat := fun _ _ => none
def pl23 : Nat → List PStep := fun _ => []
theorem cb23 : Try.f23.body.map (codeB Try.prog Try.f23.ntmps tk23 pl23) = some true := by kernel_rfl
theorem goes23 : goesB Try.prog 23 = true := by kernel_rfl
-- carillon/gauss.Right params ['api.Pair'] results [['t', 2]] own [] names ['0:a', '1:a'] calls [] paths 4
theorem snd23 (m : Pr) (M : Mem) : SoundCall Try.prog 23 [encP m] M fun r M' => r = .raw (.bool (right m)) ∧ M.le M' := by
  refine SoundCall.go tk23 pl23 mixed Try.func23 cb23 rfl (Nat.le_of_ble_eq_true rfl) ?_
  refine s_seq ?_
  refine s_region ?_
  refine o_box (by first | exact e_raw rfl | exact e_agg rfl | exact e_sl rfl) rfl rfl (fun B1 hB1 => ?_)
  have m1 : M B1 = none := by have h := hB1; repeat (first | exact h | replace h := (Mem.upd_none h).2)
  refine o_q (q_as (v_raw rfl)) rfl rfl rfl ?_
  refine o_nil ?_
  refine s_seq ?_
  refine s_region ?_
  refine o_q (q_fr fo23_0 rfl) rfl rfl rfl ?_
  refine o_q (q_ldm ag3 sz3 rfl (by repeat first | exact Mem.upd_self _ _ _ | assumption | refine Mem.upd_ne (by assumption) ?_) rfl (v_raw rfl)) rfl rfl rfl ?_
  refine o_q (q_geq rfl rfl) rfl rfl rfl ?_
  refine o_q (q_mv (v_raw rfl)) rfl rfl rfl ?_
  refine o_cases (want := true) (j := 3) rfl rfl (fun h1 => ?_) (fun h1 => ?_)
  · have k1 := h1; try simp only [decide_eq_true_eq, decide_eq_false_iff_not, Bool.not_eq_true', Bool.not_eq_false', Bool.not_true, Bool.not_false, List.length_map, Decidable.not_not] at k1
    refine o_yes rfl rfl rfl h1 ?_
    refine o_q (q_fr fo23_0 rfl) rfl rfl rfl ?_
    refine o_yes rfl rfl rfl h1 ?_
    refine o_q (q_ldm ag3 sz3 rfl (by repeat first | exact Mem.upd_self _ _ _ | assumption | refine Mem.upd_ne (by assumption) ?_) rfl (v_raw rfl)) rfl rfl rfl ?_
    refine o_yes rfl rfl rfl h1 ?_
    refine o_q (q_lss rfl rfl) rfl rfl rfl ?_
    refine o_q (q_pick_c (t := true) rfl h1 (v_raw rfl)) rfl rfl rfl ?_
    refine o_q (q_mv (v_raw rfl)) rfl rfl rfl ?_
    refine o_cases (want := true) (j := 8) rfl rfl (fun h2 => ?_) (fun h2 => ?_)
    · have k2 := h2; try simp only [decide_eq_true_eq, decide_eq_false_iff_not, Bool.not_eq_true', Bool.not_eq_false', Bool.not_true, Bool.not_false, List.length_map, Decidable.not_not] at k2
      refine o_yes rfl rfl rfl h2 ?_
      refine o_q (q_fr fo23_1 rfl) rfl rfl rfl ?_
      refine o_yes rfl rfl rfl h2 ?_
      refine o_q (q_ldm ag3 sz3 rfl (by repeat first | exact Mem.upd_self _ _ _ | assumption | refine Mem.upd_ne (by assumption) ?_) rfl (v_raw rfl)) rfl rfl rfl ?_
      refine o_yes rfl rfl rfl h2 ?_
      refine o_q (q_geq rfl rfl) rfl rfl rfl ?_
      refine o_q (q_pick_c (t := true) rfl h2 (v_raw rfl)) rfl rfl rfl ?_
      refine o_q (q_mv (v_raw rfl)) rfl rfl rfl ?_
      refine o_cases (want := true) (j := 13) rfl rfl (fun h3 => ?_) (fun h3 => ?_)
      · have k3 := h3; try simp only [decide_eq_true_eq, decide_eq_false_iff_not, Bool.not_eq_true', Bool.not_eq_false', Bool.not_true, Bool.not_false, List.length_map, Decidable.not_not] at k3
        refine o_yes rfl rfl rfl h3 ?_
        refine o_q (q_fr fo23_1 rfl) rfl rfl rfl ?_
        refine o_yes rfl rfl rfl h3 ?_
        refine o_q (q_ldm ag3 sz3 rfl (by repeat first | exact Mem.upd_self _ _ _ | assumption | refine Mem.upd_ne (by assumption) ?_) rfl (v_raw rfl)) rfl rfl rfl ?_
        refine o_yes rfl rfl rfl h3 ?_
        refine o_q (q_lss rfl rfl) rfl rfl rfl ?_
        refine o_q (q_pick_c (t := true) rfl h3 (v_raw rfl)) rfl rfl rfl ?_
        refine o_q (q_as (v_raw rfl)) rfl rfl rfl ?_
        refine o_nil ?_
        refine s_ret ?_
        refine s_end ?_
        refine ⟨?_, (by repeat first | exact hle | exact Mem.le_refl M | assumption | exact Mem.none_of_le hle (by assumption) | refine Mem.le_upd ?_ ?_)⟩
        exact congrArg (fun b => AVal.raw (.bool b)) (by simp_all [right] <;> (intros; omega))
      · have k3 := h3; try simp only [decide_eq_true_eq, decide_eq_false_iff_not, Bool.not_eq_true', Bool.not_eq_false', Bool.not_true, Bool.not_false, List.length_map, Decidable.not_not] at k3
        refine o_no rfl rfl rfl rfl h3 ?_
        refine o_no rfl rfl rfl rfl h3 ?_
        refine o_no rfl rfl rfl rfl h3 ?_
        refine o_q (q_pick_c (t := false) rfl h3 (v_raw rfl)) rfl rfl rfl ?_
        refine o_q (q_as (v_raw rfl)) rfl rfl rfl ?_
        refine o_nil ?_
        refine s_ret ?_
        refine s_end ?_
        refine ⟨?_, (by repeat first | exact hle | exact Mem.le_refl M | assumption | exact Mem.none_of_le hle (by assumption) | refine Mem.le_upd ?_ ?_)⟩
        exact congrArg (fun b => AVal.raw (.bool b)) (by simp_all [right] <;> (intros; omega))
    · have k2 := h2; try simp only [decide_eq_true_eq, decide_eq_false_iff_not, Bool.not_eq_true', Bool.not_eq_false', Bool.not_true, Bool.not_false, List.length_map, Decidable.not_not] at k2
      refine o_no rfl rfl rfl rfl h2 ?_
      refine o_no rfl rfl rfl rfl h2 ?_
      refine o_no rfl rfl rfl rfl h2 ?_
      refine o_q (q_pick_c (t := false) rfl h2 (v_raw rfl)) rfl rfl rfl ?_
      refine o_q (q_mv (v_raw rfl)) rfl rfl rfl ?_
      refine o_no rfl rfl rfl rfl rfl ?_
      refine o_no rfl rfl rfl rfl rfl ?_
      refine o_no rfl rfl rfl rfl rfl ?_
      refine o_q (q_pick_c (t := false) rfl rfl (v_raw rfl)) rfl rfl rfl ?_
      refine o_q (q_as (v_raw rfl)) rfl rfl rfl ?_
      refine o_nil ?_
      refine s_ret ?_
      refine s_end ?_
      refine ⟨?_, (by repeat first | exact hle | exact Mem.le_refl M | assumption | exact Mem.none_of_le hle (by assumption) | refine Mem.le_upd ?_ ?_)⟩
      exact congrArg (fun b => AVal.raw (.bool b)) (by simp_all [right] <;> (intros; omega))
  · have k1 := h1; try simp only [decide_eq_true_eq, decide_eq_false_iff_not, Bool.not_eq_true', Bool.not_eq_false', Bool.not_true, Bool.not_false, List.length_map, Decidable.not_not] at k1
    refine o_no rfl rfl rfl rfl h1 ?_
    refine o_no rfl rfl rfl rfl h1 ?_
    refine o_no rfl rfl rfl rfl h1 ?_
    refine o_q (q_pick_c (t := false) rfl h1 (v_raw rfl)) rfl rfl rfl ?_
    refine o_q (q_mv (v_raw rfl)) rfl rfl rfl ?_
    refine o_no rfl rfl rfl rfl rfl ?_
    refine o_no rfl rfl rfl rfl rfl ?_
    refine o_no rfl rfl rfl rfl rfl ?_
    refine o_q (q_pick_c (t := false) rfl rfl (v_raw rfl)) rfl rfl rfl ?_
    refine o_q (q_mv (v_raw rfl)) rfl rfl rfl ?_
    refine o_no rfl rfl rfl rfl rfl ?_
    refine o_no rfl rfl rfl rfl rfl ?_
    refine o_no rfl rfl rfl rfl rfl ?_
    refine o_q (q_pick_c (t := false) rfl rfl (v_raw rfl)) rfl rfl rfl ?_
    refine o_q (q_as (v_raw rfl)) rfl rfl rfl ?_
    refine o_nil ?_
    refine s_ret ?_
    refine s_end ?_
    refine ⟨?_, (by repeat first | exact hle | exact Mem.le_refl M | assumption | exact Mem.none_of_le hle (by assumption) | refine Mem.le_upd ?_ ?_)⟩
    exact congrArg (fun b => AVal.raw (.bool b)) (by simp_all [right] <;> (intros; omega))

def tk16 : Nat → Nat → Option Nat := fun _ _ => none
def pl16 : Nat → List PStep := fun _ => []
theorem cb16 : Try.f16.body.map (codeB Try.prog Try.f16.ntmps tk16 pl16) = some true := by kernel_rfl
theorem goes16 : goesB Try.prog 16 = true := by kernel_rfl
-- carillon/carillonref03.Right params ['api.Pair'] results [['t', 2]] own [] names ['0:a', '1:a'] calls [] paths 4
theorem snd16 (m : Pr) (M : Mem) : SoundCall Try.prog 16 [encP m] M fun r M' => r = .raw (.bool (right m)) ∧ M.le M' := by
  refine SoundCall.go tk16 pl16 mixed Try.func16 cb16 rfl (Nat.le_of_ble_eq_true rfl) ?_
  refine s_seq ?_
  refine s_region ?_
  refine o_box (by first | exact e_raw rfl | exact e_agg rfl | exact e_sl rfl) rfl rfl (fun B1 hB1 => ?_)
  have m1 : M B1 = none := by have h := hB1; repeat (first | exact h | replace h := (Mem.upd_none h).2)
  refine o_q (q_as (v_raw rfl)) rfl rfl rfl ?_
  refine o_nil ?_
  refine s_seq ?_
  refine s_region ?_
  refine o_q (q_fr fo23_0 rfl) rfl rfl rfl ?_
  refine o_q (q_ldm ag3 sz3 rfl (by repeat first | exact Mem.upd_self _ _ _ | assumption | refine Mem.upd_ne (by assumption) ?_) rfl (v_raw rfl)) rfl rfl rfl ?_
  refine o_q (q_geq rfl rfl) rfl rfl rfl ?_
  refine o_q (q_mv (v_raw rfl)) rfl rfl rfl ?_
  refine o_cases (want := true) (j := 3) rfl rfl (fun h1 => ?_) (fun h1 => ?_)
  · have k1 := h1; try simp only [decide_eq_true_eq, decide_eq_false_iff_not, Bool.not_eq_true', Bool.not_eq_false', Bool.not_true, Bool.not_false, List.length_map, Decidable.not_not] at k1
    refine o_yes rfl rfl rfl h1 ?_
    refine o_q (q_fr fo23_0 rfl) rfl rfl rfl ?_
    refine o_yes rfl rfl rfl h1 ?_
    refine o_q (q_ldm ag3 sz3 rfl (by repeat first | exact Mem.upd_self _ _ _ | assumption | refine Mem.upd_ne (by assumption) ?_) rfl (v_raw rfl)) rfl rfl rfl ?_
    refine o_yes rfl rfl rfl h1 ?_
    refine o_q (q_lss rfl rfl) rfl rfl rfl ?_
    refine o_q (q_pick_c (t := true) rfl h1 (v_raw rfl)) rfl rfl rfl ?_
    refine o_q (q_mv (v_raw rfl)) rfl rfl rfl ?_
    refine o_cases (want := true) (j := 8) rfl rfl (fun h2 => ?_) (fun h2 => ?_)
    · have k2 := h2; try simp only [decide_eq_true_eq, decide_eq_false_iff_not, Bool.not_eq_true', Bool.not_eq_false', Bool.not_true, Bool.not_false, List.length_map, Decidable.not_not] at k2
      refine o_yes rfl rfl rfl h2 ?_
      refine o_q (q_fr fo23_1 rfl) rfl rfl rfl ?_
      refine o_yes rfl rfl rfl h2 ?_
      refine o_q (q_ldm ag3 sz3 rfl (by repeat first | exact Mem.upd_self _ _ _ | assumption | refine Mem.upd_ne (by assumption) ?_) rfl (v_raw rfl)) rfl rfl rfl ?_
      refine o_yes rfl rfl rfl h2 ?_
      refine o_q (q_geq rfl rfl) rfl rfl rfl ?_
      refine o_q (q_pick_c (t := true) rfl h2 (v_raw rfl)) rfl rfl rfl ?_
      refine o_q (q_mv (v_raw rfl)) rfl rfl rfl ?_
      refine o_cases (want := true) (j := 13) rfl rfl (fun h3 => ?_) (fun h3 => ?_)
      · have k3 := h3; try simp only [decide_eq_true_eq, decide_eq_false_iff_not, Bool.not_eq_true', Bool.not_eq_false', Bool.not_true, Bool.not_false, List.length_map, Decidable.not_not] at k3
        refine o_yes rfl rfl rfl h3 ?_
        refine o_q (q_fr fo23_1 rfl) rfl rfl rfl ?_
        refine o_yes rfl rfl rfl h3 ?_
        refine o_q (q_ldm ag3 sz3 rfl (by repeat first | exact Mem.upd_self _ _ _ | assumption | refine Mem.upd_ne (by assumption) ?_) rfl (v_raw rfl)) rfl rfl rfl ?_
        refine o_yes rfl rfl rfl h3 ?_
        refine o_q (q_lss rfl rfl) rfl rfl rfl ?_
        refine o_q (q_pick_c (t := true) rfl h3 (v_raw rfl)) rfl rfl rfl ?_
        refine o_q (q_as (v_raw rfl)) rfl rfl rfl ?_
        refine o_nil ?_
        refine s_ret ?_
        refine s_end ?_
        refine ⟨?_, (by repeat first | exact hle | exact Mem.le_refl M | assumption | exact Mem.none_of_le hle (by assumption) | refine Mem.le_upd ?_ ?_)⟩
        exact congrArg (fun b => AVal.raw (.bool b)) (by simp_all [right] <;> (intros; omega))
      · have k3 := h3; try simp only [decide_eq_true_eq, decide_eq_false_iff_not, Bool.not_eq_true', Bool.not_eq_false', Bool.not_true, Bool.not_false, List.length_map, Decidable.not_not] at k3
        refine o_no rfl rfl rfl rfl h3 ?_
        refine o_no rfl rfl rfl rfl h3 ?_
        refine o_no rfl rfl rfl rfl h3 ?_
        refine o_q (q_pick_c (t := false) rfl h3 (v_raw rfl)) rfl rfl rfl ?_
        refine o_q (q_as (v_raw rfl)) rfl rfl rfl ?_
        refine o_nil ?_
        refine s_ret ?_
        refine s_end ?_
        refine ⟨?_, (by repeat first | exact hle | exact Mem.le_refl M | assumption | exact Mem.none_of_le hle (by assumption) | refine Mem.le_upd ?_ ?_)⟩
        exact congrArg (fun b => AVal.raw (.bool b)) (by simp_all [right] <;> (intros; omega))
    · have k2 := h2; try simp only [decide_eq_true_eq, decide_eq_false_iff_not, Bool.not_eq_true', Bool.not_eq_false', Bool.not_true, Bool.not_false, List.length_map, Decidable.not_not] at k2
      refine o_no rfl rfl rfl rfl h2 ?_
      refine o_no rfl rfl rfl rfl h2 ?_
      refine o_no rfl rfl rfl rfl h2 ?_
      refine o_q (q_pick_c (t := false) rfl h2 (v_raw rfl)) rfl rfl rfl ?_
      refine o_q (q_mv (v_raw rfl)) rfl rfl rfl ?_
      refine o_no rfl rfl rfl rfl rfl ?_
      refine o_no rfl rfl rfl rfl rfl ?_
      refine o_no rfl rfl rfl rfl rfl ?_
      refine o_q (q_pick_c (t := false) rfl rfl (v_raw rfl)) rfl rfl rfl ?_
      refine o_q (q_as (v_raw rfl)) rfl rfl rfl ?_
      refine o_nil ?_
      refine s_ret ?_
      refine s_end ?_
      refine ⟨?_, (by repeat first | exact hle | exact Mem.le_refl M | assumption | exact Mem.none_of_le hle (by assumption) | refine Mem.le_upd ?_ ?_)⟩
      exact congrArg (fun b => AVal.raw (.bool b)) (by simp_all [right] <;> (intros; omega))
  · have k1 := h1; try simp only [decide_eq_true_eq, decide_eq_false_iff_not, Bool.not_eq_true', Bool.not_eq_false', Bool.not_true, Bool.not_false, List.length_map, Decidable.not_not] at k1
    refine o_no rfl rfl rfl rfl h1 ?_
    refine o_no rfl rfl rfl rfl h1 ?_
    refine o_no rfl rfl rfl rfl h1 ?_
    refine o_q (q_pick_c (t := false) rfl h1 (v_raw rfl)) rfl rfl rfl ?_
    refine o_q (q_mv (v_raw rfl)) rfl rfl rfl ?_
    refine o_no rfl rfl rfl rfl rfl ?_
    refine o_no rfl rfl rfl rfl rfl ?_
    refine o_no rfl rfl rfl rfl rfl ?_
    refine o_q (q_pick_c (t := false) rfl rfl (v_raw rfl)) rfl rfl rfl ?_
    refine o_q (q_mv (v_raw rfl)) rfl rfl rfl ?_
    refine o_no rfl rfl rfl rfl rfl ?_
    refine o_no rfl rfl rfl rfl rfl ?_
    refine o_no rfl rfl rfl rfl rfl ?_
    refine o_q (q_pick_c (t := false) rfl rfl (v_raw rfl)) rfl rfl rfl ?_
    refine o_q (q_as (v_raw rfl)) rfl rfl rfl ?_
    refine o_nil ?_
    refine s_ret ?_
    refine s_end ?_
    refine ⟨?_, (by repeat first | exact hle | exact Mem.le_refl M | assumption | exact Mem.none_of_le hle (by assumption) | refine Mem.le_upd ?_ ?_)⟩
    exact congrArg (fun b => AVal.raw (.bool b)) (by simp_all [right] <;> (intros; omega))

def tk33 : Nat → Nat → Option Nat := fun _ _ => none
def pl33 : Nat → List PStep := fun _ => []
theorem cb33 : Try.f33.body.map (codeB Try.prog Try.f33.ntmps tk33 pl33) = some true := by kernel_rfl
theorem goes33 : goesB Try.prog 33 = true := by kernel_rfl
-- carillon/gauss.number params ['api.Pair'] results [['t', 2]] own [] names ['0:a', '1:a'] calls [] paths 1
theorem snd33 (a : Pr) (M : Mem) : SoundCall Try.prog 33 [encP a] M fun r M' => r = cxp a ∧ M.le M' := by
  refine SoundCall.go tk33 pl33 mixed Try.func33 cb33 rfl (Nat.le_of_ble_eq_true rfl) ?_
  refine s_seq ?_
  refine s_region ?_
  refine o_box (by first | exact e_raw rfl | exact e_agg rfl | exact e_sl rfl) rfl rfl (fun B1 hB1 => ?_)
  have m1 : M B1 = none := by have h := hB1; repeat (first | exact h | replace h := (Mem.upd_none h).2)
  refine o_q (q_as (v_raw rfl)) rfl rfl rfl ?_
  refine o_nil ?_
  refine s_seq ?_
  refine s_region ?_
  refine o_q (q_fr fo23_0 rfl) rfl rfl rfl ?_
  refine o_q (q_ldm ag3 sz3 rfl (by repeat first | exact Mem.upd_self _ _ _ | assumption | refine Mem.upd_ne (by assumption) ?_) rfl (v_raw rfl)) rfl rfl rfl ?_
  refine o_q (q_i2f und3 und54 rfl) rfl rfl rfl ?_
  refine o_q (q_fr fo23_1 rfl) rfl rfl rfl ?_
  refine o_q (q_ldm ag3 sz3 rfl (by repeat first | exact Mem.upd_self _ _ _ | assumption | refine Mem.upd_ne (by assumption) ?_) rfl (v_raw rfl)) rfl rfl rfl ?_
  refine o_q (q_i2f und3 und54 rfl) rfl rfl rfl ?_
  refine o_q (q_complex rfl rfl) rfl rfl rfl ?_
  refine o_q (q_as (v_raw rfl)) rfl rfl rfl ?_
  refine o_nil ?_
  refine s_ret ?_
  refine s_end ?_
  exact ⟨rfl, (by repeat first | exact hle | exact Mem.le_refl M | assumption | exact Mem.none_of_le hle (by assumption) | refine Mem.le_upd ?_ ?_)⟩

def tk43 : Nat → Nat → Option Nat := fun _ _ => none
def pl43 : Nat → List PStep := fun _ => []
theorem cb43 : Try.f43.body.map (codeB Try.prog Try.f43.ntmps tk43 pl43) = some true := by kernel_rfl
theorem goes43 : goesB Try.prog 43 = true := by kernel_rfl
-- carillon/gauss.part params ['float64'] results [['t', 2]] own [] names ['0:x', '1:x', '3:n'] calls [] paths 2
theorem snd43 (n : Int) (M : Mem) (h : n.natAbs < 2 ^ 52) : SoundCall Try.prog 43 [fl n] M fun r M' => r = int (n % 33554383) ∧ M.le M' := by
  have t1 : n.tmod 33554383 < 33554383 := Int.tmod_lt_of_pos n (by decide)
  have t2 : -33554383 < n.tmod 33554383 := by have := Int.tmod_lt_of_pos (-n) (b := 33554383) (by decide); rw [Int.neg_tmod] at this; omega
  have t3 := Int.mul_tdiv_add_tmod n 33554383
  refine SoundCall.go tk43 pl43 mixed Try.func43 cb43 rfl (Nat.le_of_ble_eq_true rfl) ?_
  refine s_seq ?_
  refine s_region ?_
  refine o_q (q_as (v_raw rfl)) rfl rfl rfl ?_
  refine o_nil ?_
  refine s_seq ?_
  refine s_region ?_
  refine o_q (q_mv (v_raw rfl)) rfl rfl rfl ?_
  refine o_q (q_f2i und54 und3 rfl (by omega)) rfl rfl rfl ?_
  refine o_q (q_rem rfl rfl (by decide)) rfl rfl rfl ?_
  refine o_q (q_as (v_raw rfl)) rfl rfl rfl ?_
  refine o_nil ?_
  refine s_seq ?_
  refine s_seq ?_
  refine s_region ?_
  refine o_q (q_mv (v_raw rfl)) rfl rfl rfl ?_
  refine o_q (q_lss rfl rfl) rfl rfl rfl ?_
  refine o_nil ?_
  refine s_cond rfl (fun h1 => ?_) (fun h1 => ?_)
  · have k1 := h1; try simp only [decide_eq_true_eq, decide_eq_false_iff_not, Bool.not_eq_true', Bool.not_eq_false', Bool.not_true, Bool.not_false, List.length_map, Decidable.not_not] at k1
    refine s_region ?_
    refine o_q (q_mv (v_raw rfl)) rfl rfl rfl ?_
    refine o_q (q_add rfl rfl (wrap64 (by omega) (by omega))) rfl rfl rfl ?_
    refine o_q (q_as (v_raw rfl)) rfl rfl rfl ?_
    refine o_nil ?_
    refine s_seq ?_
    refine s_region ?_
    refine o_q (q_mv (v_raw rfl)) rfl rfl rfl ?_
    refine o_q (q_as (v_raw rfl)) rfl rfl rfl ?_
    refine o_nil ?_
    refine s_ret ?_
    refine s_end ?_
    refine ⟨congrArg int (?_ : n.tmod 33554383 + 33554383 = n % 33554383), (by repeat first | exact hle | exact Mem.le_refl M | assumption | exact Mem.none_of_le hle (by assumption) | refine Mem.le_upd ?_ ?_)⟩
    omega
  · have k1 := h1; try simp only [decide_eq_true_eq, decide_eq_false_iff_not, Bool.not_eq_true', Bool.not_eq_false', Bool.not_true, Bool.not_false, List.length_map, Decidable.not_not] at k1
    refine s_skip ?_
    refine s_seq ?_
    refine s_region ?_
    refine o_q (q_mv (v_raw rfl)) rfl rfl rfl ?_
    refine o_q (q_as (v_raw rfl)) rfl rfl rfl ?_
    refine o_nil ?_
    refine s_ret ?_
    refine s_end ?_
    refine ⟨congrArg int (?_ : n.tmod 33554383 = n % 33554383), (by repeat first | exact hle | exact Mem.le_refl M | assumption | exact Mem.none_of_le hle (by assumption) | refine Mem.le_upd ?_ ?_)⟩
    omega

def tk35 : Nat → Nat → Option Nat := fun _ _ => none
def pl35 : Nat → List PStep := fun _ => []
theorem cb35 : Try.f35.body.map (codeB Try.prog Try.f35.ntmps tk35 pl35) = some true := by kernel_rfl
theorem goes35 : goesB Try.prog 35 = true := by kernel_rfl
-- carillon/gauss.pair params ['complex128'] results [['cell', 2, 23]] own [] names ['0:z', '1:z'] calls [43] paths 1
theorem snd35 (z : Pr) (M : Mem) (h1 : z.re.natAbs < 2 ^ 52) (h2 : z.im.natAbs < 2 ^ 52) : SoundCall Try.prog 35 [cxp z] M fun r M' => r = encP (md z) ∧ M.le M' := by
  refine SoundCall.go tk35 pl35 mixed Try.func35 cb35 rfl (Nat.le_of_ble_eq_true rfl) ?_
  refine s_seq ?_
  refine s_region ?_
  refine o_alloc zc23 (fun B1 hB1 => ?_)
  have m1 : M B1 = none := by have h := hB1; repeat (first | exact h | replace h := (Mem.upd_none h).2)
  refine o_nil ?_
  refine s_seq ?_
  refine s_region ?_
  refine o_q (q_mv (v_raw rfl)) rfl rfl rfl ?_
  refine o_q (q_real rfl) rfl rfl rfl ?_
  refine o_call ((snd43 z.re _ h1).det) goes43 (ac (v_raw rfl) ac_nil) rfl ?_
  refine o_q (q_mv (v_raw rfl)) rfl rfl rfl ?_
  refine o_q (q_imag rfl) rfl rfl rfl ?_
  refine o_call ((snd43 z.im _ h2).det) goes43 (ac (v_raw rfl) ac_nil) rfl ?_
  refine o_q (q_b (cs := [_, _]) bz23 bp23 (bf fo23_0 (e_raw rfl) rfl rfl (Nat.le_of_ble_eq_true rfl) rfl (bf fo23_1 (e_raw rfl) rfl rfl (Nat.le_of_ble_eq_true rfl) rfl bf_nil))) rfl rfl rfl ?_
  refine o_storew rfl (by repeat first | exact Mem.upd_self _ _ _ | assumption | refine Mem.upd_ne (by assumption) ?_) (by first | exact e_agg rfl | rfl) rfl sz23 rfl rfl rfl rfl ?_
  refine o_nil ?_
  refine s_ret ?_
  refine s_end ?_
  exact ret_one (.inl rfl) rfl (rl_c rfl (Mem.upd_self _ _ _) (loadP_w ag23 sz23 rfl rfl) rfl rl_nil) ⟨rfl, (by repeat first | exact hle | exact Mem.le_refl M | assumption | exact Mem.none_of_le hle (by assumption) | refine Mem.le_upd ?_ ?_)⟩

def tk34 : Nat → Nat → Option Nat := fun _ _ => none
def pl34 : Nat → List PStep := fun _ => []
theorem cb34 : Try.f34.body.map (codeB Try.prog Try.f34.ntmps tk34 pl34) = some true := by kernel_rfl
theorem goes34 : goesB Try.prog 34 = true := by kernel_rfl
-- carillon/gauss.mod params ['complex128'] results [['t', 2]] own [] names ['0:z', '1:z'] calls [33, 35] paths 1
theorem snd34 (z : Pr) (M : Mem) (h1 : z.re.natAbs < 2 ^ 52) (h2 : z.im.natAbs < 2 ^ 52) : SoundCall Try.prog 34 [cxp z] M fun r M' => r = cxp (md z) ∧ M.le M' := by
  refine SoundCall.go tk34 pl34 mixed Try.func34 cb34 rfl (Nat.le_of_ble_eq_true rfl) ?_
  refine s_seq ?_
  refine s_region ?_
  refine o_q (q_as (v_raw rfl)) rfl rfl rfl ?_
  refine o_nil ?_
  refine s_seq ?_
  refine s_region ?_
  refine o_q (q_mv (v_raw rfl)) rfl rfl rfl ?_
  refine o_call ((snd35 z _ h1 h2).det) goes35 (ac (v_raw rfl) ac_nil) rfl ?_
  refine o_call ((snd33 (md z) _).det) goes33 (ac (v_agg rfl) ac_nil) rfl ?_
  refine o_q (q_as (v_raw rfl)) rfl rfl rfl ?_
  refine o_nil ?_
  refine s_ret ?_
  refine s_end ?_
  exact ⟨rfl, (by repeat first | exact hle | exact Mem.le_refl M | assumption | exact Mem.none_of_le hle (by assumption) | refine Mem.le_upd ?_ ?_)⟩

def tk37 : Nat → Nat → Option Nat := fun _ _ => none
def pl37 : Nat → List PStep := fun _ => []
theorem cb37 : Try.f37.body.map (codeB Try.prog Try.f37.ntmps tk37 pl37) = some true := by kernel_rfl
theorem goes37 : goesB Try.prog 37 = true := by kernel_rfl
-- carillon/gauss.times params ['complex128', 'complex128'] results [['t', 4]] own [] names ['0:x', '1:y', '2:x', '3:y'] calls [] paths 1
theorem snd37 (x y : Pr) (M : Mem) (hx : right x = true) (hy : right y = true) : SoundCall Try.prog 37 [cxp x, cxp y] M fun r M' => r = cxp (mulZ x y) ∧ M.le M' := by
  have rx := right_spec.1 hx
  have ry := right_spec.1 hy
  have l1 : Low x.re := low_of rx.1 rx.2.1
  have l2 : Low x.im := low_of rx.2.2.1 rx.2.2.2
  have l3 : Low y.re := low_of ry.1 ry.2.1
  have l4 : Low y.im := low_of ry.2.2.1 ry.2.2.2
  have b1 := mul_bound l1 l3
  have b2 := mul_bound l2 l4
  have b3 := mul_bound l1 l4
  have b4 := mul_bound l2 l3
  refine SoundCall.go tk37 pl37 mixed Try.func37 cb37 rfl (Nat.le_of_ble_eq_true rfl) ?_
  refine s_seq ?_
  refine s_region ?_
  refine o_q (q_as (v_raw rfl)) rfl rfl rfl ?_
  refine o_nil ?_
  refine s_seq ?_
  refine s_region ?_
  refine o_q (q_mv (v_raw rfl)) rfl rfl rfl ?_
  refine o_q (q_mv (v_raw rfl)) rfl rfl rfl ?_
  refine o_q (q_cmul rfl rfl (by first | assumption | exact ⟨by omega, by omega⟩) (by first | assumption | exact ⟨by omega, by omega⟩) (by first | assumption | exact ⟨by omega, by omega⟩) (by first | assumption | exact ⟨by omega, by omega⟩)) rfl rfl rfl ?_
  refine o_q (q_as (v_raw rfl)) rfl rfl rfl ?_
  refine o_nil ?_
  refine s_ret ?_
  refine s_end ?_
  exact ⟨rfl, (by repeat first | exact hle | exact Mem.le_refl M | assumption | exact Mem.none_of_le hle (by assumption) | refine Mem.le_upd ?_ ?_)⟩

def tk38 : Nat → Nat → Option Nat := fun _ _ => none
def pl38 : Nat → List PStep := fun _ => []
theorem cb38 : Try.f38.body.map (codeB Try.prog Try.f38.ntmps tk38 pl38) = some true := by kernel_rfl
theorem goes38 : goesB Try.prog 38 = true := by kernel_rfl
-- carillon/gauss.Add$1 params ['complex128', 'complex128'] results [['t', 4]] own [] names ['0:x', '1:y', '2:x', '3:y'] calls [] paths 1
theorem snd38 (x y : Pr) (M : Mem) (hx : right x = true) (hy : right y = true) : SoundCall Try.prog 38 [cxp x, cxp y] M fun r M' => r = cxp (addZ x y) ∧ M.le M' := by
  have rx := right_spec.1 hx
  have ry := right_spec.1 hy
  have l1 : Low x.re := low_of rx.1 rx.2.1
  have l2 : Low x.im := low_of rx.2.2.1 rx.2.2.2
  have l3 : Low y.re := low_of ry.1 ry.2.1
  have l4 : Low y.im := low_of ry.2.2.1 ry.2.2.2
  have b1 := mul_bound l1 l3
  have b2 := mul_bound l2 l4
  have b3 := mul_bound l1 l4
  have b4 := mul_bound l2 l3
  refine SoundCall.go tk38 pl38 mixed Try.func38 cb38 rfl (Nat.le_of_ble_eq_true rfl) ?_
  refine s_seq ?_
  refine s_region ?_
  refine o_q (q_as (v_raw rfl)) rfl rfl rfl ?_
  refine o_nil ?_
  refine s_seq ?_
  refine s_region ?_
  refine o_q (q_mv (v_raw rfl)) rfl rfl rfl ?_
  refine o_q (q_mv (v_raw rfl)) rfl rfl rfl ?_
  refine o_q (q_cadd rfl rfl (by omega) (by omega)) rfl rfl rfl ?_
  refine o_q (q_as (v_raw rfl)) rfl rfl rfl ?_
  refine o_nil ?_
  refine s_ret ?_
  refine s_end ?_
  exact ⟨rfl, (by repeat first | exact hle | exact Mem.le_refl M | assumption | exact Mem.none_of_le hle (by assumption) | refine Mem.le_upd ?_ ?_)⟩

def tk39 : Nat → Nat → Option Nat := fun _ _ => none
def pl39 : Nat → List PStep := fun _ => []
theorem cb39 : Try.f39.body.map (codeB Try.prog Try.f39.ntmps tk39 pl39) = some true := by kernel_rfl
theorem goes39 : goesB Try.prog 39 = true := by kernel_rfl
-- carillon/gauss.Sub$1 params ['complex128', 'complex128'] results [['t', 4]] own [] names ['0:x', '1:y', '2:x', '3:y'] calls [] paths 1
theorem snd39 (x y : Pr) (M : Mem) (hx : right x = true) (hy : right y = true) : SoundCall Try.prog 39 [cxp x, cxp y] M fun r M' => r = cxp (subZ x y) ∧ M.le M' := by
  have rx := right_spec.1 hx
  have ry := right_spec.1 hy
  have l1 : Low x.re := low_of rx.1 rx.2.1
  have l2 : Low x.im := low_of rx.2.2.1 rx.2.2.2
  have l3 : Low y.re := low_of ry.1 ry.2.1
  have l4 : Low y.im := low_of ry.2.2.1 ry.2.2.2
  have b1 := mul_bound l1 l3
  have b2 := mul_bound l2 l4
  have b3 := mul_bound l1 l4
  have b4 := mul_bound l2 l3
  refine SoundCall.go tk39 pl39 mixed Try.func39 cb39 rfl (Nat.le_of_ble_eq_true rfl) ?_
  refine s_seq ?_
  refine s_region ?_
  refine o_q (q_as (v_raw rfl)) rfl rfl rfl ?_
  refine o_nil ?_
  refine s_seq ?_
  refine s_region ?_
  refine o_q (q_mv (v_raw rfl)) rfl rfl rfl ?_
  refine o_q (q_mv (v_raw rfl)) rfl rfl rfl ?_
  refine o_q (q_csub rfl rfl (by omega) (by omega)) rfl rfl rfl ?_
  refine o_q (q_as (v_raw rfl)) rfl rfl rfl ?_
  refine o_nil ?_
  refine s_ret ?_
  refine s_end ?_
  exact ⟨rfl, (by repeat first | exact hle | exact Mem.le_refl M | assumption | exact Mem.none_of_le hle (by assumption) | refine Mem.le_upd ?_ ?_)⟩

def tk36 : Nat → Nat → Option Nat := fun _ _ => none
def pl36 : Nat → List PStep
  | 3 => [.q 0, .q 1, .q 3, .s 2 [3, 0], .s 4 [1, 0], .s 5 [3, 1], .s 6 [3, 1, 0], .s 7 [], .q 8]
  | _ => []
theorem cb36 : Try.f36.body.map (codeB Try.prog Try.f36.ntmps tk36 pl36) = some true := by kernel_rfl
theorem goes36 : goesB Try.prog 36 = true := by kernel_rfl
-- carillon/gauss.both params ['api.Pair', 'api.Pair', 'func(complex128, complex128) complex128'] results [['cell', 6, 23], ['t', 7]] own [] names ['0:a', '1:b', '2:f', '3:a', '4:b', '5:f'] calls [23, 33, 35] paths 3
theorem snd36 (x y : Pr) (f : Nat) (z : Pr) (M : Mem) (hg : goesB Try.prog f = true) (hf : right x = true → right y = true → ∀ M, SoundCall Try.prog f [cxp x, cxp y] M fun r M' => r = cxp z ∧ M.le M') (z1 : right x = true → right y = true → z.re.natAbs < 2 ^ 52) (z2 : right x = true → right y = true → z.im.natAbs < 2 ^ 52) : SoundCall Try.prog 36 [encP x, encP y, .raw (.func (.func f) #[] #[])] M fun r M' => r = resP (right x && right y) (md z) ∧ M.le M' := by
  refine SoundCall.go tk36 pl36 mixed Try.func36 cb36 rfl (Nat.le_of_ble_eq_true rfl) ?_
  refine s_seq ?_
  refine s_region ?_
  refine o_box (by first | exact e_raw rfl | exact e_agg rfl | exact e_sl rfl) rfl rfl (fun B1 hB1 => ?_)
  have m1 : M B1 = none := by have h := hB1; repeat (first | exact h | replace h := (Mem.upd_none h).2)
  refine o_box (by first | exact e_raw rfl | exact e_agg rfl | exact e_sl rfl) rfl rfl (fun B2 hB2 => ?_)
  have f1_2 : B1 ≠ B2 := Mem.fresh_ne hB2 (by repeat first | exact Mem.upd_self _ _ _ | assumption | refine Mem.upd_ne (by assumption) ?_)
  have g2_1 : B2 ≠ B1 := f1_2.symm
  have m2 : M B2 = none := by have h := hB2; repeat (first | exact h | replace h := (Mem.upd_none h).2)
  refine o_alloc zc23 (fun B3 hB3 => ?_)
  have f1_3 : B1 ≠ B3 := Mem.fresh_ne hB3 (by repeat first | exact Mem.upd_self _ _ _ | assumption | refine Mem.upd_ne (by assumption) ?_)
  have g3_1 : B3 ≠ B1 := f1_3.symm
  have f2_3 : B2 ≠ B3 := Mem.fresh_ne hB3 (by repeat first | exact Mem.upd_self _ _ _ | assumption | refine Mem.upd_ne (by assumption) ?_)
  have g3_2 : B3 ≠ B2 := f2_3.symm
  have m3 : M B3 = none := by have h := hB3; repeat (first | exact h | replace h := (Mem.upd_none h).2)
  refine o_q (q_as (v_raw rfl)) rfl rfl rfl ?_
  refine o_nil ?_
  refine s_seq ?_
  refine s_seq ?_
  refine s_region ?_
  refine o_q (q_ldmw ag23 sz23 rfl (by repeat first | exact Mem.upd_self _ _ _ | assumption | refine Mem.upd_ne (by assumption) ?_) rfl rfl) rfl rfl rfl ?_
  refine o_call ((snd23 x _).det) goes23 (ac (v_agg rfl) ac_nil) rfl ?_
  refine o_q (q_not rfl) rfl rfl rfl ?_
  refine o_q (q_mv (v_raw rfl)) rfl rfl rfl ?_
  refine o_cases (want := false) (j := 3) rfl rfl (fun h1 => ?_) (fun h1 => ?_)
  · have k1 := h1; try simp only [decide_eq_true_eq, decide_eq_false_iff_not, Bool.not_eq_true', Bool.not_eq_false', Bool.not_true, Bool.not_false, List.length_map, Decidable.not_not] at k1
    refine o_yes rfl rfl rfl h1 ?_
    refine o_q (q_ldmw ag23 sz23 rfl (by repeat first | exact Mem.upd_self _ _ _ | assumption | refine Mem.upd_ne (by assumption) ?_) rfl rfl) rfl rfl rfl ?_
    refine o_yes rfl rfl rfl h1 ?_
    refine o_call ((snd23 y _).det) goes23 (ac (v_agg rfl) ac_nil) rfl ?_
    refine o_yes rfl rfl rfl h1 ?_
    refine o_q (q_not rfl) rfl rfl rfl ?_
    refine o_q (q_pick_c (t := false) rfl h1 (v_raw rfl)) rfl rfl rfl ?_
    refine o_nil ?_
    refine s_cond rfl (fun h2 => ?_) (fun h2 => ?_)
    · have k2 := h2; try simp only [decide_eq_true_eq, decide_eq_false_iff_not, Bool.not_eq_true', Bool.not_eq_false', Bool.not_true, Bool.not_false, List.length_map, Decidable.not_not] at k2
      refine s_seq ?_
      refine s_region ?_
      refine o_q (q_b (cs := [.raw (.int .i64 0), .raw (.int .i64 0)]) bz23 bp23 bf_nil) rfl rfl rfl ?_
      refine o_storew rfl (by repeat first | exact Mem.upd_self _ _ _ | assumption | refine Mem.upd_ne (by assumption) ?_) (by first | exact e_agg rfl | rfl) rfl sz23 rfl rfl rfl rfl ?_
      refine o_q (q_as (v_raw rfl)) rfl rfl rfl ?_
      refine o_nil ?_
      refine s_ret ?_
      refine s_code_ret ?_
      refine s_end ?_
      exact ret_many (.inl rfl) rfl (rl_c rfl (by repeat first | exact Mem.upd_self _ _ _ | assumption | refine Mem.upd_ne (by assumption) ?_) (loadP_w ag23 sz23 rfl rfl) rfl (rl_t rfl rl_nil)) rfl ⟨by rw [show (right x && right y) = false by simp_all]; rfl, (by repeat first | exact hle | exact Mem.le_refl M | assumption | exact Mem.none_of_le hle (by assumption) | refine Mem.le_upd ?_ ?_)⟩
    · have k2 := h2; try simp only [decide_eq_true_eq, decide_eq_false_iff_not, Bool.not_eq_true', Bool.not_eq_false', Bool.not_true, Bool.not_false, List.length_map, Decidable.not_not] at k2
      refine s_skip ?_
      refine s_seq ?_
      refine s_draw rfl ?_
      refine d_q rfl (q_mv (v_raw rfl)) rfl rfl rfl ?_
      refine d_q rfl (q_ldmw ag23 sz23 rfl (by repeat first | exact Mem.upd_self _ _ _ | assumption | refine Mem.upd_ne (by assumption) ?_) rfl rfl) rfl rfl rfl ?_
      refine d_q rfl (q_ldmw ag23 sz23 rfl (by repeat first | exact Mem.upd_self _ _ _ | assumption | refine Mem.upd_ne (by assumption) ?_) rfl rfl) rfl rfl rfl ?_
      refine d_s rfl ?_
      refine o_call ((snd33 x _).det) goes33 (ac (v_agg rfl) ac_nil) rfl ?_
      refine o_nil ⟨(by simp [Mem.upd, *]), ?_⟩
      refine d_s rfl ?_
      refine o_call ((snd33 y _).det) goes33 (ac (v_agg rfl) ac_nil) rfl ?_
      refine o_nil ⟨(by simp [Mem.upd, *]), ?_⟩
      refine d_s rfl ?_
      refine o_callv rfl ((hf (by simpa using h1) (by simpa using h2) _).det) hg (ac (v_raw rfl) (ac (v_raw rfl) ac_nil)) rfl rfl ?_
      rintro r M' ⟨rfl, rfl⟩
      refine o_nil ⟨(by simp [Mem.upd, *]), ?_⟩
      refine d_s rfl ?_
      refine o_call ((snd35 z _ (z1 (by simpa using h1) (by simpa using h2)) (z2 (by simpa using h1) (by simpa using h2))).det) goes35 (ac (v_raw rfl) ac_nil) rfl ?_
      refine o_nil ⟨(by simp [Mem.upd, *]), ?_⟩
      refine d_s rfl ?_
      refine o_storew rfl (by repeat first | exact Mem.upd_self _ _ _ | assumption | refine Mem.upd_ne (by assumption) ?_) (by first | exact e_agg rfl | rfl) rfl sz23 rfl rfl rfl rfl ?_
      refine o_nil ⟨(by simp [Mem.upd, *]), ?_⟩
      refine d_q rfl (q_as (v_raw rfl)) rfl rfl rfl ?_
      refine d_nil ?_
      refine s_ret ?_
      refine s_end ?_
      exact ret_many (.inl rfl) rfl (rl_c rfl (by repeat first | exact Mem.upd_self _ _ _ | assumption | refine Mem.upd_ne (by assumption) ?_) (loadP_w ag23 sz23 rfl rfl) rfl (rl_t rfl rl_nil)) rfl ⟨by rw [show (right x && right y) = true by simp_all]; rfl, (by repeat first | exact hle | exact Mem.le_refl M | assumption | exact Mem.none_of_le hle (by assumption) | refine Mem.le_upd ?_ ?_)⟩
  · have k1 := h1; try simp only [decide_eq_true_eq, decide_eq_false_iff_not, Bool.not_eq_true', Bool.not_eq_false', Bool.not_true, Bool.not_false, List.length_map, Decidable.not_not] at k1
    refine o_no rfl rfl rfl rfl h1 ?_
    refine o_no rfl rfl rfl rfl h1 ?_
    refine o_no rfl rfl rfl rfl h1 ?_
    refine o_q (q_pick_c (t := true) rfl h1 (v_raw rfl)) rfl rfl rfl ?_
    refine o_nil ?_
    refine s_then rfl rfl ?_
    refine s_seq ?_
    refine s_region ?_
    refine o_q (q_b (cs := [.raw (.int .i64 0), .raw (.int .i64 0)]) bz23 bp23 bf_nil) rfl rfl rfl ?_
    refine o_storew rfl (by repeat first | exact Mem.upd_self _ _ _ | assumption | refine Mem.upd_ne (by assumption) ?_) (by first | exact e_agg rfl | rfl) rfl sz23 rfl rfl rfl rfl ?_
    refine o_q (q_as (v_raw rfl)) rfl rfl rfl ?_
    refine o_nil ?_
    refine s_ret ?_
    refine s_code_ret ?_
    refine s_end ?_
    exact ret_many (.inl rfl) rfl (rl_c rfl (by repeat first | exact Mem.upd_self _ _ _ | assumption | refine Mem.upd_ne (by assumption) ?_) (loadP_w ag23 sz23 rfl rfl) rfl (rl_t rfl rl_nil)) rfl ⟨by rw [show (right x && right y) = false by simp_all]; rfl, (by repeat first | exact hle | exact Mem.le_refl M | assumption | exact Mem.none_of_le hle (by assumption) | refine Mem.le_upd ?_ ?_)⟩

def tk17 : Nat → Nat → Option Nat := fun _ _ => none
def pl17 : Nat → List PStep := fun _ => []
theorem cb17 : Try.f17.body.map (codeB Try.prog Try.f17.ntmps tk17 pl17) = some true := by kernel_rfl
theorem goes17 : goesB Try.prog 17 = true := by kernel_rfl
-- carillon/gauss.Add params ['api.Pair', 'api.Pair'] results [['cell', 4, 23], ['t', 5]] own [] names ['0:a', '1:b', '2:a', '3:b'] calls [36] paths 1

theorem mul_bound' {u v : Int} (u0 : 0 ≤ u) (u1 : u < 33554383) (v0 : 0 ≤ v) (v1 : v < 33554383) : 0 ≤ u * v ∧ u * v ≤ 1125896551401924 := by
  refine ⟨Int.mul_nonneg u0 v0, ?_⟩
  have h1 : u * v ≤ 33554382 * 33554382 := Int.mul_le_mul (by omega) (by omega) v0 (by decide)
  omega
theorem z_bound (x y : Pr) (hx : right x = true) (hy : right y = true) : ((mulZ x y).re.natAbs < 2 ^ 52 ∧ (mulZ x y).im.natAbs < 2 ^ 52) ∧ ((addZ x y).re.natAbs < 2 ^ 52 ∧ (addZ x y).im.natAbs < 2 ^ 52) ∧ (subZ x y).re.natAbs < 2 ^ 52 ∧ (subZ x y).im.natAbs < 2 ^ 52 := by
  have rx := right_spec.1 hx
  have ry := right_spec.1 hy
  have b1 := mul_bound' rx.1 rx.2.1 ry.1 ry.2.1
  have b2 := mul_bound' rx.2.2.1 rx.2.2.2 ry.2.2.1 ry.2.2.2
  have b3 := mul_bound' rx.1 rx.2.1 ry.2.2.1 ry.2.2.2
  have b4 := mul_bound' rx.2.2.1 rx.2.2.2 ry.1 ry.2.1
  refine ⟨⟨?_, ?_⟩, ⟨?_, ?_⟩, ?_, ?_⟩
  · show (x.re * y.re - x.im * y.im).natAbs < _; omega
  · show (x.re * y.im + x.im * y.re).natAbs < _; omega
  · show (x.re + y.re).natAbs < _; omega
  · show (x.im + y.im).natAbs < _; omega
  · show (x.re - y.re).natAbs < _; omega
  · show (x.im - y.im).natAbs < _; omega
theorem snd17 (x y : Pr) (M : Mem) : SoundCall Try.prog 17 [encP x, encP y] M fun r M' => r = resP (right x && right y) (md (addZ x y)) ∧ M.le M' := by
  refine SoundCall.go tk17 pl17 mixed Try.func17 cb17 rfl (Nat.le_of_ble_eq_true rfl) ?_
  refine s_seq ?_
  refine s_region ?_
  refine o_box (by first | exact e_raw rfl | exact e_agg rfl | exact e_sl rfl) rfl rfl (fun B1 hB1 => ?_)
  have m1 : M B1 = none := by have h := hB1; repeat (first | exact h | replace h := (Mem.upd_none h).2)
  refine o_box (by first | exact e_raw rfl | exact e_agg rfl | exact e_sl rfl) rfl rfl (fun B2 hB2 => ?_)
  have f1_2 : B1 ≠ B2 := Mem.fresh_ne hB2 (by repeat first | exact Mem.upd_self _ _ _ | assumption | refine Mem.upd_ne (by assumption) ?_)
  have g2_1 : B2 ≠ B1 := f1_2.symm
  have m2 : M B2 = none := by have h := hB2; repeat (first | exact h | replace h := (Mem.upd_none h).2)
  refine o_alloc zc23 (fun B3 hB3 => ?_)
  have f1_3 : B1 ≠ B3 := Mem.fresh_ne hB3 (by repeat first | exact Mem.upd_self _ _ _ | assumption | refine Mem.upd_ne (by assumption) ?_)
  have g3_1 : B3 ≠ B1 := f1_3.symm
  have f2_3 : B2 ≠ B3 := Mem.fresh_ne hB3 (by repeat first | exact Mem.upd_self _ _ _ | assumption | refine Mem.upd_ne (by assumption) ?_)
  have g3_2 : B3 ≠ B2 := f2_3.symm
  have m3 : M B3 = none := by have h := hB3; repeat (first | exact h | replace h := (Mem.upd_none h).2)
  refine o_q (q_as (v_raw rfl)) rfl rfl rfl ?_
  refine o_nil ?_
  refine s_seq ?_
  refine s_region ?_
  refine o_q (q_ldmw ag23 sz23 rfl (by repeat first | exact Mem.upd_self _ _ _ | assumption | refine Mem.upd_ne (by assumption) ?_) rfl rfl) rfl rfl rfl ?_
  refine o_q (q_ldmw ag23 sz23 rfl (by repeat first | exact Mem.upd_self _ _ _ | assumption | refine Mem.upd_ne (by assumption) ?_) rfl rfl) rfl rfl rfl ?_
  refine o_call ((snd36 x y 38 (addZ x y) _ goes38 (fun a b M => snd38 x y M a b) (fun a b => (z_bound x y a b |>.2.1).1) (fun a b => (z_bound x y a b |>.2.1).2)).det) goes36 (ac (v_agg rfl) (ac (v_agg rfl) (ac (v_raw rfl) ac_nil))) rfl ?_
  refine o_q (q_ext rfl rfl (v_agg rfl)) rfl rfl rfl ?_
  refine o_q (q_ext rfl rfl (v_raw rfl)) rfl rfl rfl ?_
  refine o_storew rfl (by repeat first | exact Mem.upd_self _ _ _ | assumption | refine Mem.upd_ne (by assumption) ?_) (by first | exact e_agg rfl | rfl) rfl sz23 rfl rfl rfl rfl ?_
  refine o_q (q_as (v_raw rfl)) rfl rfl rfl ?_
  refine o_nil ?_
  refine s_ret ?_
  refine s_end ?_
  exact ret_many (.inl rfl) rfl (rl_c rfl (by repeat first | exact Mem.upd_self _ _ _ | assumption | refine Mem.upd_ne (by assumption) ?_) (loadP_w ag23 sz23 rfl rfl) rfl (rl_t rfl rl_nil)) rfl ⟨by rfl, (by repeat first | exact hle | exact Mem.le_refl M | assumption | exact Mem.none_of_le hle (by assumption) | refine Mem.le_upd ?_ ?_)⟩

def tk18 : Nat → Nat → Option Nat := fun _ _ => none
def pl18 : Nat → List PStep := fun _ => []
theorem cb18 : Try.f18.body.map (codeB Try.prog Try.f18.ntmps tk18 pl18) = some true := by kernel_rfl
theorem goes18 : goesB Try.prog 18 = true := by kernel_rfl
-- carillon/gauss.Sub params ['api.Pair', 'api.Pair'] results [['cell', 4, 23], ['t', 5]] own [] names ['0:a', '1:b', '2:a', '3:b'] calls [36] paths 1
theorem snd18 (x y : Pr) (M : Mem) : SoundCall Try.prog 18 [encP x, encP y] M fun r M' => r = resP (right x && right y) (md (subZ x y)) ∧ M.le M' := by
  refine SoundCall.go tk18 pl18 mixed Try.func18 cb18 rfl (Nat.le_of_ble_eq_true rfl) ?_
  refine s_seq ?_
  refine s_region ?_
  refine o_box (by first | exact e_raw rfl | exact e_agg rfl | exact e_sl rfl) rfl rfl (fun B1 hB1 => ?_)
  have m1 : M B1 = none := by have h := hB1; repeat (first | exact h | replace h := (Mem.upd_none h).2)
  refine o_box (by first | exact e_raw rfl | exact e_agg rfl | exact e_sl rfl) rfl rfl (fun B2 hB2 => ?_)
  have f1_2 : B1 ≠ B2 := Mem.fresh_ne hB2 (by repeat first | exact Mem.upd_self _ _ _ | assumption | refine Mem.upd_ne (by assumption) ?_)
  have g2_1 : B2 ≠ B1 := f1_2.symm
  have m2 : M B2 = none := by have h := hB2; repeat (first | exact h | replace h := (Mem.upd_none h).2)
  refine o_alloc zc23 (fun B3 hB3 => ?_)
  have f1_3 : B1 ≠ B3 := Mem.fresh_ne hB3 (by repeat first | exact Mem.upd_self _ _ _ | assumption | refine Mem.upd_ne (by assumption) ?_)
  have g3_1 : B3 ≠ B1 := f1_3.symm
  have f2_3 : B2 ≠ B3 := Mem.fresh_ne hB3 (by repeat first | exact Mem.upd_self _ _ _ | assumption | refine Mem.upd_ne (by assumption) ?_)
  have g3_2 : B3 ≠ B2 := f2_3.symm
  have m3 : M B3 = none := by have h := hB3; repeat (first | exact h | replace h := (Mem.upd_none h).2)
  refine o_q (q_as (v_raw rfl)) rfl rfl rfl ?_
  refine o_nil ?_
  refine s_seq ?_
  refine s_region ?_
  refine o_q (q_ldmw ag23 sz23 rfl (by repeat first | exact Mem.upd_self _ _ _ | assumption | refine Mem.upd_ne (by assumption) ?_) rfl rfl) rfl rfl rfl ?_
  refine o_q (q_ldmw ag23 sz23 rfl (by repeat first | exact Mem.upd_self _ _ _ | assumption | refine Mem.upd_ne (by assumption) ?_) rfl rfl) rfl rfl rfl ?_
  refine o_call ((snd36 x y 39 (subZ x y) _ goes39 (fun a b M => snd39 x y M a b) (fun a b => (z_bound x y a b |>.2.2).1) (fun a b => (z_bound x y a b |>.2.2).2)).det) goes36 (ac (v_agg rfl) (ac (v_agg rfl) (ac (v_raw rfl) ac_nil))) rfl ?_
  refine o_q (q_ext rfl rfl (v_agg rfl)) rfl rfl rfl ?_
  refine o_q (q_ext rfl rfl (v_raw rfl)) rfl rfl rfl ?_
  refine o_storew rfl (by repeat first | exact Mem.upd_self _ _ _ | assumption | refine Mem.upd_ne (by assumption) ?_) (by first | exact e_agg rfl | rfl) rfl sz23 rfl rfl rfl rfl ?_
  refine o_q (q_as (v_raw rfl)) rfl rfl rfl ?_
  refine o_nil ?_
  refine s_ret ?_
  refine s_end ?_
  exact ret_many (.inl rfl) rfl (rl_c rfl (by repeat first | exact Mem.upd_self _ _ _ | assumption | refine Mem.upd_ne (by assumption) ?_) (loadP_w ag23 sz23 rfl rfl) rfl (rl_t rfl rl_nil)) rfl ⟨by rfl, (by repeat first | exact hle | exact Mem.le_refl M | assumption | exact Mem.none_of_le hle (by assumption) | refine Mem.le_upd ?_ ?_)⟩

def tk14 : Nat → Nat → Option Nat := fun _ _ => none
def pl14 : Nat → List PStep := fun _ => []
theorem cb14 : Try.f14.body.map (codeB Try.prog Try.f14.ntmps tk14 pl14) = some true := by kernel_rfl
theorem goes14 : goesB Try.prog 14 = true := by kernel_rfl
-- carillon/gauss.Mul params ['api.Pair', 'api.Pair'] results [['cell', 4, 23], ['t', 5]] own [] names ['0:a', '1:b', '2:a', '3:b'] calls [36] paths 1
theorem snd14 (x y : Pr) (M : Mem) : SoundCall Try.prog 14 [encP x, encP y] M fun r M' => r = resP (right x && right y) (md (mulZ x y)) ∧ M.le M' := by
  refine SoundCall.go tk14 pl14 mixed Try.func14 cb14 rfl (Nat.le_of_ble_eq_true rfl) ?_
  refine s_seq ?_
  refine s_region ?_
  refine o_box (by first | exact e_raw rfl | exact e_agg rfl | exact e_sl rfl) rfl rfl (fun B1 hB1 => ?_)
  have m1 : M B1 = none := by have h := hB1; repeat (first | exact h | replace h := (Mem.upd_none h).2)
  refine o_box (by first | exact e_raw rfl | exact e_agg rfl | exact e_sl rfl) rfl rfl (fun B2 hB2 => ?_)
  have f1_2 : B1 ≠ B2 := Mem.fresh_ne hB2 (by repeat first | exact Mem.upd_self _ _ _ | assumption | refine Mem.upd_ne (by assumption) ?_)
  have g2_1 : B2 ≠ B1 := f1_2.symm
  have m2 : M B2 = none := by have h := hB2; repeat (first | exact h | replace h := (Mem.upd_none h).2)
  refine o_alloc zc23 (fun B3 hB3 => ?_)
  have f1_3 : B1 ≠ B3 := Mem.fresh_ne hB3 (by repeat first | exact Mem.upd_self _ _ _ | assumption | refine Mem.upd_ne (by assumption) ?_)
  have g3_1 : B3 ≠ B1 := f1_3.symm
  have f2_3 : B2 ≠ B3 := Mem.fresh_ne hB3 (by repeat first | exact Mem.upd_self _ _ _ | assumption | refine Mem.upd_ne (by assumption) ?_)
  have g3_2 : B3 ≠ B2 := f2_3.symm
  have m3 : M B3 = none := by have h := hB3; repeat (first | exact h | replace h := (Mem.upd_none h).2)
  refine o_q (q_as (v_raw rfl)) rfl rfl rfl ?_
  refine o_nil ?_
  refine s_seq ?_
  refine s_region ?_
  refine o_q (q_ldmw ag23 sz23 rfl (by repeat first | exact Mem.upd_self _ _ _ | assumption | refine Mem.upd_ne (by assumption) ?_) rfl rfl) rfl rfl rfl ?_
  refine o_q (q_ldmw ag23 sz23 rfl (by repeat first | exact Mem.upd_self _ _ _ | assumption | refine Mem.upd_ne (by assumption) ?_) rfl rfl) rfl rfl rfl ?_
  refine o_call ((snd36 x y 37 (mulZ x y) _ goes37 (fun a b M => snd37 x y M a b) (fun a b => (z_bound x y a b |>.1).1) (fun a b => (z_bound x y a b |>.1).2)).det) goes36 (ac (v_agg rfl) (ac (v_agg rfl) (ac (v_raw rfl) ac_nil))) rfl ?_
  refine o_q (q_ext rfl rfl (v_agg rfl)) rfl rfl rfl ?_
  refine o_q (q_ext rfl rfl (v_raw rfl)) rfl rfl rfl ?_
  refine o_storew rfl (by repeat first | exact Mem.upd_self _ _ _ | assumption | refine Mem.upd_ne (by assumption) ?_) (by first | exact e_agg rfl | rfl) rfl sz23 rfl rfl rfl rfl ?_
  refine o_q (q_as (v_raw rfl)) rfl rfl rfl ?_
  refine o_nil ?_
  refine s_ret ?_
  refine s_end ?_
  exact ret_many (.inl rfl) rfl (rl_c rfl (by repeat first | exact Mem.upd_self _ _ _ | assumption | refine Mem.upd_ne (by assumption) ?_) (loadP_w ag23 sz23 rfl rfl) rfl (rl_t rfl rl_nil)) rfl ⟨by rfl, (by repeat first | exact hle | exact Mem.le_refl M | assumption | exact Mem.none_of_le hle (by assumption) | refine Mem.le_upd ?_ ?_)⟩

def tk41 : Nat → Nat → Option Nat := fun _ _ => none
def pl41 : Nat → List PStep := fun _ => []
theorem cb41 : Try.f41.body.map (codeB Try.prog Try.f41.ntmps tk41 pl41) = some true := by kernel_rfl
theorem goes41 : goesB Try.prog 41 = true := by kernel_rfl
-- carillon/gauss.power params ['complex128', 'int'] results [['t', 4]] own [] names ['0:z', '1:n', '2:z', '3:n', '5:out'] calls [34] paths 3

def mulP (a b : Pr) : Pr := md (mulZ a b)
/-- A power, by squares. -/
def pwF : Nat → Pr → Pr → Nat → Pr
  | 0, out, _, _ => out
  | f + 1, out, z, n => if n = 0 then out else pwF f (if n % 2 = 1 then mulP out z else out) (mulP z z) (n / 2)
def pw (z : Pr) (n : Nat) : Pr := pwF 63 ⟨1, 0⟩ z n
theorem one_right : right ⟨1, 0⟩ = true := by decide
theorem pwF_right : ∀ (f : Nat) (out z : Pr) (n : Nat), right out = true → right (pwF f out z n) = true
  | 0, out, z, n, h => h
  | f + 1, out, z, n, h => by
    unfold pwF
    split
    · exact h
    · refine pwF_right f _ _ _ ?_
      split
      · exact md_right _
      · exact h
theorem pw_right (z : Pr) (n : Nat) : right (pw z n) = true := pwF_right _ _ _ _ one_right
theorem snd41 (z : Pr) (n : Nat) (M : Mem) (hz : right z = true) (hn : n < 2 ^ 63) : SoundCall Try.prog 41 [cxp z, int n] M fun r M' => r = cxp (pw z n) ∧ M.le M' := by
  refine SoundCall.go tk41 pl41 mixed Try.func41 cb41 rfl (Nat.le_of_ble_eq_true rfl) ?_
  refine s_seq ?_
  refine s_region ?_
  refine o_q (q_as (v_raw rfl)) rfl rfl rfl ?_
  refine o_nil ?_
  refine s_seq ?_
  refine s_region ?_
  refine o_q (q_as (v_raw rfl)) rfl rfl rfl ?_
  refine o_nil ?_
  refine s_seq ?_
  refine s_block ?_
  refine s_loop (fun m S => ∃ T, ∃ z' out : Pr, ∃ k : Nat, S = ⟨setT (setT (setT T 0 (cxp z')) 1 (int (k : Nat))) 5 (cxp out), M⟩ ∧ right z' = true ∧ right out = true ∧ k < 2 ^ m ∧ m < 64 ∧ pwF m out z' k = pw z n) 63 ?_ ?_
  · exact ⟨_, z, ⟨1, 0⟩, n, St.mkT (kp (kp (kp rfl rfl) rfl) (show _ = cxp ⟨1, 0⟩ from cc1_0)).symm, hz, one_right, hn, by omega, rfl⟩
  rintro m S ⟨T, z', out, k, rfl, hz, ho, hk, hm, hpw⟩
  have hk63 : k < 2 ^ 63 := Nat.lt_of_lt_of_le hk (Nat.pow_le_pow_right (by decide) (by omega))
  have rz := right_spec.1 hz
  have ro := right_spec.1 ho
  have l1 : Low z'.re := low_of rz.1 rz.2.1
  have l2 : Low z'.im := low_of rz.2.2.1 rz.2.2.2
  have l3 : Low out.re := low_of ro.1 ro.2.1
  have l4 : Low out.im := low_of ro.2.2.1 ro.2.2.2
  refine s_seq ?_
  refine s_seq ?_
  refine s_region ?_
  refine o_q (q_mv (v_raw rfl)) rfl rfl rfl ?_
  refine o_q (q_gtr rfl rfl) rfl rfl rfl ?_
  refine o_nil ?_
  refine s_cond rfl (fun h1 => ?_) (fun h1 => ?_)
  · have k1 := h1; try simp only [decide_eq_true_eq, decide_eq_false_iff_not, Bool.not_eq_true', Bool.not_eq_false', Bool.not_true, Bool.not_false, List.length_map, Decidable.not_not] at k1
    obtain ⟨m', rfl⟩ : ∃ m', m = m' + 1 := by
      cases m with
      | zero => simp at hk; omega
      | succ m' => exact ⟨m', rfl⟩
    refine s_skip ?_
    refine s_seq ?_
    refine s_block ?_
    refine s_seq ?_
    refine s_seq ?_
    refine s_region ?_
    refine o_q (q_mv (v_raw rfl)) rfl rfl rfl ?_
    refine o_q (q_and1 rfl rfl (by omega)) rfl rfl rfl ?_
    refine o_q (q_eql rfl rfl) rfl rfl rfl ?_
    refine o_nil ?_
    refine s_cond rfl (fun h2 => ?_) (fun h2 => ?_)
    · have k2 := h2; try simp only [decide_eq_true_eq, decide_eq_false_iff_not, Bool.not_eq_true', Bool.not_eq_false', Bool.not_true, Bool.not_false, List.length_map, Decidable.not_not] at k2
      refine s_region ?_
      refine o_q (q_mv (v_raw rfl)) rfl rfl rfl ?_
      refine o_q (q_mv (v_raw rfl)) rfl rfl rfl ?_
      refine o_q (q_cmul rfl rfl (by first | assumption | exact ⟨by omega, by omega⟩) (by first | assumption | exact ⟨by omega, by omega⟩) (by first | assumption | exact ⟨by omega, by omega⟩) (by first | assumption | exact ⟨by omega, by omega⟩)) rfl rfl rfl ?_
      refine o_call ((snd34 (mulZ out z') _ (z_bound out z' ho hz).1.1 (z_bound out z' ho hz).1.2).det) goes34 (ac (v_raw rfl) ac_nil) rfl ?_
      refine o_q (q_as (v_raw rfl)) rfl rfl rfl ?_
      refine o_nil ?_
      refine s_region ?_
      refine o_q (q_mv (v_raw rfl)) rfl rfl rfl ?_
      refine o_q (q_mv (v_raw rfl)) rfl rfl rfl ?_
      refine o_q (q_cmul rfl rfl (by first | assumption | exact ⟨by omega, by omega⟩) (by first | assumption | exact ⟨by omega, by omega⟩) (by first | assumption | exact ⟨by omega, by omega⟩) (by first | assumption | exact ⟨by omega, by omega⟩)) rfl rfl rfl ?_
      refine o_call ((snd34 (mulZ z' z') _ (z_bound z' z' hz hz).1.1 (z_bound z' z' hz hz).1.2).det) goes34 (ac (v_raw rfl) ac_nil) rfl ?_
      refine o_q (q_as (v_raw rfl)) rfl rfl rfl ?_
      refine o_nil ?_
      refine s_blk_normal ?_
      refine s_region ?_
      refine o_q (q_mv (v_raw rfl)) rfl rfl rfl ?_
      refine o_q (q_shr rfl rfl (by decide)) rfl rfl rfl ?_
      refine o_q (q_as (v_raw rfl)) rfl rfl rfl ?_
      refine o_nil ?_
      refine s_inv ?_
      exact ⟨m', by omega, _, mulP z' z', mulP out z', k / 2, St.mkT (kp (kp (kp rfl rfl) (show _ = int ((k / 2 : Nat) : Int) from congrArg int (by have : (2 : Int) ^ 1 = 2 := rfl; rw [this]; omega))) rfl).symm, md_right _, by first | exact md_right _ | assumption, by rw [Nat.pow_succ] at hk; omega, by omega, by rw [← hpw, pwF, if_neg (by omega)]; first | rw [if_pos (by omega)] | rw [if_neg (by omega)]⟩
    · have k2 := h2; try simp only [decide_eq_true_eq, decide_eq_false_iff_not, Bool.not_eq_true', Bool.not_eq_false', Bool.not_true, Bool.not_false, List.length_map, Decidable.not_not] at k2
      refine s_skip ?_
      refine s_region ?_
      refine o_q (q_mv (v_raw rfl)) rfl rfl rfl ?_
      refine o_q (q_mv (v_raw rfl)) rfl rfl rfl ?_
      refine o_q (q_cmul rfl rfl (by first | assumption | exact ⟨by omega, by omega⟩) (by first | assumption | exact ⟨by omega, by omega⟩) (by first | assumption | exact ⟨by omega, by omega⟩) (by first | assumption | exact ⟨by omega, by omega⟩)) rfl rfl rfl ?_
      refine o_call ((snd34 (mulZ z' z') _ (z_bound z' z' hz hz).1.1 (z_bound z' z' hz hz).1.2).det) goes34 (ac (v_raw rfl) ac_nil) rfl ?_
      refine o_q (q_as (v_raw rfl)) rfl rfl rfl ?_
      refine o_nil ?_
      refine s_blk_normal ?_
      refine s_region ?_
      refine o_q (q_mv (v_raw rfl)) rfl rfl rfl ?_
      refine o_q (q_shr rfl rfl (by decide)) rfl rfl rfl ?_
      refine o_q (q_as (v_raw rfl)) rfl rfl rfl ?_
      refine o_nil ?_
      refine s_inv ?_
      exact ⟨m', by omega, _, mulP z' z', out, k / 2, St.mkT (kp (kp (kp rfl rfl) (show _ = int ((k / 2 : Nat) : Int) from congrArg int (by have : (2 : Int) ^ 1 = 2 := rfl; rw [this]; omega))) rfl).symm, md_right _, by first | exact md_right _ | assumption, by rw [Nat.pow_succ] at hk; omega, by omega, by rw [← hpw, pwF, if_neg (by omega)]; first | rw [if_pos (by omega)] | rw [if_neg (by omega)]⟩
  · have k1 := h1; try simp only [decide_eq_true_eq, decide_eq_false_iff_not, Bool.not_eq_true', Bool.not_eq_false', Bool.not_true, Bool.not_false, List.length_map, Decidable.not_not] at k1
    refine s_exit ?_
    refine s_code_exit ?_
    refine s_inv_exit ?_
    refine s_blk_here ?_
    refine s_seq ?_
    refine s_region ?_
    refine o_q (q_mv (v_raw rfl)) rfl rfl rfl ?_
    refine o_q (q_as (v_raw rfl)) rfl rfl rfl ?_
    refine o_nil ?_
    refine s_ret ?_
    refine s_end ?_
    obtain rfl : k = 0 := by omega
    refine ⟨?_, (by repeat first | exact hle | exact Mem.le_refl M | assumption | exact Mem.none_of_le hle (by assumption) | refine Mem.le_upd ?_ ?_)⟩
    rw [← hpw]
    cases m with
    | zero => rfl
    | succ m => rfl

def tk31 : Nat → Nat → Option Nat := fun _ _ => none
def pl31 : Nat → List PStep := fun _ => []
theorem cb31 : Try.f31.body.map (codeB Try.prog Try.f31.ntmps tk31 pl31) = some true := by kernel_rfl
theorem goes31 : goesB Try.prog 31 = true := by kernel_rfl
-- carillon/gauss.Begin params [] results [['cell', 0, 23]] own [] names [] calls [] paths 1
theorem snd31 (M : Mem) : SoundCall Try.prog 31 [] M fun r M' => r = encP ⟨1, 0⟩ ∧ M.le M' := by
  refine SoundCall.go tk31 pl31 mixed Try.func31 cb31 rfl (Nat.le_of_ble_eq_true rfl) ?_
  refine s_seq ?_
  refine s_region ?_
  refine o_alloc zc23 (fun B1 hB1 => ?_)
  have m1 : M B1 = none := by have h := hB1; repeat (first | exact h | replace h := (Mem.upd_none h).2)
  refine o_nil ?_
  refine s_seq ?_
  refine s_region ?_
  refine o_q (q_b (cs := [_, .raw (.int .i64 0)]) bz23 bp23 (bf fo23_0 (e_raw rfl) rfl rfl (Nat.le_of_ble_eq_true rfl) rfl bf_nil)) rfl rfl rfl ?_
  refine o_storew rfl (by repeat first | exact Mem.upd_self _ _ _ | assumption | refine Mem.upd_ne (by assumption) ?_) (by first | exact e_agg rfl | rfl) rfl sz23 rfl rfl rfl rfl ?_
  refine o_nil ?_
  refine s_ret ?_
  refine s_end ?_
  exact ret_one (.inl rfl) rfl (rl_c rfl (Mem.upd_self _ _ _) (loadP_w ag23 sz23 rfl rfl) rfl rl_nil) ⟨rfl, (by repeat first | exact hle | exact Mem.le_refl M | assumption | exact Mem.none_of_le hle (by assumption) | refine Mem.le_upd ?_ ?_)⟩

def tk32 : Nat → Nat → Option Nat := fun _ _ => none
def pl32 : Nat → List PStep := fun _ => []
theorem cb32 : Try.f32.body.map (codeB Try.prog Try.f32.ntmps tk32 pl32) = some true := by kernel_rfl
theorem goes32 : goesB Try.prog 32 = true := by kernel_rfl
-- carillon/carillonref03.Begin params [] results [['cell', 0, 23]] own [] names [] calls [] paths 1
theorem snd32 (M : Mem) : SoundCall Try.prog 32 [] M fun r M' => r = encP ⟨1, 0⟩ ∧ M.le M' := by
  refine SoundCall.go tk32 pl32 mixed Try.func32 cb32 rfl (Nat.le_of_ble_eq_true rfl) ?_
  refine s_seq ?_
  refine s_region ?_
  refine o_alloc zc23 (fun B1 hB1 => ?_)
  have m1 : M B1 = none := by have h := hB1; repeat (first | exact h | replace h := (Mem.upd_none h).2)
  refine o_nil ?_
  refine s_seq ?_
  refine s_region ?_
  refine o_q (q_b (cs := [_, .raw (.int .i64 0)]) bz23 bp23 (bf fo23_0 (e_raw rfl) rfl rfl (Nat.le_of_ble_eq_true rfl) rfl bf_nil)) rfl rfl rfl ?_
  refine o_storew rfl (by repeat first | exact Mem.upd_self _ _ _ | assumption | refine Mem.upd_ne (by assumption) ?_) (by first | exact e_agg rfl | rfl) rfl sz23 rfl rfl rfl rfl ?_
  refine o_nil ?_
  refine s_ret ?_
  refine s_end ?_
  exact ret_one (.inl rfl) rfl (rl_c rfl (Mem.upd_self _ _ _) (loadP_w ag23 sz23 rfl rfl) rfl rl_nil) ⟨rfl, (by repeat first | exact hle | exact Mem.le_refl M | assumption | exact Mem.none_of_le hle (by assumption) | refine Mem.le_upd ?_ ?_)⟩

def tk24 : Nat → Nat → Option Nat := fun _ _ => none
def pl24 : Nat → List PStep := fun _ => []
theorem cb24 : Try.f24.body.map (codeB Try.prog Try.f24.ntmps tk24 pl24) = some true := by kernel_rfl
theorem goes24 : goesB Try.prog 24 = true := by kernel_rfl
-- carillon/gauss.Pow params ['api.Pair', 'int'] results [['cell', 4, 23], ['t', 5]] own [] names ['0:a', '1:n', '2:a', '3:n'] calls [23, 33, 35, 41] paths 3

theorem md_of_right {a : Pr} (h : right a = true) : md a = a := by
  have := right_spec.1 h
  unfold md
  rw [Int.emod_eq_of_lt this.1 this.2.1, Int.emod_eq_of_lt this.2.2.1 this.2.2.2]
theorem snd35r (z : Pr) (M : Mem) (h : right z = true) : SoundCall Try.prog 35 [cxp z] M fun r M' => r = encP z ∧ M' = M := by
  have hr := right_spec.1 h
  have h1 := (snd35 z M (by omega) (by omega)).det
  rw [md_of_right h] at h1
  exact h1
theorem snd41i (z : Pr) (n : Int) (M : Mem) (hz : right z = true) (h0 : 0 ≤ n) (hn : n < 2 ^ 63) : SoundCall Try.prog 41 [cxp z, int n] M fun r M' => r = cxp (pw z n.toNat) ∧ M' = M := by
  have h1 := (snd41 z n.toNat M hz (by omega)).det
  rw [show ((n.toNat : Nat) : Int) = n by omega] at h1
  exact h1
theorem snd24 (x : Pr) (n : Int) (M : Mem) (hn : n < 2 ^ 63) : SoundCall Try.prog 24 [encP x, int n] M fun r M' => r = resP (right x && decide (0 ≤ n)) (pw x n.toNat) ∧ M.le M' := by
  refine SoundCall.go tk24 pl24 mixed Try.func24 cb24 rfl (Nat.le_of_ble_eq_true rfl) ?_
  refine s_seq ?_
  refine s_region ?_
  refine o_box (by first | exact e_raw rfl | exact e_agg rfl | exact e_sl rfl) rfl rfl (fun B1 hB1 => ?_)
  have m1 : M B1 = none := by have h := hB1; repeat (first | exact h | replace h := (Mem.upd_none h).2)
  refine o_alloc zc23 (fun B2 hB2 => ?_)
  have f1_2 : B1 ≠ B2 := Mem.fresh_ne hB2 (by repeat first | exact Mem.upd_self _ _ _ | assumption | refine Mem.upd_ne (by assumption) ?_)
  have g2_1 : B2 ≠ B1 := f1_2.symm
  have m2 : M B2 = none := by have h := hB2; repeat (first | exact h | replace h := (Mem.upd_none h).2)
  refine o_q (q_as (v_raw rfl)) rfl rfl rfl ?_
  refine o_nil ?_
  refine s_seq ?_
  refine s_seq ?_
  refine s_region ?_
  refine o_q (q_ldmw ag23 sz23 rfl (by repeat first | exact Mem.upd_self _ _ _ | assumption | refine Mem.upd_ne (by assumption) ?_) rfl rfl) rfl rfl rfl ?_
  refine o_call ((snd23 x _).det) goes23 (ac (v_agg rfl) ac_nil) rfl ?_
  refine o_q (q_not rfl) rfl rfl rfl ?_
  refine o_q (q_mv (v_raw rfl)) rfl rfl rfl ?_
  refine o_cases (want := false) (j := 3) rfl rfl (fun h1 => ?_) (fun h1 => ?_)
  · have k1 := h1; try simp only [decide_eq_true_eq, decide_eq_false_iff_not, Bool.not_eq_true', Bool.not_eq_false', Bool.not_true, Bool.not_false, List.length_map, Decidable.not_not] at k1
    refine o_yes rfl rfl rfl h1 ?_
    refine o_q (q_mv (v_raw rfl)) rfl rfl rfl ?_
    refine o_yes rfl rfl rfl h1 ?_
    refine o_q (q_lss rfl rfl) rfl rfl rfl ?_
    refine o_q (q_pick_c (t := false) rfl h1 (v_raw rfl)) rfl rfl rfl ?_
    refine o_nil ?_
    refine s_cond rfl (fun h2 => ?_) (fun h2 => ?_)
    · have k2 := h2; try simp only [decide_eq_true_eq, decide_eq_false_iff_not, Bool.not_eq_true', Bool.not_eq_false', Bool.not_true, Bool.not_false, List.length_map, Decidable.not_not] at k2
      refine s_seq ?_
      refine s_region ?_
      refine o_q (q_b (cs := [.raw (.int .i64 0), .raw (.int .i64 0)]) bz23 bp23 bf_nil) rfl rfl rfl ?_
      refine o_storew rfl (by repeat first | exact Mem.upd_self _ _ _ | assumption | refine Mem.upd_ne (by assumption) ?_) (by first | exact e_agg rfl | rfl) rfl sz23 rfl rfl rfl rfl ?_
      refine o_q (q_as (v_raw rfl)) rfl rfl rfl ?_
      refine o_nil ?_
      refine s_ret ?_
      refine s_code_ret ?_
      refine s_end ?_
      exact ret_many (.inl rfl) rfl (rl_c rfl (by repeat first | exact Mem.upd_self _ _ _ | assumption | refine Mem.upd_ne (by assumption) ?_) (loadP_w ag23 sz23 rfl rfl) rfl (rl_t rfl rl_nil)) rfl ⟨by rw [show (right x && decide (0 ≤ n)) = false by simp_all <;> omega]; rfl, (by repeat first | exact hle | exact Mem.le_refl M | assumption | exact Mem.none_of_le hle (by assumption) | refine Mem.le_upd ?_ ?_)⟩
    · have k2 := h2; try simp only [decide_eq_true_eq, decide_eq_false_iff_not, Bool.not_eq_true', Bool.not_eq_false', Bool.not_true, Bool.not_false, List.length_map, Decidable.not_not] at k2
      refine s_skip ?_
      refine s_seq ?_
      refine s_region ?_
      refine o_q (q_ldmw ag23 sz23 rfl (by repeat first | exact Mem.upd_self _ _ _ | assumption | refine Mem.upd_ne (by assumption) ?_) rfl rfl) rfl rfl rfl ?_
      refine o_call ((snd33 x _).det) goes33 (ac (v_agg rfl) ac_nil) rfl ?_
      refine o_q (q_mv (v_raw rfl)) rfl rfl rfl ?_
      refine o_call ((snd41i x n _ (by simpa using h1) (by omega) hn)) goes41 (ac (v_raw rfl) (ac (v_raw rfl) ac_nil)) rfl ?_
      refine o_call ((snd35r (pw x n.toNat) _ (pw_right _ _))) goes35 (ac (v_raw rfl) ac_nil) rfl ?_
      refine o_storew rfl (by repeat first | exact Mem.upd_self _ _ _ | assumption | refine Mem.upd_ne (by assumption) ?_) (by first | exact e_agg rfl | rfl) rfl sz23 rfl rfl rfl rfl ?_
      refine o_q (q_as (v_raw rfl)) rfl rfl rfl ?_
      refine o_nil ?_
      refine s_ret ?_
      refine s_end ?_
      exact ret_many (.inl rfl) rfl (rl_c rfl (by repeat first | exact Mem.upd_self _ _ _ | assumption | refine Mem.upd_ne (by assumption) ?_) (loadP_w ag23 sz23 rfl rfl) rfl (rl_t rfl rl_nil)) rfl ⟨by rw [show (right x && decide (0 ≤ n)) = true by simp_all <;> omega]; rfl, (by repeat first | exact hle | exact Mem.le_refl M | assumption | exact Mem.none_of_le hle (by assumption) | refine Mem.le_upd ?_ ?_)⟩
  · have k1 := h1; try simp only [decide_eq_true_eq, decide_eq_false_iff_not, Bool.not_eq_true', Bool.not_eq_false', Bool.not_true, Bool.not_false, List.length_map, Decidable.not_not] at k1
    refine o_no rfl rfl rfl rfl h1 ?_
    refine o_no rfl rfl rfl rfl h1 ?_
    refine o_q (q_pick_c (t := true) rfl h1 (v_raw rfl)) rfl rfl rfl ?_
    refine o_nil ?_
    refine s_then rfl rfl ?_
    refine s_seq ?_
    refine s_region ?_
    refine o_q (q_b (cs := [.raw (.int .i64 0), .raw (.int .i64 0)]) bz23 bp23 bf_nil) rfl rfl rfl ?_
    refine o_storew rfl (by repeat first | exact Mem.upd_self _ _ _ | assumption | refine Mem.upd_ne (by assumption) ?_) (by first | exact e_agg rfl | rfl) rfl sz23 rfl rfl rfl rfl ?_
    refine o_q (q_as (v_raw rfl)) rfl rfl rfl ?_
    refine o_nil ?_
    refine s_ret ?_
    refine s_code_ret ?_
    refine s_end ?_
    exact ret_many (.inl rfl) rfl (rl_c rfl (by repeat first | exact Mem.upd_self _ _ _ | assumption | refine Mem.upd_ne (by assumption) ?_) (loadP_w ag23 sz23 rfl rfl) rfl (rl_t rfl rl_nil)) rfl ⟨by rw [show (right x && decide (0 ≤ n)) = false by simp_all]; rfl, (by repeat first | exact hle | exact Mem.le_refl M | assumption | exact Mem.none_of_le hle (by assumption) | refine Mem.le_upd ?_ ?_)⟩

def tk25 : Nat → Nat → Option Nat := fun _ _ => none
def pl25 : Nat → List PStep := fun _ => []
theorem cb25 : Try.f25.body.map (codeB Try.prog Try.f25.ntmps tk25 pl25) = some true := by kernel_rfl
theorem goes25 : goesB Try.prog 25 = true := by kernel_rfl
-- carillon/gauss.Inv params ['api.Pair'] results [['cell', 2, 23], ['t', 3]] own [] names ['0:a', '1:a'] calls [23, 33, 35, 41] paths 3

theorem eqg23 : Try.prog.eqGuardType Try.prog.depth 23 = false := by kernel_rfl
theorem stood23 : Try.prog.stoodInHeld 23 = false := by kernel_rfl
theorem und3' : Try.prog.underlying 3 = some (.int .i64) := by kernel_rfl
def rawM (m : Pr) : Value := .agg #[.int .i64 m.re, .int .i64 m.im]
theorem mbEq (r r' : Pr) : pr Try.prog (Op.equal 23 (rawM r) (rawM r')) = some (decide (r = r')) := by
  refine eqStruct Try.underlying23 stood23 ?_
  simp only [List.forIn_cons, List.forIn_nil]
  refine fldEq' (by decide) (part_one (v := .int .i64 r.re) ag3 rfl) (part_one (v := .int .i64 r'.re) ag3 rfl) (eq_int und3' _ _) (fun _ => rfl) rfl (congrArg Pr.re) (fun h1 => ?_)
  refine fldEq' (by decide) (part_one (v := .int .i64 r.im) ag3 rfl) (part_one (v := .int .i64 r'.im) ag3 rfl) (eq_int und3' _ _) (fun _ => rfl) rfl (congrArg Pr.im) (fun h2 => ?_)
  have : r = r' := by cases r; cases r'; simp at h1 h2; simp [*]
  simp only [this, decide_true]; rfl
theorem binEqM (x y : Operand) (r r' : Pr) : aBin Try.prog .eql 23 x y (encP r) (encP r') = some (.raw (.bool (decide (r = r')))) :=
  aBin_structEq eqg23 rfl rfl (fun _ _ h => by cases h) (mbEq r r')
theorem binNeM (x y : Operand) (r r' : Pr) : aBin Try.prog .neq 23 x y (encP r) (encP r') = some (.raw (.bool (!decide (r = r')))) :=
  aBin_structNeq eqg23 rfl rfl (fun _ _ h => by cases h) (mbEq r r')
/-- What Inv answers. -/
def invR (x : Pr) : AVal := .tup [encP (if right x = true ∧ x ≠ ⟨0, 0⟩ then pw x 1125896618510687 else ⟨0, 0⟩), int (if right x = true then (if x = ⟨0, 0⟩ then 7 else 0) else 1)]
theorem snd25 (x : Pr) (M : Mem) : SoundCall Try.prog 25 [encP x] M fun r M' => r = invR x ∧ M.le M' := by
  refine SoundCall.go tk25 pl25 mixed Try.func25 cb25 rfl (Nat.le_of_ble_eq_true rfl) ?_
  refine s_seq ?_
  refine s_region ?_
  refine o_box (by first | exact e_raw rfl | exact e_agg rfl | exact e_sl rfl) rfl rfl (fun B1 hB1 => ?_)
  have m1 : M B1 = none := by have h := hB1; repeat (first | exact h | replace h := (Mem.upd_none h).2)
  refine o_alloc zc23 (fun B2 hB2 => ?_)
  have f1_2 : B1 ≠ B2 := Mem.fresh_ne hB2 (by repeat first | exact Mem.upd_self _ _ _ | assumption | refine Mem.upd_ne (by assumption) ?_)
  have g2_1 : B2 ≠ B1 := f1_2.symm
  have m2 : M B2 = none := by have h := hB2; repeat (first | exact h | replace h := (Mem.upd_none h).2)
  refine o_q (q_as (v_raw rfl)) rfl rfl rfl ?_
  refine o_nil ?_
  refine s_seq ?_
  refine s_block ?_
  refine s_seq ?_
  refine s_region ?_
  refine o_q (q_ldmw ag23 sz23 rfl (by repeat first | exact Mem.upd_self _ _ _ | assumption | refine Mem.upd_ne (by assumption) ?_) rfl rfl) rfl rfl rfl ?_
  refine o_call ((snd23 x _).det) goes23 (ac (v_agg rfl) ac_nil) rfl ?_
  refine o_q (q_not rfl) rfl rfl rfl ?_
  refine o_q (q_as (v_raw rfl)) rfl rfl rfl ?_
  refine o_nil ?_
  refine s_cond rfl (fun h1 => ?_) (fun h1 => ?_)
  · have k1 := h1; try simp only [decide_eq_true_eq, decide_eq_false_iff_not, Bool.not_eq_true', Bool.not_eq_false', Bool.not_true, Bool.not_false, List.length_map, Decidable.not_not] at k1
    refine s_seq ?_
    refine s_region ?_
    refine o_q (q_b (cs := [.raw (.int .i64 0), .raw (.int .i64 0)]) bz23 bp23 bf_nil) rfl rfl rfl ?_
    refine o_storew rfl (by repeat first | exact Mem.upd_self _ _ _ | assumption | refine Mem.upd_ne (by assumption) ?_) (by first | exact e_agg rfl | rfl) rfl sz23 rfl rfl rfl rfl ?_
    refine o_q (q_as (v_raw rfl)) rfl rfl rfl ?_
    refine o_nil ?_
    refine s_ret ?_
    refine s_blk_ret ?_
    refine s_code_ret ?_
    refine s_end ?_
    exact ret_many (.inl rfl) rfl (rl_c rfl (by repeat first | exact Mem.upd_self _ _ _ | assumption | refine Mem.upd_ne (by assumption) ?_) (loadP_w ag23 sz23 rfl rfl) rfl (rl_t rfl rl_nil)) rfl ⟨by unfold invR; simp only [show right x = false by simpa using h1, Bool.false_eq_true, false_and, if_false]; rfl, (by repeat first | exact hle | exact Mem.le_refl M | assumption | exact Mem.none_of_le hle (by assumption) | refine Mem.le_upd ?_ ?_)⟩
  · have k1 := h1; try simp only [decide_eq_true_eq, decide_eq_false_iff_not, Bool.not_eq_true', Bool.not_eq_false', Bool.not_true, Bool.not_false, List.length_map, Decidable.not_not] at k1
    refine s_seq ?_
    refine s_region ?_
    refine o_q (q_ldmw ag23 sz23 rfl (by repeat first | exact Mem.upd_self _ _ _ | assumption | refine Mem.upd_ne (by assumption) ?_) rfl rfl) rfl rfl rfl ?_
    refine o_q (q_b (cs := [.raw (.int .i64 0), .raw (.int .i64 0)]) bz23 bp23 bf_nil) rfl rfl rfl ?_
    refine o_q (q_bin' rfl rfl (binEqM _ _ x ⟨0, 0⟩)) rfl rfl rfl ?_
    refine o_q (q_as (v_raw rfl)) rfl rfl rfl ?_
    refine o_nil ?_
    refine s_cond rfl (fun h2 => ?_) (fun h2 => ?_)
    · have k2 := h2; try simp only [decide_eq_true_eq, decide_eq_false_iff_not, Bool.not_eq_true', Bool.not_eq_false', Bool.not_true, Bool.not_false, List.length_map, Decidable.not_not] at k2
      refine s_seq ?_
      refine s_region ?_
      refine o_q (q_b (cs := [.raw (.int .i64 0), .raw (.int .i64 0)]) bz23 bp23 bf_nil) rfl rfl rfl ?_
      refine o_storew rfl (by repeat first | exact Mem.upd_self _ _ _ | assumption | refine Mem.upd_ne (by assumption) ?_) (by first | exact e_agg rfl | rfl) rfl sz23 rfl rfl rfl rfl ?_
      refine o_q (q_as (v_raw rfl)) rfl rfl rfl ?_
      refine o_nil ?_
      refine s_ret ?_
      refine s_blk_ret ?_
      refine s_code_ret ?_
      refine s_end ?_
      exact ret_many (.inl rfl) rfl (rl_c rfl (by repeat first | exact Mem.upd_self _ _ _ | assumption | refine Mem.upd_ne (by assumption) ?_) (loadP_w ag23 sz23 rfl rfl) rfl (rl_t rfl rl_nil)) rfl ⟨by unfold invR; simp only [show right x = true by simpa using h1, show x = ⟨0, 0⟩ by simpa using h2, ne_eq, not_true, and_false, if_false, if_true]; rfl, (by repeat first | exact hle | exact Mem.le_refl M | assumption | exact Mem.none_of_le hle (by assumption) | refine Mem.le_upd ?_ ?_)⟩
    · have k2 := h2; try simp only [decide_eq_true_eq, decide_eq_false_iff_not, Bool.not_eq_true', Bool.not_eq_false', Bool.not_true, Bool.not_false, List.length_map, Decidable.not_not] at k2
      refine s_skip ?_
      refine s_blk_normal ?_
      refine s_seq ?_
      refine s_region ?_
      refine o_q (q_ldmw ag23 sz23 rfl (by repeat first | exact Mem.upd_self _ _ _ | assumption | refine Mem.upd_ne (by assumption) ?_) rfl rfl) rfl rfl rfl ?_
      refine o_call ((snd33 x _).det) goes33 (ac (v_agg rfl) ac_nil) rfl ?_
      refine o_call ((snd41 x 1125896618510687 _ (by simpa using h1) (by decide)).det) goes41 (ac (v_raw rfl) (ac (v_raw rfl) ac_nil)) rfl ?_
      refine o_call ((snd35r (pw x 1125896618510687) _ (pw_right _ _))) goes35 (ac (v_raw rfl) ac_nil) rfl ?_
      refine o_storew rfl (by repeat first | exact Mem.upd_self _ _ _ | assumption | refine Mem.upd_ne (by assumption) ?_) (by first | exact e_agg rfl | rfl) rfl sz23 rfl rfl rfl rfl ?_
      refine o_q (q_as (v_raw rfl)) rfl rfl rfl ?_
      refine o_nil ?_
      refine s_ret ?_
      refine s_end ?_
      exact ret_many (.inl rfl) rfl (rl_c rfl (by repeat first | exact Mem.upd_self _ _ _ | assumption | refine Mem.upd_ne (by assumption) ?_) (loadP_w ag23 sz23 rfl rfl) rfl (rl_t rfl rl_nil)) rfl ⟨by unfold invR; simp only [show right x = true by simpa using h1, show ¬ x = ⟨0, 0⟩ by simpa using h2, ne_eq, not_false_iff, and_self, if_true, if_false]; rfl, (by repeat first | exact hle | exact Mem.le_refl M | assumption | exact Mem.none_of_le hle (by assumption) | refine Mem.le_upd ?_ ?_)⟩

def tk13 : Nat → Nat → Option Nat := fun _ _ => none
def pl13 : Nat → List PStep := fun _ => []
theorem cb13 : Try.f13.body.map (codeB Try.prog Try.f13.ntmps tk13 pl13) = some true := by kernel_rfl
theorem goes13 : goesB Try.prog 13 = true := by kernel_rfl
-- carillon/gauss.On params ['api.Pair', 'string'] results [['cell', 4, 23], ['t', 5]] own [] names ['0:d', '1:s', '2:d', '3:s', '6:z', '7:_', '8:c'] calls [23, 33, 34, 35] paths 3

/-- A digest goes on by one byte; what is told is not yet brought below p. -/
def stepO (z : Pr) (c : Nat) : Pr := ⟨(md z).re * 2 - (md z).im * 3 + ((c : Int) + 1), (md z).re * 3 + (md z).im * 2 + 0⟩
def beginO (d : Pr) (n : Nat) : Pr := ⟨d.re * 2 - d.im * 3 + (257 + (n : Int)).tmod 33554383, d.re * 3 + d.im * 2 + 0⟩
def onZ (d : Pr) (n : Nat) (bs : List UInt8) : Pr := bs.foldl (fun z c => stepO z c.toNat) (beginO d n)
def onP (d : Pr) (s : ByteArray) : Pr := md (onZ d s.size s.data.toList)
def Sm (z : Pr) : Prop := z.re.natAbs < 2 ^ 40 ∧ z.im.natAbs < 2 ^ 40
theorem stepO_sm (z : Pr) {c : Nat} (h : c < 256) : Sm (stepO z c) := by
  have := right_spec.1 (md_right z)
  unfold Sm stepO
  dsimp only
  omega
theorem beginO_sm {d : Pr} (n : Nat) (h : right d = true) : Sm (beginO d n) := by
  have := right_spec.1 h
  have t1 : (257 + (n : Int)).tmod 33554383 < 33554383 := Int.tmod_lt_of_pos _ (by decide)
  have t2 : 0 ≤ (257 + (n : Int)).tmod 33554383 := Int.tmod_nonneg _ (by omega)
  unfold Sm beginO
  dsimp only
  omega
theorem onZ_sm {d : Pr} (n : Nat) (h : right d = true) : ∀ bs : List UInt8, Sm (onZ d n bs) := by
  have : ∀ (bs : List UInt8) (z : Pr), Sm z → Sm (bs.foldl (fun z c => stepO z c.toNat) z) := by
    intro bs
    induction bs with
    | nil => exact fun z h => h
    | cons c bs ih => exact fun z h => ih _ (stepO_sm z c.toNat_lt)
  exact fun bs => this bs _ (beginO_sm n h)
theorem onZ_succ (d : Pr) (n : Nat) (bs : List UInt8) {i : Nat} (h : i < bs.length) : onZ d n (bs.take (i + 1)) = stepO (onZ d n (bs.take i)) bs[i].toNat := by
  unfold onZ
  rw [List.take_succ_eq_append_getElem h, List.foldl_append]; rfl
theorem snd13 (d : Pr) (s : ByteArray) (M : Mem) (hs : s.size < 2 ^ 62) : SoundCall Try.prog 13 [encP d, .raw (.string s)] M fun r M' => r = resP (right d) (onP d s) ∧ M.le M' := by
  refine SoundCall.go tk13 pl13 mixed Try.func13 cb13 rfl (Nat.le_of_ble_eq_true rfl) ?_
  refine s_seq ?_
  refine s_region ?_
  refine o_box (by first | exact e_raw rfl | exact e_agg rfl | exact e_sl rfl) rfl rfl (fun B1 hB1 => ?_)
  have m1 : M B1 = none := by have h := hB1; repeat (first | exact h | replace h := (Mem.upd_none h).2)
  refine o_alloc zc23 (fun B2 hB2 => ?_)
  have f1_2 : B1 ≠ B2 := Mem.fresh_ne hB2 (by repeat first | exact Mem.upd_self _ _ _ | assumption | refine Mem.upd_ne (by assumption) ?_)
  have g2_1 : B2 ≠ B1 := f1_2.symm
  have m2 : M B2 = none := by have h := hB2; repeat (first | exact h | replace h := (Mem.upd_none h).2)
  refine o_q (q_as (v_raw rfl)) rfl rfl rfl ?_
  refine o_nil ?_
  refine s_seq ?_
  refine s_seq ?_
  refine s_region ?_
  refine o_q (q_ldmw ag23 sz23 rfl (by repeat first | exact Mem.upd_self _ _ _ | assumption | refine Mem.upd_ne (by assumption) ?_) rfl rfl) rfl rfl rfl ?_
  refine o_call ((snd23 d _).det) goes23 (ac (v_agg rfl) ac_nil) rfl ?_
  refine o_q (q_not rfl) rfl rfl rfl ?_
  refine o_nil ?_
  refine s_cond rfl (fun h1 => ?_) (fun h1 => ?_)
  · have k1 := h1; try simp only [decide_eq_true_eq, decide_eq_false_iff_not, Bool.not_eq_true', Bool.not_eq_false', Bool.not_true, Bool.not_false, List.length_map, Decidable.not_not] at k1
    refine s_seq ?_
    refine s_region ?_
    refine o_q (q_b (cs := [.raw (.int .i64 0), .raw (.int .i64 0)]) bz23 bp23 bf_nil) rfl rfl rfl ?_
    refine o_storew rfl (by repeat first | exact Mem.upd_self _ _ _ | assumption | refine Mem.upd_ne (by assumption) ?_) (by first | exact e_agg rfl | rfl) rfl sz23 rfl rfl rfl rfl ?_
    refine o_q (q_as (v_raw rfl)) rfl rfl rfl ?_
    refine o_nil ?_
    refine s_ret ?_
    refine s_code_ret ?_
    refine s_end ?_
    exact ret_many (.inl rfl) rfl (rl_c rfl (by repeat first | exact Mem.upd_self _ _ _ | assumption | refine Mem.upd_ne (by assumption) ?_) (loadP_w ag23 sz23 rfl rfl) rfl (rl_t rfl rl_nil)) rfl ⟨by rw [show right d = false by simp_all]; rfl, (by repeat first | exact hle | exact Mem.le_refl M | assumption | exact Mem.none_of_le hle (by assumption) | refine Mem.le_upd ?_ ?_)⟩
  · have k1 := h1; try simp only [decide_eq_true_eq, decide_eq_false_iff_not, Bool.not_eq_true', Bool.not_eq_false', Bool.not_true, Bool.not_false, List.length_map, Decidable.not_not] at k1
    have hd : right d = true := by simpa using h1
    have rd := right_spec.1 hd
    have w1 : Low d.re := low_of rd.1 rd.2.1
    have w2 : Low d.im := low_of rd.2.2.1 rd.2.2.2
    have t1 : (257 + (s.size : Int)).tmod 33554383 < 33554383 := Int.tmod_lt_of_pos _ (by decide)
    have t2 : 0 ≤ (257 + (s.size : Int)).tmod 33554383 := Int.tmod_nonneg _ (by omega)
    refine s_skip ?_
    refine s_seq ?_
    refine s_region ?_
    refine o_q (q_ldmw ag23 sz23 rfl (by repeat first | exact Mem.upd_self _ _ _ | assumption | refine Mem.upd_ne (by assumption) ?_) rfl rfl) rfl rfl rfl ?_
    refine o_call ((snd33 d _).det) goes33 (ac (v_agg rfl) ac_nil) rfl ?_
    refine o_q (q_cmul rfl cc2_3 (by first | assumption | exact ⟨by omega, by omega⟩) (by first | assumption | exact ⟨by omega, by omega⟩) (by first | assumption | exact ⟨by omega, by omega⟩) (by first | assumption | exact ⟨by omega, by omega⟩)) rfl rfl rfl ?_
    refine o_q (q_mv (v_raw rfl)) rfl rfl rfl ?_
    refine o_q (q_lens rfl und9 rfl) rfl rfl rfl ?_
    refine o_q (q_add rfl rfl (wrap64 (by omega) (by omega))) rfl rfl rfl ?_
    refine o_q (q_rem rfl rfl (by decide)) rfl rfl rfl ?_
    refine o_q (q_i2f und3 und54 rfl) rfl rfl rfl ?_
    refine o_q (q_complex rfl fc0) rfl rfl rfl ?_
    refine o_q (q_cadd rfl rfl (by omega) (by omega)) rfl rfl rfl ?_
    refine o_q (q_as (v_raw rfl)) rfl rfl rfl ?_
    refine o_nil ?_
    refine s_seq ?_
    refine s_seq ?_
    refine s_region ?_
    refine o_q (q_mv (v_raw rfl)) rfl rfl rfl ?_
    refine o_s2b s2b9_26 rfl (fun B3 C3 hB3 hC3 => ?_)
    have f1_3 : B1 ≠ B3 := Mem.fresh_ne hB3 (by repeat first | exact Mem.upd_self _ _ _ | assumption | refine Mem.upd_ne (by assumption) ?_)
    have g3_1 : B3 ≠ B1 := f1_3.symm
    have f2_3 : B2 ≠ B3 := Mem.fresh_ne hB3 (by repeat first | exact Mem.upd_self _ _ _ | assumption | refine Mem.upd_ne (by assumption) ?_)
    have g3_2 : B3 ≠ B2 := f2_3.symm
    have m3 : M B3 = none := by have h := hB3; repeat (first | exact h | replace h := (Mem.upd_none h).2)
    refine o_q (q_lenr rfl und26 rfl) rfl rfl rfl ?_
    refine o_q (q_mv (v_raw rfl)) rfl rfl rfl ?_
    refine o_nil ?_
    refine s_block ?_
    refine s_loop (fun m S => ∃ T, ∃ M' : Mem, ∃ i : Nat, S = ⟨setT (setT (setT (setT (setT (setT T 6 (cxp (onZ d s.size (s.data.toList.take i)))) 24 (.raw (.slice (some ⟨B3, 0, none⟩) s.size C3))) 25 (int s.size)) 26 (int i)) 2 (ptr B1)) 4 (ptr B2), M'⟩ ∧ M.le M' ∧ (M' B2 = some (.cells [int 0, int 0]) ∧ M' B3 = some (.cells (u8l s ++ List.replicate (C3 - s.size) (.raw (.int .u8 0))))) ∧ i ≤ s.size ∧ m = s.size - i) s.size ?_ ?_
    · exact ⟨_, _, 0, St.mkT (kp (kp (kp (kp (kp (kp rfl rfl) rfl) rfl) rfl) rfl) rfl).symm, (by repeat first | exact hle | exact Mem.le_refl M | assumption | exact Mem.none_of_le hle (by assumption) | refine Mem.le_upd ?_ ?_), ⟨(by repeat first | exact Mem.upd_self _ _ _ | assumption | refine Mem.upd_ne (by assumption) ?_), (by repeat first | exact Mem.upd_self _ _ _ | assumption | refine Mem.upd_ne (by assumption) ?_)⟩, by omega, rfl⟩
    rintro m S ⟨T, M', i, rfl, hle, ⟨bm2, bm3⟩, hi, rfl⟩
    have hsm := onZ_sm s.size hd (s.data.toList.take i)
    have hsl : s.data.toList.length = s.size := Array.length_toList
    have rz := right_spec.1 (md_right (onZ d s.size (s.data.toList.take i)))
    have w3 := low_of rz.1 rz.2.1
    have w4 := low_of rz.2.2.1 rz.2.2.2
    refine s_seq ?_
    refine s_region ?_
    refine o_q (q_lss rfl rfl) rfl rfl rfl ?_
    refine o_nil ?_
    refine s_seq ?_
    refine s_cond rfl (fun h2 => ?_) (fun h2 => ?_)
    · have k2 := h2; try simp only [decide_eq_true_eq, decide_eq_false_iff_not, Bool.not_eq_true', Bool.not_eq_false', Bool.not_true, Bool.not_false, List.length_map, Decidable.not_not] at k2
      have hc8 : (s.data[i]'(by have h : i < s.size := (by omega); exact h)).toNat < 256 := UInt8.toNat_lt _
      refine s_skip ?_
      refine s_seq ?_
      refine s_block ?_
      refine s_seq ?_
      refine s_region ?_
      refine o_q (q_idxr und26 sz5 rfl rfl (by omega) (by omega)) rfl rfl rfl ?_
      refine o_q (q_ldm ag5 sz5 rfl (by repeat first | exact Mem.upd_self _ _ _ | assumption | refine Mem.upd_ne (by assumption) ?_) (by simpa [piece] using u8l_get (s := s) (j := i) (by omega)) (v_raw rfl)) rfl rfl rfl ?_
      refine o_q (q_as (v_raw rfl)) rfl rfl rfl ?_
      refine o_nil ?_
      refine s_region ?_
      refine o_q (q_mv (v_raw rfl)) rfl rfl rfl ?_
      refine o_call ((snd34 (onZ d s.size (s.data.toList.take i)) _ (by have := hsm.1; omega) (by have := hsm.2; omega)).det) goes34 (ac (v_raw rfl) ac_nil) rfl ?_
      refine o_q (q_cmul rfl cc2_3 (by first | assumption | exact ⟨by omega, by omega⟩) (by first | assumption | exact ⟨by omega, by omega⟩) (by first | assumption | exact ⟨by omega, by omega⟩) (by first | assumption | exact ⟨by omega, by omega⟩)) rfl rfl rfl ?_
      refine o_q (q_mv (v_raw rfl)) rfl rfl rfl ?_
      refine o_q (q_i2f und5 und54 rfl) rfl rfl rfl ?_
      refine o_q (q_fadd rfl fc1 (by omega)) rfl rfl rfl ?_
      refine o_q (q_complex rfl fc0) rfl rfl rfl ?_
      refine o_q (q_cadd rfl rfl (by omega) (by omega)) rfl rfl rfl ?_
      refine o_q (q_as (v_raw rfl)) rfl rfl rfl ?_
      refine o_nil ?_
      refine s_blk_normal ?_
      refine s_region ?_
      refine o_q (q_add rfl rfl (wrap64 (by omega) (by omega))) rfl rfl rfl ?_
      refine o_q (q_mv (v_raw rfl)) rfl rfl rfl ?_
      refine o_nil ?_
      refine s_inv ?_
      exact ⟨s.size - (i + 1), by omega, _, _, i + 1, St.mkT (kp (kp (kp (kp (kp (kp rfl (show _ = cxp (onZ d s.size (s.data.toList.take (i + 1))) by rw [onZ_succ d s.size s.data.toList (by omega)]; rfl)) rfl) rfl) rfl) rfl) rfl).symm, (by repeat first | exact hle | exact Mem.le_refl M | assumption | exact Mem.none_of_le hle (by assumption) | refine Mem.le_upd ?_ ?_), ⟨(by repeat first | exact Mem.upd_self _ _ _ | assumption | refine Mem.upd_ne (by assumption) ?_), (by repeat first | exact Mem.upd_self _ _ _ | assumption | refine Mem.upd_ne (by assumption) ?_)⟩, by omega, rfl⟩
    · have k2 := h2; try simp only [decide_eq_true_eq, decide_eq_false_iff_not, Bool.not_eq_true', Bool.not_eq_false', Bool.not_true, Bool.not_false, List.length_map, Decidable.not_not] at k2
      refine s_exit ?_
      refine s_code_exit ?_
      refine s_inv_exit ?_
      refine s_blk_here ?_
      refine s_seq ?_
      refine s_region ?_
      refine o_q (q_mv (v_raw rfl)) rfl rfl rfl ?_
      refine o_call ((snd35 (onZ d s.size (s.data.toList.take i)) _ (by have := hsm.1; omega) (by have := hsm.2; omega)).det) goes35 (ac (v_raw rfl) ac_nil) rfl ?_
      refine o_storew rfl (by repeat first | exact Mem.upd_self _ _ _ | assumption | refine Mem.upd_ne (by assumption) ?_) (by first | exact e_agg rfl | rfl) rfl sz23 rfl rfl rfl rfl ?_
      refine o_q (q_as (v_raw rfl)) rfl rfl rfl ?_
      refine o_nil ?_
      refine s_ret ?_
      refine s_end ?_
      obtain rfl : i = s.size := by omega
      exact ret_many (.inl rfl) rfl (rl_c rfl (by repeat first | exact Mem.upd_self _ _ _ | assumption | refine Mem.upd_ne (by assumption) ?_) (loadP_w ag23 sz23 rfl rfl) rfl (rl_t rfl rl_nil)) rfl ⟨by rw [hd]; unfold resP onP; rw [← hsl, List.take_length]; rfl, (by repeat first | exact hle | exact Mem.le_refl M | assumption | exact Mem.none_of_le hle (by assumption) | refine Mem.le_upd ?_ ?_)⟩

def tk28 : Nat → Nat → Option Nat := fun _ _ => none
def pl28 : Nat → List PStep
  | 4 => [.q 0, .q 1, .q 5, .s 2 [5, 0], .q 3, .s 4 [5, 1, 0], .s 6 [3, 1, 0], .q 7, .s 8 [3, 5, 1, 0], .s 9 [], .q 10]
  | _ => []
theorem cb28 : Try.f28.body.map (codeB Try.prog Try.f28.ntmps tk28 pl28) = some true := by kernel_rfl
theorem goes28 : goesB Try.prog 28 = true := by kernel_rfl
-- carillon/gauss.Join params ['api.Pair', 'api.Pair', 'int'] results [['cell', 6, 23], ['t', 7]] own [] names ['0:d', '1:e', '2:n', '3:d', '4:e', '5:n', '8:z'] calls [23, 33, 34, 35, 41] paths 4

def joinP (d e : Pr) (n : Nat) : Pr := md (addZ (md (mulZ (md (subZ d ⟨1, 0⟩)) (pw ⟨2, 3⟩ n))) e)
theorem g_right : right ⟨2, 3⟩ = true := by decide
theorem snd41g (n : Int) (M : Mem) (h0 : 0 ≤ n) (hn : n < 2 ^ 63) : SoundCall Try.prog 41 [.raw (.complex .f64 4611686018427387904 4613937818241073152), int n] M fun r M' => r = cxp (pw ⟨2, 3⟩ n.toNat) ∧ M' = M := by
  have h := snd41i ⟨2, 3⟩ n M g_right h0 hn
  rw [show (AVal.raw (.complex .f64 4611686018427387904 4613937818241073152)) = cxp ⟨2, 3⟩ from cc2_3]
  exact h
theorem snd34r (z : Pr) (M : Mem) (h1 : z.re.natAbs < 2 ^ 52) (h2 : z.im.natAbs < 2 ^ 52) : SoundCall Try.prog 34 [cxp z] M fun r M' => r = cxp (md z) ∧ M' = M := (snd34 z M h1 h2).det
theorem snd35m (z : Pr) (M : Mem) (h1 : z.re.natAbs < 2 ^ 52) (h2 : z.im.natAbs < 2 ^ 52) : SoundCall Try.prog 35 [cxp z] M fun r M' => r = encP (md z) ∧ M' = M := (snd35 z M h1 h2).det
theorem snd28 (d e : Pr) (n : Int) (M : Mem) (hn : n < 2 ^ 63) : SoundCall Try.prog 28 [encP d, encP e, int n] M fun r M' => r = resP (right d && right e && decide (0 ≤ n)) (joinP d e n.toNat) ∧ M.le M' := by
  refine SoundCall.go tk28 pl28 mixed Try.func28 cb28 rfl (Nat.le_of_ble_eq_true rfl) ?_
  refine s_seq ?_
  refine s_region ?_
  refine o_box (by first | exact e_raw rfl | exact e_agg rfl | exact e_sl rfl) rfl rfl (fun B1 hB1 => ?_)
  have m1 : M B1 = none := by have h := hB1; repeat (first | exact h | replace h := (Mem.upd_none h).2)
  refine o_box (by first | exact e_raw rfl | exact e_agg rfl | exact e_sl rfl) rfl rfl (fun B2 hB2 => ?_)
  have f1_2 : B1 ≠ B2 := Mem.fresh_ne hB2 (by repeat first | exact Mem.upd_self _ _ _ | assumption | refine Mem.upd_ne (by assumption) ?_)
  have g2_1 : B2 ≠ B1 := f1_2.symm
  have m2 : M B2 = none := by have h := hB2; repeat (first | exact h | replace h := (Mem.upd_none h).2)
  refine o_alloc zc23 (fun B3 hB3 => ?_)
  have f1_3 : B1 ≠ B3 := Mem.fresh_ne hB3 (by repeat first | exact Mem.upd_self _ _ _ | assumption | refine Mem.upd_ne (by assumption) ?_)
  have g3_1 : B3 ≠ B1 := f1_3.symm
  have f2_3 : B2 ≠ B3 := Mem.fresh_ne hB3 (by repeat first | exact Mem.upd_self _ _ _ | assumption | refine Mem.upd_ne (by assumption) ?_)
  have g3_2 : B3 ≠ B2 := f2_3.symm
  have m3 : M B3 = none := by have h := hB3; repeat (first | exact h | replace h := (Mem.upd_none h).2)
  refine o_q (q_as (v_raw rfl)) rfl rfl rfl ?_
  refine o_nil ?_
  refine s_seq ?_
  refine s_seq ?_
  refine s_region ?_
  refine o_q (q_ldmw ag23 sz23 rfl (by repeat first | exact Mem.upd_self _ _ _ | assumption | refine Mem.upd_ne (by assumption) ?_) rfl rfl) rfl rfl rfl ?_
  refine o_call ((snd23 d _).det) goes23 (ac (v_agg rfl) ac_nil) rfl ?_
  refine o_q (q_not rfl) rfl rfl rfl ?_
  refine o_q (q_mv (v_raw rfl)) rfl rfl rfl ?_
  refine o_cases (want := false) (j := 3) rfl rfl (fun h1 => ?_) (fun h1 => ?_)
  · have k1 := h1; try simp only [decide_eq_true_eq, decide_eq_false_iff_not, Bool.not_eq_true', Bool.not_eq_false', Bool.not_true, Bool.not_false, List.length_map, Decidable.not_not] at k1
    refine o_yes rfl rfl rfl h1 ?_
    refine o_q (q_ldmw ag23 sz23 rfl (by repeat first | exact Mem.upd_self _ _ _ | assumption | refine Mem.upd_ne (by assumption) ?_) rfl rfl) rfl rfl rfl ?_
    refine o_yes rfl rfl rfl h1 ?_
    refine o_call ((snd23 e _).det) goes23 (ac (v_agg rfl) ac_nil) rfl ?_
    refine o_yes rfl rfl rfl h1 ?_
    refine o_q (q_not rfl) rfl rfl rfl ?_
    refine o_q (q_pick_c (t := false) rfl h1 (v_raw rfl)) rfl rfl rfl ?_
    refine o_q (q_mv (v_raw rfl)) rfl rfl rfl ?_
    refine o_cases (want := false) (j := 8) rfl rfl (fun h2 => ?_) (fun h2 => ?_)
    · have k2 := h2; try simp only [decide_eq_true_eq, decide_eq_false_iff_not, Bool.not_eq_true', Bool.not_eq_false', Bool.not_true, Bool.not_false, List.length_map, Decidable.not_not] at k2
      refine o_yes rfl rfl rfl h2 ?_
      refine o_q (q_mv (v_raw rfl)) rfl rfl rfl ?_
      refine o_yes rfl rfl rfl h2 ?_
      refine o_q (q_lss rfl rfl) rfl rfl rfl ?_
      refine o_q (q_pick_c (t := false) rfl h2 (v_raw rfl)) rfl rfl rfl ?_
      refine o_nil ?_
      refine s_cond rfl (fun h3 => ?_) (fun h3 => ?_)
      · have k3 := h3; try simp only [decide_eq_true_eq, decide_eq_false_iff_not, Bool.not_eq_true', Bool.not_eq_false', Bool.not_true, Bool.not_false, List.length_map, Decidable.not_not] at k3
        refine s_seq ?_
        refine s_region ?_
        refine o_q (q_b (cs := [.raw (.int .i64 0), .raw (.int .i64 0)]) bz23 bp23 bf_nil) rfl rfl rfl ?_
        refine o_storew rfl (by repeat first | exact Mem.upd_self _ _ _ | assumption | refine Mem.upd_ne (by assumption) ?_) (by first | exact e_agg rfl | rfl) rfl sz23 rfl rfl rfl rfl ?_
        refine o_q (q_as (v_raw rfl)) rfl rfl rfl ?_
        refine o_nil ?_
        refine s_ret ?_
        refine s_code_ret ?_
        refine s_end ?_
        exact ret_many (.inl rfl) rfl (rl_c rfl (by repeat first | exact Mem.upd_self _ _ _ | assumption | refine Mem.upd_ne (by assumption) ?_) (loadP_w ag23 sz23 rfl rfl) rfl (rl_t rfl rl_nil)) rfl ⟨by rw [show (right d && right e && decide (0 ≤ n)) = false by simp_all]; rfl, (by repeat first | exact hle | exact Mem.le_refl M | assumption | exact Mem.none_of_le hle (by assumption) | refine Mem.le_upd ?_ ?_)⟩
      · have k3 := h3; try simp only [decide_eq_true_eq, decide_eq_false_iff_not, Bool.not_eq_true', Bool.not_eq_false', Bool.not_true, Bool.not_false, List.length_map, Decidable.not_not] at k3
        have hd : right d = true := by simpa using h1
        have he : right e = true := by simpa using h2
        have hn0 : 0 ≤ n := by simpa using h3
        have rd := right_spec.1 hd
        have y1 := z_bound (md (subZ d ⟨1, 0⟩)) (pw ⟨2, 3⟩ n.toNat) (md_right _) (pw_right _ _)
        have y2 := z_bound (md (mulZ (md (subZ d ⟨1, 0⟩)) (pw ⟨2, 3⟩ n.toNat))) e (md_right _) he
        have y3 := z_bound d ⟨1, 0⟩ hd one_right
        have r1 := right_spec.1 (md_right (subZ d ⟨1, 0⟩))
        have r2 := right_spec.1 (pw_right ⟨2, 3⟩ n.toNat)
        have r3 := right_spec.1 (md_right (mulZ (md (subZ d ⟨1, 0⟩)) (pw ⟨2, 3⟩ n.toNat)))
        have r4 := right_spec.1 he
        have v1 := low_of r1.1 r1.2.1
        have v2 := low_of r1.2.2.1 r1.2.2.2
        have v3 := low_of r2.1 r2.2.1
        have v4 := low_of r2.2.2.1 r2.2.2.2
        refine s_skip ?_
        refine s_seq ?_
        refine s_region ?_
        refine o_q (q_ldmw ag23 sz23 rfl (by repeat first | exact Mem.upd_self _ _ _ | assumption | refine Mem.upd_ne (by assumption) ?_) rfl rfl) rfl rfl rfl ?_
        refine o_call ((snd33 d _).det) goes33 (ac (v_agg rfl) ac_nil) rfl ?_
        refine o_q (q_csub rfl cc1_0 (by omega) (by omega)) rfl rfl rfl ?_
        refine o_call (snd34r (subZ d ⟨1, 0⟩) _ y3.2.2.1 y3.2.2.2) goes34 (ac (v_raw rfl) ac_nil) rfl ?_
        refine o_q (q_as (v_raw rfl)) rfl rfl rfl ?_
        refine o_nil ?_
        refine s_seq ?_
        refine s_draw rfl ?_
        refine d_q rfl (q_mv (v_raw rfl)) rfl rfl rfl ?_
        refine d_q rfl (q_mv (v_raw rfl)) rfl rfl rfl ?_
        refine d_q rfl (q_ldmw ag23 sz23 rfl (by repeat first | exact Mem.upd_self _ _ _ | assumption | refine Mem.upd_ne (by assumption) ?_) rfl rfl) rfl rfl rfl ?_
        refine d_s rfl ?_
        refine o_call (snd41g n _ hn0 hn) goes41 (ac (v_raw rfl) (ac (v_raw rfl) ac_nil)) rfl ?_
        refine o_nil ⟨(by simp [Mem.upd, *]), ?_⟩
        refine d_q rfl (q_cmul rfl rfl (by first | assumption | exact ⟨by omega, by omega⟩) (by first | assumption | exact ⟨by omega, by omega⟩) (by first | assumption | exact ⟨by omega, by omega⟩) (by first | assumption | exact ⟨by omega, by omega⟩)) rfl rfl rfl ?_
        refine d_s rfl ?_
        refine o_call (snd34r (mulZ (md (subZ d ⟨1, 0⟩)) (pw ⟨2, 3⟩ n.toNat)) _ y1.1.1 y1.1.2) goes34 (ac (v_raw rfl) ac_nil) rfl ?_
        refine o_nil ⟨(by simp [Mem.upd, *]), ?_⟩
        refine d_s rfl ?_
        refine o_call ((snd33 e _).det) goes33 (ac (v_agg rfl) ac_nil) rfl ?_
        refine o_nil ⟨(by simp [Mem.upd, *]), ?_⟩
        refine d_q rfl (q_cadd rfl rfl (by omega) (by omega)) rfl rfl rfl ?_
        refine d_s rfl ?_
        refine o_call (snd35m (addZ (md (mulZ (md (subZ d ⟨1, 0⟩)) (pw ⟨2, 3⟩ n.toNat))) e) _ y2.2.1.1 y2.2.1.2) goes35 (ac (v_raw rfl) ac_nil) rfl ?_
        refine o_nil ⟨(by simp [Mem.upd, *]), ?_⟩
        refine d_s rfl ?_
        refine o_storew rfl (by repeat first | exact Mem.upd_self _ _ _ | assumption | refine Mem.upd_ne (by assumption) ?_) (by first | exact e_agg rfl | rfl) rfl sz23 rfl rfl rfl rfl ?_
        refine o_nil ⟨(by simp [Mem.upd, *]), ?_⟩
        refine d_q rfl (q_as (v_raw rfl)) rfl rfl rfl ?_
        refine d_nil ?_
        refine s_ret ?_
        refine s_end ?_
        exact ret_many (.inl rfl) rfl (rl_c rfl (by repeat first | exact Mem.upd_self _ _ _ | assumption | refine Mem.upd_ne (by assumption) ?_) (loadP_w ag23 sz23 rfl rfl) rfl (rl_t rfl rl_nil)) rfl ⟨by rw [show (right d && right e && decide (0 ≤ n)) = true by simp_all]; rfl, (by repeat first | exact hle | exact Mem.le_refl M | assumption | exact Mem.none_of_le hle (by assumption) | refine Mem.le_upd ?_ ?_)⟩
    · have k2 := h2; try simp only [decide_eq_true_eq, decide_eq_false_iff_not, Bool.not_eq_true', Bool.not_eq_false', Bool.not_true, Bool.not_false, List.length_map, Decidable.not_not] at k2
      refine o_no rfl rfl rfl rfl h2 ?_
      refine o_no rfl rfl rfl rfl h2 ?_
      refine o_q (q_pick_c (t := true) rfl h2 (v_raw rfl)) rfl rfl rfl ?_
      refine o_nil ?_
      refine s_then rfl rfl ?_
      refine s_seq ?_
      refine s_region ?_
      refine o_q (q_b (cs := [.raw (.int .i64 0), .raw (.int .i64 0)]) bz23 bp23 bf_nil) rfl rfl rfl ?_
      refine o_storew rfl (by repeat first | exact Mem.upd_self _ _ _ | assumption | refine Mem.upd_ne (by assumption) ?_) (by first | exact e_agg rfl | rfl) rfl sz23 rfl rfl rfl rfl ?_
      refine o_q (q_as (v_raw rfl)) rfl rfl rfl ?_
      refine o_nil ?_
      refine s_ret ?_
      refine s_code_ret ?_
      refine s_end ?_
      exact ret_many (.inl rfl) rfl (rl_c rfl (by repeat first | exact Mem.upd_self _ _ _ | assumption | refine Mem.upd_ne (by assumption) ?_) (loadP_w ag23 sz23 rfl rfl) rfl (rl_t rfl rl_nil)) rfl ⟨by rw [show (right d && right e && decide (0 ≤ n)) = false by simp_all]; rfl, (by repeat first | exact hle | exact Mem.le_refl M | assumption | exact Mem.none_of_le hle (by assumption) | refine Mem.le_upd ?_ ?_)⟩
  · have k1 := h1; try simp only [decide_eq_true_eq, decide_eq_false_iff_not, Bool.not_eq_true', Bool.not_eq_false', Bool.not_true, Bool.not_false, List.length_map, Decidable.not_not] at k1
    refine o_no rfl rfl rfl rfl h1 ?_
    refine o_no rfl rfl rfl rfl h1 ?_
    refine o_no rfl rfl rfl rfl h1 ?_
    refine o_q (q_pick_c (t := true) rfl h1 (v_raw rfl)) rfl rfl rfl ?_
    refine o_q (q_mv (v_raw rfl)) rfl rfl rfl ?_
    refine o_no rfl rfl rfl rfl rfl ?_
    refine o_no rfl rfl rfl rfl rfl ?_
    refine o_q (q_pick_c (t := true) rfl rfl (v_raw rfl)) rfl rfl rfl ?_
    refine o_nil ?_
    refine s_then rfl rfl ?_
    refine s_seq ?_
    refine s_region ?_
    refine o_q (q_b (cs := [.raw (.int .i64 0), .raw (.int .i64 0)]) bz23 bp23 bf_nil) rfl rfl rfl ?_
    refine o_storew rfl (by repeat first | exact Mem.upd_self _ _ _ | assumption | refine Mem.upd_ne (by assumption) ?_) (by first | exact e_agg rfl | rfl) rfl sz23 rfl rfl rfl rfl ?_
    refine o_q (q_as (v_raw rfl)) rfl rfl rfl ?_
    refine o_nil ?_
    refine s_ret ?_
    refine s_code_ret ?_
    refine s_end ?_
    exact ret_many (.inl rfl) rfl (rl_c rfl (by repeat first | exact Mem.upd_self _ _ _ | assumption | refine Mem.upd_ne (by assumption) ?_) (loadP_w ag23 sz23 rfl rfl) rfl (rl_t rfl rl_nil)) rfl ⟨by rw [show (right d && right e && decide (0 ≤ n)) = false by simp_all]; rfl, (by repeat first | exact hle | exact Mem.le_refl M | assumption | exact Mem.none_of_le hle (by assumption) | refine Mem.le_upd ?_ ?_)⟩

def tk40 : Nat → Nat → Option Nat := fun _ _ => none
def pl40 : Nat → List PStep := fun _ => []
theorem cb40 : Try.f40.body.map (codeB Try.prog Try.f40.ntmps tk40 pl40) = some true := by kernel_rfl
theorem goes40 : goesB Try.prog 40 = true := by kernel_rfl
-- carillon/carillonref03.mod params ['int'] results [['t', 2]] own [] names ['0:n', '1:n'] calls [] paths 1
theorem snd40 (n : Int) (M : Mem) : SoundCall Try.prog 40 [int n] M fun r M' => r = int (n % 33554383) ∧ M.le M' := by
  have t1 : n.tmod 33554383 < 33554383 := Int.tmod_lt_of_pos n (by decide)
  have t2 : -33554383 < n.tmod 33554383 := by have := Int.tmod_lt_of_pos (-n) (b := 33554383) (by decide); rw [Int.neg_tmod] at this; omega
  have t3 := Int.mul_tdiv_add_tmod n 33554383
  refine SoundCall.go tk40 pl40 mixed Try.func40 cb40 rfl (Nat.le_of_ble_eq_true rfl) ?_
  refine s_seq ?_
  refine s_region ?_
  refine o_q (q_as (v_raw rfl)) rfl rfl rfl ?_
  refine o_nil ?_
  refine s_seq ?_
  refine s_region ?_
  refine o_q (q_mv (v_raw rfl)) rfl rfl rfl ?_
  refine o_q (q_rem rfl rfl (by decide)) rfl rfl rfl ?_
  refine o_q (q_add rfl rfl (wrap64 (by omega) (by omega))) rfl rfl rfl ?_
  refine o_q (q_rem rfl rfl (by decide)) rfl rfl rfl ?_
  refine o_q (q_as (v_raw rfl)) rfl rfl rfl ?_
  refine o_nil ?_
  refine s_ret ?_
  refine s_end ?_
  refine ⟨congrArg int (?_ : (n.tmod 33554383 + 33554383).tmod 33554383 = n % 33554383), (by repeat first | exact hle | exact Mem.le_refl M | assumption | exact Mem.none_of_le hle (by assumption) | refine Mem.le_upd ?_ ?_)⟩
  rw [Int.tmod_eq_emod_of_nonneg (by omega)]
  omega

def tk20 : Nat → Nat → Option Nat := fun _ _ => none
def pl20 : Nat → List PStep
  | 1 => [.q 0, .q 1, .q 2, .q 3, .q 4, .q 6, .q 7, .q 8, .q 9, .q 10, .s 5 [10, 9, 8, 7, 6, 3, 2, 1, 0], .s 11 [9, 8, 7, 6, 4, 3, 2, 1, 0], .q 12, .s 13 []]
  | _ => []
theorem cb20 : Try.f20.body.map (codeB Try.prog Try.f20.ntmps tk20 pl20) = some true := by kernel_rfl
theorem goes20 : goesB Try.prog 20 = true := by kernel_rfl
-- carillon/carillonref03.Add params ['api.Pair', 'api.Pair'] results [['cell', 4, 23]] own [] names ['0:a', '1:b', '2:a', '3:b'] calls [40] paths 1

def addW (x y : Pr) : Pr := ⟨IntKind.i64.wrap (x.re + y.re) % 33554383, IntKind.i64.wrap (x.im + y.im) % 33554383⟩
def subW (x y : Pr) : Pr := ⟨IntKind.i64.wrap (x.re - y.re) % 33554383, IntKind.i64.wrap (x.im - y.im) % 33554383⟩
theorem addW_eq {x y : Pr} (hx : right x = true) (h1 : -2 ^ 62 ≤ y.re ∧ y.re < 2 ^ 62) (h2 : -2 ^ 62 ≤ y.im ∧ y.im < 2 ^ 62) : addW x y = md (addZ x y) := by
  have rx := right_spec.1 hx
  unfold addW
  rw [wrap64 (by omega) (by omega), wrap64 (by omega) (by omega)]; rfl
theorem subW_eq {x y : Pr} (hx : right x = true) (hy : right y = true) : subW x y = md (subZ x y) := by
  have rx := right_spec.1 hx
  have ry := right_spec.1 hy
  unfold subW
  rw [wrap64 (by omega) (by omega), wrap64 (by omega) (by omega)]; rfl
theorem snd20 (x y : Pr) (M : Mem) : SoundCall Try.prog 20 [encP x, encP y] M fun r M' => r = encP (addW x y) ∧ M.le M' := by
  refine SoundCall.go tk20 pl20 mixed Try.func20 cb20 rfl (Nat.le_of_ble_eq_true rfl) ?_
  refine s_seq ?_
  refine s_region ?_
  refine o_box (by first | exact e_raw rfl | exact e_agg rfl | exact e_sl rfl) rfl rfl (fun B1 hB1 => ?_)
  have m1 : M B1 = none := by have h := hB1; repeat (first | exact h | replace h := (Mem.upd_none h).2)
  refine o_box (by first | exact e_raw rfl | exact e_agg rfl | exact e_sl rfl) rfl rfl (fun B2 hB2 => ?_)
  have f1_2 : B1 ≠ B2 := Mem.fresh_ne hB2 (by repeat first | exact Mem.upd_self _ _ _ | assumption | refine Mem.upd_ne (by assumption) ?_)
  have g2_1 : B2 ≠ B1 := f1_2.symm
  have m2 : M B2 = none := by have h := hB2; repeat (first | exact h | replace h := (Mem.upd_none h).2)
  refine o_alloc zc23 (fun B3 hB3 => ?_)
  have f1_3 : B1 ≠ B3 := Mem.fresh_ne hB3 (by repeat first | exact Mem.upd_self _ _ _ | assumption | refine Mem.upd_ne (by assumption) ?_)
  have g3_1 : B3 ≠ B1 := f1_3.symm
  have f2_3 : B2 ≠ B3 := Mem.fresh_ne hB3 (by repeat first | exact Mem.upd_self _ _ _ | assumption | refine Mem.upd_ne (by assumption) ?_)
  have g3_2 : B3 ≠ B2 := f2_3.symm
  have m3 : M B3 = none := by have h := hB3; repeat (first | exact h | replace h := (Mem.upd_none h).2)
  refine o_nil ?_
  refine s_seq ?_
  refine s_draw rfl ?_
  refine d_q rfl (q_fr fo23_0 rfl) rfl rfl rfl ?_
  refine d_q rfl (q_ldm ag3 sz3 rfl (by repeat first | exact Mem.upd_self _ _ _ | assumption | refine Mem.upd_ne (by assumption) ?_) rfl (v_raw rfl)) rfl rfl rfl ?_
  refine d_q rfl (q_fr fo23_0 rfl) rfl rfl rfl ?_
  refine d_q rfl (q_ldm ag3 sz3 rfl (by repeat first | exact Mem.upd_self _ _ _ | assumption | refine Mem.upd_ne (by assumption) ?_) rfl (v_raw rfl)) rfl rfl rfl ?_
  refine d_q rfl (q_addw rfl rfl) rfl rfl rfl ?_
  refine d_q rfl (q_fr fo23_1 rfl) rfl rfl rfl ?_
  refine d_q rfl (q_ldm ag3 sz3 rfl (by repeat first | exact Mem.upd_self _ _ _ | assumption | refine Mem.upd_ne (by assumption) ?_) rfl (v_raw rfl)) rfl rfl rfl ?_
  refine d_q rfl (q_fr fo23_1 rfl) rfl rfl rfl ?_
  refine d_q rfl (q_ldm ag3 sz3 rfl (by repeat first | exact Mem.upd_self _ _ _ | assumption | refine Mem.upd_ne (by assumption) ?_) rfl (v_raw rfl)) rfl rfl rfl ?_
  refine d_q rfl (q_addw rfl rfl) rfl rfl rfl ?_
  refine d_s rfl ?_
  refine o_call ((snd40 (IntKind.i64.wrap (x.re + y.re)) _).det) goes40 (ac (v_raw rfl) ac_nil) rfl ?_
  refine o_nil ⟨(by simp [Mem.upd, *]), ?_⟩
  refine d_s rfl ?_
  refine o_call ((snd40 (IntKind.i64.wrap (x.im + y.im)) _).det) goes40 (ac (v_raw rfl) ac_nil) rfl ?_
  refine o_nil ⟨(by simp [Mem.upd, *]), ?_⟩
  refine d_q rfl (q_b (cs := [_, _]) bz23 bp23 (bf fo23_0 (e_raw rfl) rfl rfl (Nat.le_of_ble_eq_true rfl) rfl (bf fo23_1 (e_raw rfl) rfl rfl (Nat.le_of_ble_eq_true rfl) rfl bf_nil))) rfl rfl rfl ?_
  refine d_s rfl ?_
  refine o_storew rfl (by repeat first | exact Mem.upd_self _ _ _ | assumption | refine Mem.upd_ne (by assumption) ?_) (by first | exact e_agg rfl | rfl) rfl sz23 rfl rfl rfl rfl ?_
  refine o_nil ⟨(by simp [Mem.upd, *]), ?_⟩
  refine d_nil ?_
  refine s_ret ?_
  refine s_end ?_
  exact ret_one (.inl rfl) rfl (rl_c rfl (by repeat first | exact Mem.upd_self _ _ _ | assumption | refine Mem.upd_ne (by assumption) ?_) (loadP_w ag23 sz23 rfl rfl) rfl rl_nil) ⟨rfl, (by repeat first | exact hle | exact Mem.le_refl M | assumption | exact Mem.none_of_le hle (by assumption) | refine Mem.le_upd ?_ ?_)⟩

def tk21 : Nat → Nat → Option Nat := fun _ _ => none
def pl21 : Nat → List PStep
  | 1 => [.q 0, .q 1, .q 2, .q 3, .q 4, .q 6, .q 7, .q 8, .q 9, .q 10, .s 5 [10, 9, 8, 7, 6, 3, 2, 1, 0], .s 11 [9, 8, 7, 6, 4, 3, 2, 1, 0], .q 12, .s 13 []]
  | _ => []
theorem cb21 : Try.f21.body.map (codeB Try.prog Try.f21.ntmps tk21 pl21) = some true := by kernel_rfl
theorem goes21 : goesB Try.prog 21 = true := by kernel_rfl
-- carillon/carillonref03.Sub params ['api.Pair', 'api.Pair'] results [['cell', 4, 23]] own [] names ['0:a', '1:b', '2:a', '3:b'] calls [40] paths 1
theorem snd21 (x y : Pr) (M : Mem) : SoundCall Try.prog 21 [encP x, encP y] M fun r M' => r = encP (subW x y) ∧ M.le M' := by
  refine SoundCall.go tk21 pl21 mixed Try.func21 cb21 rfl (Nat.le_of_ble_eq_true rfl) ?_
  refine s_seq ?_
  refine s_region ?_
  refine o_box (by first | exact e_raw rfl | exact e_agg rfl | exact e_sl rfl) rfl rfl (fun B1 hB1 => ?_)
  have m1 : M B1 = none := by have h := hB1; repeat (first | exact h | replace h := (Mem.upd_none h).2)
  refine o_box (by first | exact e_raw rfl | exact e_agg rfl | exact e_sl rfl) rfl rfl (fun B2 hB2 => ?_)
  have f1_2 : B1 ≠ B2 := Mem.fresh_ne hB2 (by repeat first | exact Mem.upd_self _ _ _ | assumption | refine Mem.upd_ne (by assumption) ?_)
  have g2_1 : B2 ≠ B1 := f1_2.symm
  have m2 : M B2 = none := by have h := hB2; repeat (first | exact h | replace h := (Mem.upd_none h).2)
  refine o_alloc zc23 (fun B3 hB3 => ?_)
  have f1_3 : B1 ≠ B3 := Mem.fresh_ne hB3 (by repeat first | exact Mem.upd_self _ _ _ | assumption | refine Mem.upd_ne (by assumption) ?_)
  have g3_1 : B3 ≠ B1 := f1_3.symm
  have f2_3 : B2 ≠ B3 := Mem.fresh_ne hB3 (by repeat first | exact Mem.upd_self _ _ _ | assumption | refine Mem.upd_ne (by assumption) ?_)
  have g3_2 : B3 ≠ B2 := f2_3.symm
  have m3 : M B3 = none := by have h := hB3; repeat (first | exact h | replace h := (Mem.upd_none h).2)
  refine o_nil ?_
  refine s_seq ?_
  refine s_draw rfl ?_
  refine d_q rfl (q_fr fo23_0 rfl) rfl rfl rfl ?_
  refine d_q rfl (q_ldm ag3 sz3 rfl (by repeat first | exact Mem.upd_self _ _ _ | assumption | refine Mem.upd_ne (by assumption) ?_) rfl (v_raw rfl)) rfl rfl rfl ?_
  refine d_q rfl (q_fr fo23_0 rfl) rfl rfl rfl ?_
  refine d_q rfl (q_ldm ag3 sz3 rfl (by repeat first | exact Mem.upd_self _ _ _ | assumption | refine Mem.upd_ne (by assumption) ?_) rfl (v_raw rfl)) rfl rfl rfl ?_
  refine d_q rfl (q_subw rfl rfl) rfl rfl rfl ?_
  refine d_q rfl (q_fr fo23_1 rfl) rfl rfl rfl ?_
  refine d_q rfl (q_ldm ag3 sz3 rfl (by repeat first | exact Mem.upd_self _ _ _ | assumption | refine Mem.upd_ne (by assumption) ?_) rfl (v_raw rfl)) rfl rfl rfl ?_
  refine d_q rfl (q_fr fo23_1 rfl) rfl rfl rfl ?_
  refine d_q rfl (q_ldm ag3 sz3 rfl (by repeat first | exact Mem.upd_self _ _ _ | assumption | refine Mem.upd_ne (by assumption) ?_) rfl (v_raw rfl)) rfl rfl rfl ?_
  refine d_q rfl (q_subw rfl rfl) rfl rfl rfl ?_
  refine d_s rfl ?_
  refine o_call ((snd40 (IntKind.i64.wrap (x.re - y.re)) _).det) goes40 (ac (v_raw rfl) ac_nil) rfl ?_
  refine o_nil ⟨(by simp [Mem.upd, *]), ?_⟩
  refine d_s rfl ?_
  refine o_call ((snd40 (IntKind.i64.wrap (x.im - y.im)) _).det) goes40 (ac (v_raw rfl) ac_nil) rfl ?_
  refine o_nil ⟨(by simp [Mem.upd, *]), ?_⟩
  refine d_q rfl (q_b (cs := [_, _]) bz23 bp23 (bf fo23_0 (e_raw rfl) rfl rfl (Nat.le_of_ble_eq_true rfl) rfl (bf fo23_1 (e_raw rfl) rfl rfl (Nat.le_of_ble_eq_true rfl) rfl bf_nil))) rfl rfl rfl ?_
  refine d_s rfl ?_
  refine o_storew rfl (by repeat first | exact Mem.upd_self _ _ _ | assumption | refine Mem.upd_ne (by assumption) ?_) (by first | exact e_agg rfl | rfl) rfl sz23 rfl rfl rfl rfl ?_
  refine o_nil ⟨(by simp [Mem.upd, *]), ?_⟩
  refine d_nil ?_
  refine s_ret ?_
  refine s_end ?_
  exact ret_one (.inl rfl) rfl (rl_c rfl (by repeat first | exact Mem.upd_self _ _ _ | assumption | refine Mem.upd_ne (by assumption) ?_) (loadP_w ag23 sz23 rfl rfl) rfl rl_nil) ⟨rfl, (by repeat first | exact hle | exact Mem.le_refl M | assumption | exact Mem.none_of_le hle (by assumption) | refine Mem.le_upd ?_ ?_)⟩

def tk22 : Nat → Nat → Option Nat := fun _ _ => none
def pl22 : Nat → List PStep
  | 1 => [.q 0, .q 1, .q 2, .q 3, .q 4, .q 5, .q 6, .q 7, .q 8, .q 9, .q 10, .q 12, .q 13, .q 14, .q 15, .q 16, .q 17, .q 18, .q 19, .q 20, .q 21, .q 22, .s 11 [22, 21, 20, 19, 18, 17, 16, 15, 14, 13, 12, 9, 8, 7, 6, 5, 4, 3, 2, 1, 0], .s 23 [21, 20, 19, 18, 17, 16, 15, 14, 13, 12, 10, 9, 8, 7, 6, 5, 4, 3, 2, 1, 0], .q 24, .s 25 []]
  | _ => []
theorem cb22 : Try.f22.body.map (codeB Try.prog Try.f22.ntmps tk22 pl22) = some true := by kernel_rfl
theorem goes22 : goesB Try.prog 22 = true := by kernel_rfl
-- carillon/carillonref03.Mul params ['api.Pair', 'api.Pair'] results [['cell', 4, 23]] own [] names ['0:a', '1:b', '2:a', '3:b'] calls [40] paths 1
theorem snd22 (x y : Pr) (M : Mem) (hx : right x = true) (hy : right y = true) : SoundCall Try.prog 22 [encP x, encP y] M fun r M' => r = encP (mulP x y) ∧ M.le M' := by
  have rx := right_spec.1 hx
  have ry := right_spec.1 hy
  have b1 := mul_bound' rx.1 rx.2.1 ry.1 ry.2.1
  have b2 := mul_bound' rx.2.2.1 rx.2.2.2 ry.2.2.1 ry.2.2.2
  have b3 := mul_bound' rx.1 rx.2.1 ry.2.2.1 ry.2.2.2
  have b4 := mul_bound' rx.2.2.1 rx.2.2.2 ry.1 ry.2.1
  refine SoundCall.go tk22 pl22 mixed Try.func22 cb22 rfl (Nat.le_of_ble_eq_true rfl) ?_
  refine s_seq ?_
  refine s_region ?_
  refine o_box (by first | exact e_raw rfl | exact e_agg rfl | exact e_sl rfl) rfl rfl (fun B1 hB1 => ?_)
  have m1 : M B1 = none := by have h := hB1; repeat (first | exact h | replace h := (Mem.upd_none h).2)
  refine o_box (by first | exact e_raw rfl | exact e_agg rfl | exact e_sl rfl) rfl rfl (fun B2 hB2 => ?_)
  have f1_2 : B1 ≠ B2 := Mem.fresh_ne hB2 (by repeat first | exact Mem.upd_self _ _ _ | assumption | refine Mem.upd_ne (by assumption) ?_)
  have g2_1 : B2 ≠ B1 := f1_2.symm
  have m2 : M B2 = none := by have h := hB2; repeat (first | exact h | replace h := (Mem.upd_none h).2)
  refine o_alloc zc23 (fun B3 hB3 => ?_)
  have f1_3 : B1 ≠ B3 := Mem.fresh_ne hB3 (by repeat first | exact Mem.upd_self _ _ _ | assumption | refine Mem.upd_ne (by assumption) ?_)
  have g3_1 : B3 ≠ B1 := f1_3.symm
  have f2_3 : B2 ≠ B3 := Mem.fresh_ne hB3 (by repeat first | exact Mem.upd_self _ _ _ | assumption | refine Mem.upd_ne (by assumption) ?_)
  have g3_2 : B3 ≠ B2 := f2_3.symm
  have m3 : M B3 = none := by have h := hB3; repeat (first | exact h | replace h := (Mem.upd_none h).2)
  refine o_nil ?_
  refine s_seq ?_
  refine s_draw rfl ?_
  refine d_q rfl (q_fr fo23_0 rfl) rfl rfl rfl ?_
  refine d_q rfl (q_ldm ag3 sz3 rfl (by repeat first | exact Mem.upd_self _ _ _ | assumption | refine Mem.upd_ne (by assumption) ?_) rfl (v_raw rfl)) rfl rfl rfl ?_
  refine d_q rfl (q_fr fo23_0 rfl) rfl rfl rfl ?_
  refine d_q rfl (q_ldm ag3 sz3 rfl (by repeat first | exact Mem.upd_self _ _ _ | assumption | refine Mem.upd_ne (by assumption) ?_) rfl (v_raw rfl)) rfl rfl rfl ?_
  refine d_q rfl (q_mul rfl rfl (wrap64 (by omega) (by omega))) rfl rfl rfl ?_
  refine d_q rfl (q_fr fo23_1 rfl) rfl rfl rfl ?_
  refine d_q rfl (q_ldm ag3 sz3 rfl (by repeat first | exact Mem.upd_self _ _ _ | assumption | refine Mem.upd_ne (by assumption) ?_) rfl (v_raw rfl)) rfl rfl rfl ?_
  refine d_q rfl (q_fr fo23_1 rfl) rfl rfl rfl ?_
  refine d_q rfl (q_ldm ag3 sz3 rfl (by repeat first | exact Mem.upd_self _ _ _ | assumption | refine Mem.upd_ne (by assumption) ?_) rfl (v_raw rfl)) rfl rfl rfl ?_
  refine d_q rfl (q_mul rfl rfl (wrap64 (by omega) (by omega))) rfl rfl rfl ?_
  refine d_q rfl (q_sub rfl rfl (wrap64 (by omega) (by omega))) rfl rfl rfl ?_
  refine d_q rfl (q_fr fo23_0 rfl) rfl rfl rfl ?_
  refine d_q rfl (q_ldm ag3 sz3 rfl (by repeat first | exact Mem.upd_self _ _ _ | assumption | refine Mem.upd_ne (by assumption) ?_) rfl (v_raw rfl)) rfl rfl rfl ?_
  refine d_q rfl (q_fr fo23_1 rfl) rfl rfl rfl ?_
  refine d_q rfl (q_ldm ag3 sz3 rfl (by repeat first | exact Mem.upd_self _ _ _ | assumption | refine Mem.upd_ne (by assumption) ?_) rfl (v_raw rfl)) rfl rfl rfl ?_
  refine d_q rfl (q_mul rfl rfl (wrap64 (by omega) (by omega))) rfl rfl rfl ?_
  refine d_q rfl (q_fr fo23_1 rfl) rfl rfl rfl ?_
  refine d_q rfl (q_ldm ag3 sz3 rfl (by repeat first | exact Mem.upd_self _ _ _ | assumption | refine Mem.upd_ne (by assumption) ?_) rfl (v_raw rfl)) rfl rfl rfl ?_
  refine d_q rfl (q_fr fo23_0 rfl) rfl rfl rfl ?_
  refine d_q rfl (q_ldm ag3 sz3 rfl (by repeat first | exact Mem.upd_self _ _ _ | assumption | refine Mem.upd_ne (by assumption) ?_) rfl (v_raw rfl)) rfl rfl rfl ?_
  refine d_q rfl (q_mul rfl rfl (wrap64 (by omega) (by omega))) rfl rfl rfl ?_
  refine d_q rfl (q_add rfl rfl (wrap64 (by omega) (by omega))) rfl rfl rfl ?_
  refine d_s rfl ?_
  refine o_call ((snd40 (mulZ x y).re _).det) goes40 (ac (v_raw rfl) ac_nil) rfl ?_
  refine o_nil ⟨(by simp [Mem.upd, *]), ?_⟩
  refine d_s rfl ?_
  refine o_call ((snd40 (mulZ x y).im _).det) goes40 (ac (v_raw rfl) ac_nil) rfl ?_
  refine o_nil ⟨(by simp [Mem.upd, *]), ?_⟩
  refine d_q rfl (q_b (cs := [_, _]) bz23 bp23 (bf fo23_0 (e_raw rfl) rfl rfl (Nat.le_of_ble_eq_true rfl) rfl (bf fo23_1 (e_raw rfl) rfl rfl (Nat.le_of_ble_eq_true rfl) rfl bf_nil))) rfl rfl rfl ?_
  refine d_s rfl ?_
  refine o_storew rfl (by repeat first | exact Mem.upd_self _ _ _ | assumption | refine Mem.upd_ne (by assumption) ?_) (by first | exact e_agg rfl | rfl) rfl sz23 rfl rfl rfl rfl ?_
  refine o_nil ⟨(by simp [Mem.upd, *]), ?_⟩
  refine d_nil ?_
  refine s_ret ?_
  refine s_end ?_
  exact ret_one (.inl rfl) rfl (rl_c rfl (by repeat first | exact Mem.upd_self _ _ _ | assumption | refine Mem.upd_ne (by assumption) ?_) (loadP_w ag23 sz23 rfl rfl) rfl rl_nil) ⟨rfl, (by repeat first | exact hle | exact Mem.le_refl M | assumption | exact Mem.none_of_le hle (by assumption) | refine Mem.le_upd ?_ ?_)⟩

def tk27 : Nat → Nat → Option Nat := fun _ _ => none
def pl27 : Nat → List PStep := fun _ => []
theorem cb27 : Try.f27.body.map (codeB Try.prog Try.f27.ntmps tk27 pl27) = some true := by kernel_rfl
theorem goes27 : goesB Try.prog 27 = true := by kernel_rfl
-- carillon/carillonref03.Pow params ['api.Pair', 'int'] results [['cell', 4, 23]] own [] names ['0:a', '1:n', '2:a', '3:n', '5:out'] calls [22] paths 3
theorem snd27 (z : Pr) (n : Nat) (M : Mem) (hz : right z = true) (hn : n < 2 ^ 63) : SoundCall Try.prog 27 [encP z, int n] M fun r M' => r = encP (pw z n) ∧ M.le M' := by
  refine SoundCall.go tk27 pl27 mixed Try.func27 cb27 rfl (Nat.le_of_ble_eq_true rfl) ?_
  refine s_seq ?_
  refine s_region ?_
  refine o_box (by first | exact e_raw rfl | exact e_agg rfl | exact e_sl rfl) rfl rfl (fun B1 hB1 => ?_)
  have m1 : M B1 = none := by have h := hB1; repeat (first | exact h | replace h := (Mem.upd_none h).2)
  refine o_alloc zc23 (fun B2 hB2 => ?_)
  have f1_2 : B1 ≠ B2 := Mem.fresh_ne hB2 (by repeat first | exact Mem.upd_self _ _ _ | assumption | refine Mem.upd_ne (by assumption) ?_)
  have g2_1 : B2 ≠ B1 := f1_2.symm
  have m2 : M B2 = none := by have h := hB2; repeat (first | exact h | replace h := (Mem.upd_none h).2)
  refine o_nil ?_
  refine s_seq ?_
  refine s_region ?_
  refine o_q (q_b (cs := [_, .raw (.int .i64 0)]) bz23 bp23 (bf fo23_0 (e_raw rfl) rfl rfl (Nat.le_of_ble_eq_true rfl) rfl bf_nil)) rfl rfl rfl ?_
  refine o_alloc zc23 (fun B3 hB3 => ?_)
  have f1_3 : B1 ≠ B3 := Mem.fresh_ne hB3 (by repeat first | exact Mem.upd_self _ _ _ | assumption | refine Mem.upd_ne (by assumption) ?_)
  have g3_1 : B3 ≠ B1 := f1_3.symm
  have f2_3 : B2 ≠ B3 := Mem.fresh_ne hB3 (by repeat first | exact Mem.upd_self _ _ _ | assumption | refine Mem.upd_ne (by assumption) ?_)
  have g3_2 : B3 ≠ B2 := f2_3.symm
  have m3 : M B3 = none := by have h := hB3; repeat (first | exact h | replace h := (Mem.upd_none h).2)
  refine o_storew rfl (by repeat first | exact Mem.upd_self _ _ _ | assumption | refine Mem.upd_ne (by assumption) ?_) (by first | exact e_agg rfl | rfl) rfl sz23 rfl rfl rfl rfl ?_
  refine o_nil ?_
  refine s_seq ?_
  refine s_block ?_
  refine s_loop (fun m S => ∃ T, ∃ M' : Mem, ∃ z' out : Pr, ∃ k : Nat, S = ⟨setT (setT (setT (setT T 1 (int (k : Nat))) 2 (ptr B1)) 4 (ptr B2)) 5 (ptr B3), M'⟩ ∧ M.le M' ∧ (M' B1 = some (.cells (encP z').cells) ∧ M' B3 = some (.cells (encP out).cells) ∧ M' B2 = some (.cells [int 0, int 0])) ∧ right z' = true ∧ right out = true ∧ k < 2 ^ m ∧ m < 64 ∧ pwF m out z' k = pw z n) 63 ?_ ?_
  · exact ⟨_, _, z, ⟨1, 0⟩, n, St.mkT (kp (kp (kp (kp rfl rfl) rfl) rfl) rfl).symm, (by repeat first | exact hle | exact Mem.le_refl M | assumption | exact Mem.none_of_le hle (by assumption) | refine Mem.le_upd ?_ ?_), ⟨(by repeat first | exact Mem.upd_self _ _ _ | assumption | refine Mem.upd_ne (by assumption) ?_), (by repeat first | exact Mem.upd_self _ _ _ | assumption | refine Mem.upd_ne (by assumption) ?_), (by repeat first | exact Mem.upd_self _ _ _ | assumption | refine Mem.upd_ne (by assumption) ?_)⟩, hz, one_right, hn, by omega, rfl⟩
  rintro m S ⟨T, M', z', out, k, rfl, hle, ⟨c1, c3, c2⟩, hz, ho, hk, hm, hpw⟩
  have hk63 : k < 2 ^ 63 := Nat.lt_of_lt_of_le hk (Nat.pow_le_pow_right (by decide) (by omega))
  have kt := Int.tmod_eq_emod_of_nonneg (b := 2) (show (0 : Int) ≤ (k : Int) by omega)
  have kq := Int.tdiv_eq_ediv_of_nonneg (b := 2) (show (0 : Int) ≤ (k : Int) by omega)
  refine s_seq ?_
  refine s_seq ?_
  refine s_region ?_
  refine o_q (q_mv (v_raw rfl)) rfl rfl rfl ?_
  refine o_q (q_gtr rfl rfl) rfl rfl rfl ?_
  refine o_nil ?_
  refine s_cond rfl (fun h1 => ?_) (fun h1 => ?_)
  · have k1 := h1; try simp only [decide_eq_true_eq, decide_eq_false_iff_not, Bool.not_eq_true', Bool.not_eq_false', Bool.not_true, Bool.not_false, List.length_map, Decidable.not_not] at k1
    obtain ⟨m', rfl⟩ : ∃ m', m = m' + 1 := by
      cases m with
      | zero => simp at hk; omega
      | succ m' => exact ⟨m', rfl⟩
    refine s_skip ?_
    refine s_block ?_
    refine s_seq ?_
    refine s_seq ?_
    refine s_region ?_
    refine o_q (q_mv (v_raw rfl)) rfl rfl rfl ?_
    refine o_q (q_rem rfl rfl (by decide)) rfl rfl rfl ?_
    refine o_q (q_eql rfl rfl) rfl rfl rfl ?_
    refine o_nil ?_
    refine s_cond rfl (fun h2 => ?_) (fun h2 => ?_)
    · have k2 := h2; try simp only [decide_eq_true_eq, decide_eq_false_iff_not, Bool.not_eq_true', Bool.not_eq_false', Bool.not_true, Bool.not_false, List.length_map, Decidable.not_not] at k2
      refine s_region ?_
      refine o_q (q_ldmw ag23 sz23 rfl (by repeat first | exact Mem.upd_self _ _ _ | assumption | refine Mem.upd_ne (by assumption) ?_) rfl rfl) rfl rfl rfl ?_
      refine o_q (q_ldmw ag23 sz23 rfl (by repeat first | exact Mem.upd_self _ _ _ | assumption | refine Mem.upd_ne (by assumption) ?_) rfl rfl) rfl rfl rfl ?_
      refine o_call ((snd22 out z' _ ho hz).det) goes22 (ac (v_agg rfl) (ac (v_agg rfl) ac_nil)) rfl ?_
      refine o_storew rfl (by repeat first | exact Mem.upd_self _ _ _ | assumption | refine Mem.upd_ne (by assumption) ?_) (by first | exact e_agg rfl | rfl) rfl sz23 rfl rfl rfl rfl ?_
      refine o_nil ?_
      refine s_seq ?_
      refine s_region ?_
      refine o_q (q_ldmw ag23 sz23 rfl (by repeat first | exact Mem.upd_self _ _ _ | assumption | refine Mem.upd_ne (by assumption) ?_) rfl rfl) rfl rfl rfl ?_
      refine o_q (q_ldmw ag23 sz23 rfl (by repeat first | exact Mem.upd_self _ _ _ | assumption | refine Mem.upd_ne (by assumption) ?_) rfl rfl) rfl rfl rfl ?_
      refine o_call ((snd22 z' z' _ hz hz).det) goes22 (ac (v_agg rfl) (ac (v_agg rfl) ac_nil)) rfl ?_
      refine o_storew rfl (by repeat first | exact Mem.upd_self _ _ _ | assumption | refine Mem.upd_ne (by assumption) ?_) (by first | exact e_agg rfl | rfl) rfl sz23 rfl rfl rfl rfl ?_
      refine o_nil ?_
      refine s_region ?_
      refine o_q (q_mv (v_raw rfl)) rfl rfl rfl ?_
      refine o_q (q_quo rfl rfl (by omega) (wrap64 (by omega) (by omega))) rfl rfl rfl ?_
      refine o_q (q_as (v_raw rfl)) rfl rfl rfl ?_
      refine o_nil ?_
      refine s_blk_normal ?_
      refine s_inv ?_
      exact ⟨m', by omega, _, _, mulP z' z', mulP out z', k / 2, St.mkT (kp (kp (kp (kp rfl (show _ = int ((k / 2 : Nat) : Int) from congrArg int (by rw [Int.tdiv_eq_ediv_of_nonneg (by omega)]; omega))) rfl) rfl) rfl).symm, (by repeat first | exact hle | exact Mem.le_refl M | assumption | exact Mem.none_of_le hle (by assumption) | refine Mem.le_upd ?_ ?_), ⟨(by repeat first | exact Mem.upd_self _ _ _ | assumption | refine Mem.upd_ne (by assumption) ?_), (by repeat first | exact Mem.upd_self _ _ _ | assumption | refine Mem.upd_ne (by assumption) ?_), (by repeat first | exact Mem.upd_self _ _ _ | assumption | refine Mem.upd_ne (by assumption) ?_)⟩, md_right _, by first | exact md_right _ | assumption, by rw [Nat.pow_succ] at hk; omega, by omega, by rw [← hpw, pwF, if_neg (by omega)]; first | rw [if_pos (by omega)] | rw [if_neg (by omega)]⟩
    · have k2 := h2; try simp only [decide_eq_true_eq, decide_eq_false_iff_not, Bool.not_eq_true', Bool.not_eq_false', Bool.not_true, Bool.not_false, List.length_map, Decidable.not_not] at k2
      refine s_skip ?_
      refine s_seq ?_
      refine s_region ?_
      refine o_q (q_ldmw ag23 sz23 rfl (by repeat first | exact Mem.upd_self _ _ _ | assumption | refine Mem.upd_ne (by assumption) ?_) rfl rfl) rfl rfl rfl ?_
      refine o_q (q_ldmw ag23 sz23 rfl (by repeat first | exact Mem.upd_self _ _ _ | assumption | refine Mem.upd_ne (by assumption) ?_) rfl rfl) rfl rfl rfl ?_
      refine o_call ((snd22 z' z' _ hz hz).det) goes22 (ac (v_agg rfl) (ac (v_agg rfl) ac_nil)) rfl ?_
      refine o_storew rfl (by repeat first | exact Mem.upd_self _ _ _ | assumption | refine Mem.upd_ne (by assumption) ?_) (by first | exact e_agg rfl | rfl) rfl sz23 rfl rfl rfl rfl ?_
      refine o_nil ?_
      refine s_region ?_
      refine o_q (q_mv (v_raw rfl)) rfl rfl rfl ?_
      refine o_q (q_quo rfl rfl (by omega) (wrap64 (by omega) (by omega))) rfl rfl rfl ?_
      refine o_q (q_as (v_raw rfl)) rfl rfl rfl ?_
      refine o_nil ?_
      refine s_blk_normal ?_
      refine s_inv ?_
      exact ⟨m', by omega, _, _, mulP z' z', out, k / 2, St.mkT (kp (kp (kp (kp rfl (show _ = int ((k / 2 : Nat) : Int) from congrArg int (by rw [Int.tdiv_eq_ediv_of_nonneg (by omega)]; omega))) rfl) rfl) rfl).symm, (by repeat first | exact hle | exact Mem.le_refl M | assumption | exact Mem.none_of_le hle (by assumption) | refine Mem.le_upd ?_ ?_), ⟨(by repeat first | exact Mem.upd_self _ _ _ | assumption | refine Mem.upd_ne (by assumption) ?_), (by repeat first | exact Mem.upd_self _ _ _ | assumption | refine Mem.upd_ne (by assumption) ?_), (by repeat first | exact Mem.upd_self _ _ _ | assumption | refine Mem.upd_ne (by assumption) ?_)⟩, md_right _, by first | exact md_right _ | assumption, by rw [Nat.pow_succ] at hk; omega, by omega, by rw [← hpw, pwF, if_neg (by omega)]; first | rw [if_pos (by omega)] | rw [if_neg (by omega)]⟩
  · have k1 := h1; try simp only [decide_eq_true_eq, decide_eq_false_iff_not, Bool.not_eq_true', Bool.not_eq_false', Bool.not_true, Bool.not_false, List.length_map, Decidable.not_not] at k1
    refine s_exit ?_
    refine s_code_exit ?_
    refine s_inv_exit ?_
    refine s_blk_here ?_
    refine s_seq ?_
    refine s_region ?_
    refine o_q (q_ldmw ag23 sz23 rfl (by repeat first | exact Mem.upd_self _ _ _ | assumption | refine Mem.upd_ne (by assumption) ?_) rfl rfl) rfl rfl rfl ?_
    refine o_storew rfl (by repeat first | exact Mem.upd_self _ _ _ | assumption | refine Mem.upd_ne (by assumption) ?_) (by first | exact e_agg rfl | rfl) rfl sz23 rfl rfl rfl rfl ?_
    refine o_nil ?_
    refine s_ret ?_
    refine s_end ?_
    obtain rfl : k = 0 := by omega
    have ho' : out = pw z n := by
      rw [← hpw]
      cases m with
      | zero => rfl
      | succ m => rfl
    exact ret_one (.inl rfl) rfl (rl_c rfl (by repeat first | exact Mem.upd_self _ _ _ | assumption | refine Mem.upd_ne (by assumption) ?_) (loadP_w ag23 sz23 rfl rfl) rfl rl_nil) ⟨congrArg encP ho', (by repeat first | exact hle | exact Mem.le_refl M | assumption | exact Mem.none_of_le hle (by assumption) | refine Mem.le_upd ?_ ?_)⟩

def tk42 : Nat → Nat → Option Nat := fun _ _ => none
def pl42 : Nat → List PStep := fun _ => []
theorem cb42 : Try.f42.body.map (codeB Try.prog Try.f42.ntmps tk42 pl42) = some true := by kernel_rfl
theorem goes42 : goesB Try.prog 42 = true := by kernel_rfl
-- carillon/carillonref03.power params ['int', 'int'] results [['t', 4]] own [] names ['0:a', '1:n', '2:a', '3:n', '5:out'] calls [] paths 3

theorem mulP_re (a b : Int) : mulP ⟨a, 0⟩ ⟨b, 0⟩ = ⟨a * b % 33554383, 0⟩ := by
  unfold mulP md mulZ
  simp
theorem snd42 (z : Int) (n : Nat) (M : Mem) (hz : 0 ≤ z ∧ z < 33554383) (hn : n < 2 ^ 63) : SoundCall Try.prog 42 [int z, int n] M fun r M' => r = int (pw ⟨z, 0⟩ n).re ∧ M.le M' := by
  refine SoundCall.go tk42 pl42 mixed Try.func42 cb42 rfl (Nat.le_of_ble_eq_true rfl) ?_
  refine s_seq ?_
  refine s_region ?_
  refine o_q (q_as (v_raw rfl)) rfl rfl rfl ?_
  refine o_nil ?_
  refine s_seq ?_
  refine s_region ?_
  refine o_q (q_as (v_raw rfl)) rfl rfl rfl ?_
  refine o_nil ?_
  refine s_seq ?_
  refine s_block ?_
  refine s_loop (fun m S => ∃ T, ∃ z' out : Int, ∃ k : Nat, S = ⟨setT (setT (setT T 0 (int z')) 1 (int (k : Nat))) 5 (int out), M⟩ ∧ (0 ≤ z' ∧ z' < 33554383) ∧ (0 ≤ out ∧ out < 33554383) ∧ k < 2 ^ m ∧ m < 64 ∧ pwF m ⟨out, 0⟩ ⟨z', 0⟩ k = pw ⟨z, 0⟩ n) 63 ?_ ?_
  · exact ⟨_, z, 1, n, St.mkT (kp (kp (kp rfl rfl) rfl) rfl).symm, hz, by omega, hn, by omega, rfl⟩
  rintro m S ⟨T, z', out, k, rfl, hz, ho, hk, hm, hpw⟩
  have hk63 : k < 2 ^ 63 := Nat.lt_of_lt_of_le hk (Nat.pow_le_pow_right (by decide) (by omega))
  have kt := Int.tmod_eq_emod_of_nonneg (b := 2) (show (0 : Int) ≤ (k : Int) by omega)
  have kq := Int.tdiv_eq_ediv_of_nonneg (b := 2) (show (0 : Int) ≤ (k : Int) by omega)
  have q1 := mul_bound' hz.1 hz.2 hz.1 hz.2
  have q2 := mul_bound' ho.1 ho.2 hz.1 hz.2
  refine s_seq ?_
  refine s_seq ?_
  refine s_region ?_
  refine o_q (q_mv (v_raw rfl)) rfl rfl rfl ?_
  refine o_q (q_gtr rfl rfl) rfl rfl rfl ?_
  refine o_nil ?_
  refine s_cond rfl (fun h1 => ?_) (fun h1 => ?_)
  · have k1 := h1; try simp only [decide_eq_true_eq, decide_eq_false_iff_not, Bool.not_eq_true', Bool.not_eq_false', Bool.not_true, Bool.not_false, List.length_map, Decidable.not_not] at k1
    obtain ⟨m', rfl⟩ : ∃ m', m = m' + 1 := by
      cases m with
      | zero => simp at hk; omega
      | succ m' => exact ⟨m', rfl⟩
    refine s_skip ?_
    refine s_block ?_
    refine s_seq ?_
    refine s_seq ?_
    refine s_region ?_
    refine o_q (q_mv (v_raw rfl)) rfl rfl rfl ?_
    refine o_q (q_rem rfl rfl (by decide)) rfl rfl rfl ?_
    refine o_q (q_eql rfl rfl) rfl rfl rfl ?_
    refine o_nil ?_
    refine s_cond rfl (fun h2 => ?_) (fun h2 => ?_)
    · have k2 := h2; try simp only [decide_eq_true_eq, decide_eq_false_iff_not, Bool.not_eq_true', Bool.not_eq_false', Bool.not_true, Bool.not_false, List.length_map, Decidable.not_not] at k2
      refine s_region ?_
      refine o_q (q_mv (v_raw rfl)) rfl rfl rfl ?_
      refine o_q (q_mv (v_raw rfl)) rfl rfl rfl ?_
      refine o_q (q_mul rfl rfl (wrap64 (by omega) (by omega))) rfl rfl rfl ?_
      refine o_q (q_rem rfl rfl (by decide)) rfl rfl rfl ?_
      refine o_q (q_as (v_raw rfl)) rfl rfl rfl ?_
      refine o_nil ?_
      refine s_seq ?_
      refine s_region ?_
      refine o_q (q_mv (v_raw rfl)) rfl rfl rfl ?_
      refine o_q (q_mv (v_raw rfl)) rfl rfl rfl ?_
      refine o_q (q_mul rfl rfl (wrap64 (by omega) (by omega))) rfl rfl rfl ?_
      refine o_q (q_rem rfl rfl (by decide)) rfl rfl rfl ?_
      refine o_q (q_as (v_raw rfl)) rfl rfl rfl ?_
      refine o_nil ?_
      refine s_region ?_
      refine o_q (q_mv (v_raw rfl)) rfl rfl rfl ?_
      refine o_q (q_quo rfl rfl (by omega) (wrap64 (by omega) (by omega))) rfl rfl rfl ?_
      refine o_q (q_as (v_raw rfl)) rfl rfl rfl ?_
      refine o_nil ?_
      refine s_blk_normal ?_
      refine s_inv ?_
      exact ⟨m', by omega, _, z' * z' % 33554383, out * z' % 33554383, k / 2, St.mkT (kp (kp (kp rfl (show _ = int _ from congrArg int (Int.tmod_eq_emod_of_nonneg (by omega)))) (show _ = int ((k / 2 : Nat) : Int) from congrArg int (by rw [Int.tdiv_eq_ediv_of_nonneg (by omega)]; omega))) (show _ = int _ from congrArg int (Int.tmod_eq_emod_of_nonneg (by omega)))).symm, by omega, by omega, by rw [Nat.pow_succ] at hk; omega, by omega, by rw [← hpw, pwF, if_neg (by omega), mulP_re, mulP_re]; first | rw [if_pos (by omega)] | rw [if_neg (by omega)]⟩
    · have k2 := h2; try simp only [decide_eq_true_eq, decide_eq_false_iff_not, Bool.not_eq_true', Bool.not_eq_false', Bool.not_true, Bool.not_false, List.length_map, Decidable.not_not] at k2
      refine s_skip ?_
      refine s_seq ?_
      refine s_region ?_
      refine o_q (q_mv (v_raw rfl)) rfl rfl rfl ?_
      refine o_q (q_mv (v_raw rfl)) rfl rfl rfl ?_
      refine o_q (q_mul rfl rfl (wrap64 (by omega) (by omega))) rfl rfl rfl ?_
      refine o_q (q_rem rfl rfl (by decide)) rfl rfl rfl ?_
      refine o_q (q_as (v_raw rfl)) rfl rfl rfl ?_
      refine o_nil ?_
      refine s_region ?_
      refine o_q (q_mv (v_raw rfl)) rfl rfl rfl ?_
      refine o_q (q_quo rfl rfl (by omega) (wrap64 (by omega) (by omega))) rfl rfl rfl ?_
      refine o_q (q_as (v_raw rfl)) rfl rfl rfl ?_
      refine o_nil ?_
      refine s_blk_normal ?_
      refine s_inv ?_
      exact ⟨m', by omega, _, z' * z' % 33554383, out, k / 2, St.mkT (kp (kp (kp rfl (show _ = int _ from congrArg int (Int.tmod_eq_emod_of_nonneg (by omega)))) (show _ = int ((k / 2 : Nat) : Int) from congrArg int (by rw [Int.tdiv_eq_ediv_of_nonneg (by omega)]; omega))) rfl).symm, by omega, by omega, by rw [Nat.pow_succ] at hk; omega, by omega, by rw [← hpw, pwF, if_neg (by omega), mulP_re, mulP_re]; first | rw [if_pos (by omega)] | rw [if_neg (by omega)]⟩
  · have k1 := h1; try simp only [decide_eq_true_eq, decide_eq_false_iff_not, Bool.not_eq_true', Bool.not_eq_false', Bool.not_true, Bool.not_false, List.length_map, Decidable.not_not] at k1
    refine s_exit ?_
    refine s_code_exit ?_
    refine s_inv_exit ?_
    refine s_blk_here ?_
    refine s_seq ?_
    refine s_region ?_
    refine o_q (q_mv (v_raw rfl)) rfl rfl rfl ?_
    refine o_q (q_as (v_raw rfl)) rfl rfl rfl ?_
    refine o_nil ?_
    refine s_ret ?_
    refine s_end ?_
    obtain rfl : k = 0 := by omega
    refine ⟨?_, (by repeat first | exact hle | exact Mem.le_refl M | assumption | exact Mem.none_of_le hle (by assumption) | refine Mem.le_upd ?_ ?_)⟩
    rw [← hpw]
    cases m with
    | zero => rfl
    | succ m => rfl

def tk26 : Nat → Nat → Option Nat := fun _ _ => none
def pl26 : Nat → List PStep
  | 5 => [.q 0, .q 1, .q 2, .q 3, .q 5, .q 6, .q 7, .q 8, .q 9, .q 10, .s 4 [10, 9, 8, 7, 6, 5, 2, 1, 0], .s 11 [9, 8, 7, 6, 5, 3, 2, 1, 0], .q 12, .s 13 [], .q 14]
  | _ => []
theorem cb26 : Try.f26.body.map (codeB Try.prog Try.f26.ntmps tk26 pl26) = some true := by kernel_rfl
theorem goes26 : goesB Try.prog 26 = true := by kernel_rfl
-- carillon/carillonref03.Inv params ['api.Pair'] results [['cell', 2, 23], ['t', 3]] own [] names ['0:a', '1:a', '4:n', '5:i'] calls [40, 42] paths 2

def nrm (a : Pr) : Int := (a.re * a.re + a.im * a.im) % 33554383
def rinv (a : Pr) : Pr := ⟨a.re * (pw ⟨nrm a, 0⟩ 33554381).re % 33554383, (33554383 - a.im) % 33554383 * (pw ⟨nrm a, 0⟩ 33554381).re % 33554383⟩
def rinvR (a : Pr) : AVal := .tup [encP (if nrm a = 0 then ⟨0, 0⟩ else rinv a), .raw (.bool (decide (nrm a ≠ 0)))]
theorem snd26 (x : Pr) (M : Mem) (hx : right x = true) : SoundCall Try.prog 26 [encP x] M fun r M' => r = rinvR x ∧ M.le M' := by
  have rx := right_spec.1 hx
  have b1 := mul_bound' rx.1 rx.2.1 rx.1 rx.2.1
  have b2 := mul_bound' rx.2.2.1 rx.2.2.2 rx.2.2.1 rx.2.2.2
  have hn0 : 0 ≤ nrm x := Int.emod_nonneg _ (by decide)
  have hn1 : nrm x < 33554383 := Int.emod_lt_of_pos _ (by decide)
  have ri := right_spec.1 (pw_right ⟨nrm x, 0⟩ 33554381)
  have q1 := mul_bound' rx.1 rx.2.1 ri.1 ri.2.1
  have u0 : 0 ≤ (33554383 - x.im) % 33554383 := by omega
  have u1 : (33554383 - x.im) % 33554383 < 33554383 := by omega
  have q2 := mul_bound' u0 u1 ri.1 ri.2.1
  have ut : (33554383 - x.im).tmod 33554383 = (33554383 - x.im) % 33554383 := Int.tmod_eq_emod_of_nonneg (by omega)
  rw [← ut] at q2
  refine SoundCall.go tk26 pl26 mixed Try.func26 cb26 rfl (Nat.le_of_ble_eq_true rfl) ?_
  refine s_seq ?_
  refine s_region ?_
  refine o_box (by first | exact e_raw rfl | exact e_agg rfl | exact e_sl rfl) rfl rfl (fun B1 hB1 => ?_)
  have m1 : M B1 = none := by have h := hB1; repeat (first | exact h | replace h := (Mem.upd_none h).2)
  refine o_alloc zc23 (fun B2 hB2 => ?_)
  have f1_2 : B1 ≠ B2 := Mem.fresh_ne hB2 (by repeat first | exact Mem.upd_self _ _ _ | assumption | refine Mem.upd_ne (by assumption) ?_)
  have g2_1 : B2 ≠ B1 := f1_2.symm
  have m2 : M B2 = none := by have h := hB2; repeat (first | exact h | replace h := (Mem.upd_none h).2)
  refine o_q (q_as (v_raw rfl)) rfl rfl rfl ?_
  refine o_nil ?_
  refine s_seq ?_
  refine s_region ?_
  refine o_q (q_fr fo23_0 rfl) rfl rfl rfl ?_
  refine o_q (q_ldm ag3 sz3 rfl (by repeat first | exact Mem.upd_self _ _ _ | assumption | refine Mem.upd_ne (by assumption) ?_) rfl (v_raw rfl)) rfl rfl rfl ?_
  refine o_q (q_fr fo23_0 rfl) rfl rfl rfl ?_
  refine o_q (q_ldm ag3 sz3 rfl (by repeat first | exact Mem.upd_self _ _ _ | assumption | refine Mem.upd_ne (by assumption) ?_) rfl (v_raw rfl)) rfl rfl rfl ?_
  refine o_q (q_mul rfl rfl (wrap64 (by omega) (by omega))) rfl rfl rfl ?_
  refine o_q (q_fr fo23_1 rfl) rfl rfl rfl ?_
  refine o_q (q_ldm ag3 sz3 rfl (by repeat first | exact Mem.upd_self _ _ _ | assumption | refine Mem.upd_ne (by assumption) ?_) rfl (v_raw rfl)) rfl rfl rfl ?_
  refine o_q (q_fr fo23_1 rfl) rfl rfl rfl ?_
  refine o_q (q_ldm ag3 sz3 rfl (by repeat first | exact Mem.upd_self _ _ _ | assumption | refine Mem.upd_ne (by assumption) ?_) rfl (v_raw rfl)) rfl rfl rfl ?_
  refine o_q (q_mul rfl rfl (wrap64 (by omega) (by omega))) rfl rfl rfl ?_
  refine o_q (q_add rfl rfl (wrap64 (by omega) (by omega))) rfl rfl rfl ?_
  refine o_call ((snd40 (x.re * x.re + x.im * x.im) _).det) goes40 (ac (v_raw rfl) ac_nil) rfl ?_
  refine o_q (q_as (v_raw rfl)) rfl rfl rfl ?_
  refine o_nil ?_
  refine s_seq ?_
  refine s_seq ?_
  refine s_region ?_
  refine o_q (q_mv (v_raw rfl)) rfl rfl rfl ?_
  refine o_q (q_eql rfl rfl) rfl rfl rfl ?_
  refine o_nil ?_
  refine s_cond rfl (fun h1 => ?_) (fun h1 => ?_)
  · have k1 := h1; try simp only [decide_eq_true_eq, decide_eq_false_iff_not, Bool.not_eq_true', Bool.not_eq_false', Bool.not_true, Bool.not_false, List.length_map, Decidable.not_not] at k1
    refine s_seq ?_
    refine s_region ?_
    refine o_q (q_b (cs := [.raw (.int .i64 0), .raw (.int .i64 0)]) bz23 bp23 bf_nil) rfl rfl rfl ?_
    refine o_storew rfl (by repeat first | exact Mem.upd_self _ _ _ | assumption | refine Mem.upd_ne (by assumption) ?_) (by first | exact e_agg rfl | rfl) rfl sz23 rfl rfl rfl rfl ?_
    refine o_q (q_as (v_raw rfl)) rfl rfl rfl ?_
    refine o_nil ?_
    refine s_ret ?_
    refine s_code_ret ?_
    refine s_end ?_
    have e0 : nrm x = 0 := of_decide_eq_true h1
    exact ret_many (.inl rfl) rfl (rl_c rfl (by repeat first | exact Mem.upd_self _ _ _ | assumption | refine Mem.upd_ne (by assumption) ?_) (loadP_w ag23 sz23 rfl rfl) rfl (rl_t rfl rl_nil)) rfl ⟨by unfold rinvR; simp only [e0, ne_eq, not_true, decide_false, if_true]; rfl, (by repeat first | exact hle | exact Mem.le_refl M | assumption | exact Mem.none_of_le hle (by assumption) | refine Mem.le_upd ?_ ?_)⟩
  · have k1 := h1; try simp only [decide_eq_true_eq, decide_eq_false_iff_not, Bool.not_eq_true', Bool.not_eq_false', Bool.not_true, Bool.not_false, List.length_map, Decidable.not_not] at k1
    refine s_skip ?_
    refine s_seq ?_
    refine s_region ?_
    refine o_q (q_mv (v_raw rfl)) rfl rfl rfl ?_
    refine o_call ((snd42 (nrm x) 33554381 _ ⟨hn0, hn1⟩ (by decide)).det) goes42 (ac (v_raw rfl) (ac (v_raw rfl) ac_nil)) rfl ?_
    refine o_q (q_as (v_raw rfl)) rfl rfl rfl ?_
    refine o_nil ?_
    refine s_seq ?_
    refine s_draw rfl ?_
    refine d_q rfl (q_fr fo23_0 rfl) rfl rfl rfl ?_
    refine d_q rfl (q_ldm ag3 sz3 rfl (by repeat first | exact Mem.upd_self _ _ _ | assumption | refine Mem.upd_ne (by assumption) ?_) rfl (v_raw rfl)) rfl rfl rfl ?_
    refine d_q rfl (q_mv (v_raw rfl)) rfl rfl rfl ?_
    refine d_q rfl (q_mul rfl rfl (wrap64 (by omega) (by omega))) rfl rfl rfl ?_
    refine d_q rfl (q_fr fo23_1 rfl) rfl rfl rfl ?_
    refine d_q rfl (q_ldm ag3 sz3 rfl (by repeat first | exact Mem.upd_self _ _ _ | assumption | refine Mem.upd_ne (by assumption) ?_) rfl (v_raw rfl)) rfl rfl rfl ?_
    refine d_q rfl (q_sub rfl rfl (wrap64 (by omega) (by omega))) rfl rfl rfl ?_
    refine d_q rfl (q_rem rfl rfl (by decide)) rfl rfl rfl ?_
    refine d_q rfl (q_mv (v_raw rfl)) rfl rfl rfl ?_
    refine d_q rfl (q_mul rfl rfl (wrap64 (by omega) (by omega))) rfl rfl rfl ?_
    refine d_s rfl ?_
    refine o_call ((snd40 (x.re * (pw ⟨nrm x, 0⟩ 33554381).re) _).det) goes40 (ac (v_raw rfl) ac_nil) rfl ?_
    refine o_nil ⟨(by simp [Mem.upd, *]), ?_⟩
    refine d_s rfl ?_
    refine o_call ((snd40 ((33554383 - x.im).tmod 33554383 * (pw ⟨nrm x, 0⟩ 33554381).re) _).det) goes40 (ac (v_raw rfl) ac_nil) rfl ?_
    refine o_nil ⟨(by simp [Mem.upd, *]), ?_⟩
    refine d_q rfl (q_b (cs := [_, _]) bz23 bp23 (bf fo23_0 (e_raw rfl) rfl rfl (Nat.le_of_ble_eq_true rfl) rfl (bf fo23_1 (e_raw rfl) rfl rfl (Nat.le_of_ble_eq_true rfl) rfl bf_nil))) rfl rfl rfl ?_
    refine d_s rfl ?_
    refine o_storew rfl (by repeat first | exact Mem.upd_self _ _ _ | assumption | refine Mem.upd_ne (by assumption) ?_) (by first | exact e_agg rfl | rfl) rfl sz23 rfl rfl rfl rfl ?_
    refine o_nil ⟨(by simp [Mem.upd, *]), ?_⟩
    refine d_q rfl (q_as (v_raw rfl)) rfl rfl rfl ?_
    refine d_nil ?_
    refine s_ret ?_
    refine s_end ?_
    have e0 : ¬ nrm x = 0 := of_decide_eq_false h1
    exact ret_many (.inl rfl) rfl (rl_c rfl (by repeat first | exact Mem.upd_self _ _ _ | assumption | refine Mem.upd_ne (by assumption) ?_) (loadP_w ag23 sz23 rfl rfl) rfl (rl_t rfl rl_nil)) rfl ⟨by unfold rinvR rinv; simp only [e0, ne_eq, not_false_iff, decide_true, if_false]; rw [← ut]; rfl, (by repeat first | exact hle | exact Mem.le_refl M | assumption | exact Mem.none_of_le hle (by assumption) | refine Mem.le_upd ?_ ?_)⟩

def tk29 : Nat → Nat → Option Nat := fun _ _ => none
def pl29 : Nat → List PStep
  | 6 => [.q 0, .q 1, .q 3, .q 4, .q 5, .q 6, .q 7, .q 8, .s 2 [8, 7, 6, 5, 4, 3], .s 9 [7, 6, 5, 4, 3, 1, 0], .s 10 []]
  | _ => []
theorem cb29 : Try.f29.body.map (codeB Try.prog Try.f29.ntmps tk29 pl29) = some true := by kernel_rfl
theorem goes29 : goesB Try.prog 29 = true := by kernel_rfl
-- carillon/carillonref03.On params ['api.Pair', 'string'] results [['cell', 4, 23]] own [] names ['0:d', '1:s', '2:d', '3:s', '5:g', '6:i'] calls [20, 22, 40] paths 2

theorem ref_begin {d : Pr} (n : Nat) (hd : right d = true) (hn : n < 2 ^ 62) : addW (mulP d ⟨2, 3⟩) ⟨(257 + (n : Int)) % 33554383, 0⟩ = md (beginO d n) := by
  rw [show addW (mulP d ⟨2, 3⟩) ⟨(257 + (n : Int)) % 33554383, 0⟩ = _ from addW_eq (md_right _) (by dsimp only; omega) (by dsimp only; omega)]
  have ht : (257 + (n : Int)).tmod 33554383 = (257 + (n : Int)) % 33554383 := Int.tmod_eq_emod_of_nonneg (by omega)
  unfold beginO
  rw [ht]
  simp only [md, addZ, mulP, mulZ, Pr.mk.injEq]
  constructor <;> omega
theorem ref_step (z : Pr) (c : Nat) (hc : c < 256) : addW (mulP (md z) ⟨2, 3⟩) ⟨(c : Int) + 1, 0⟩ = md (stepO z c) := by
  rw [show addW (mulP (md z) ⟨2, 3⟩) ⟨(c : Int) + 1, 0⟩ = _ from addW_eq (md_right _) (by dsimp only; omega) (by dsimp only; omega)]
  simp only [md, addZ, mulP, mulZ, stepO, Pr.mk.injEq]
  constructor <;> omega
theorem snd29 (d : Pr) (s : ByteArray) (M : Mem) (hs : s.size < 2 ^ 62) (hd : right d = true) : SoundCall Try.prog 29 [encP d, .raw (.string s)] M fun r M' => r = encP (onP d s) ∧ M.le M' := by
  refine SoundCall.go tk29 pl29 mixed Try.func29 cb29 rfl (Nat.le_of_ble_eq_true rfl) ?_
  refine s_seq ?_
  refine s_region ?_
  refine o_box (by first | exact e_raw rfl | exact e_agg rfl | exact e_sl rfl) rfl rfl (fun B1 hB1 => ?_)
  have m1 : M B1 = none := by have h := hB1; repeat (first | exact h | replace h := (Mem.upd_none h).2)
  refine o_alloc zc23 (fun B2 hB2 => ?_)
  have f1_2 : B1 ≠ B2 := Mem.fresh_ne hB2 (by repeat first | exact Mem.upd_self _ _ _ | assumption | refine Mem.upd_ne (by assumption) ?_)
  have g2_1 : B2 ≠ B1 := f1_2.symm
  have m2 : M B2 = none := by have h := hB2; repeat (first | exact h | replace h := (Mem.upd_none h).2)
  refine o_nil ?_
  refine s_seq ?_
  refine s_region ?_
  refine o_q (q_b (cs := [_, _]) bz23 bp23 (bf fo23_0 (e_raw rfl) rfl rfl (Nat.le_of_ble_eq_true rfl) rfl (bf fo23_1 (e_raw rfl) rfl rfl (Nat.le_of_ble_eq_true rfl) rfl bf_nil))) rfl rfl rfl ?_
  refine o_alloc zc23 (fun B3 hB3 => ?_)
  have f1_3 : B1 ≠ B3 := Mem.fresh_ne hB3 (by repeat first | exact Mem.upd_self _ _ _ | assumption | refine Mem.upd_ne (by assumption) ?_)
  have g3_1 : B3 ≠ B1 := f1_3.symm
  have f2_3 : B2 ≠ B3 := Mem.fresh_ne hB3 (by repeat first | exact Mem.upd_self _ _ _ | assumption | refine Mem.upd_ne (by assumption) ?_)
  have g3_2 : B3 ≠ B2 := f2_3.symm
  have m3 : M B3 = none := by have h := hB3; repeat (first | exact h | replace h := (Mem.upd_none h).2)
  refine o_storew rfl (by repeat first | exact Mem.upd_self _ _ _ | assumption | refine Mem.upd_ne (by assumption) ?_) (by first | exact e_agg rfl | rfl) rfl sz23 rfl rfl rfl rfl ?_
  refine o_nil ?_
  refine s_seq ?_
  refine s_region ?_
  refine o_q (q_ldmw ag23 sz23 rfl (by repeat first | exact Mem.upd_self _ _ _ | assumption | refine Mem.upd_ne (by assumption) ?_) rfl rfl) rfl rfl rfl ?_
  refine o_q (q_ldmw ag23 sz23 rfl (by repeat first | exact Mem.upd_self _ _ _ | assumption | refine Mem.upd_ne (by assumption) ?_) rfl rfl) rfl rfl rfl ?_
  refine o_call ((snd22 d ⟨2, 3⟩ _ hd g_right).det) goes22 (ac (v_agg rfl) (ac (v_agg rfl) ac_nil)) rfl ?_
  refine o_q (q_mv (v_raw rfl)) rfl rfl rfl ?_
  refine o_q (q_lens rfl und9 rfl) rfl rfl rfl ?_
  refine o_q (q_add rfl rfl (wrap64 (by omega) (by omega))) rfl rfl rfl ?_
  refine o_call ((snd40 (257 + (s.size : Int)) _).det) goes40 (ac (v_raw rfl) ac_nil) rfl ?_
  refine o_q (q_b (cs := [_, .raw (.int .i64 0)]) bz23 bp23 (bf fo23_0 (e_raw rfl) rfl rfl (Nat.le_of_ble_eq_true rfl) rfl bf_nil)) rfl rfl rfl ?_
  refine o_call ((snd20 (mulP d ⟨2, 3⟩) ⟨(257 + (s.size : Int)) % 33554383, 0⟩ _).det) goes20 (ac (v_agg rfl) (ac (v_agg rfl) ac_nil)) rfl ?_
  refine o_storew rfl (by repeat first | exact Mem.upd_self _ _ _ | assumption | refine Mem.upd_ne (by assumption) ?_) (by first | exact e_agg rfl | rfl) rfl sz23 rfl rfl rfl rfl ?_
  refine o_nil ?_
  refine s_seq ?_
  refine s_seq ?_
  refine s_region ?_
  refine o_q (q_as (v_raw rfl)) rfl rfl rfl ?_
  refine o_nil ?_
  refine s_block ?_
  refine s_loop (fun m S => ∃ T, ∃ M' : Mem, ∃ i : Nat, S = ⟨setT (setT (setT (setT (setT T 1 (.raw (.string s))) 2 (ptr B1)) 4 (ptr B2)) 5 (ptr B3)) 6 (int i), M'⟩ ∧ M.le M' ∧ (M' B1 = some (.cells (encP (md (onZ d s.size (s.data.toList.take i)))).cells) ∧ M' B3 = some (.cells (encP ⟨2, 3⟩).cells) ∧ M' B2 = some (.cells [int 0, int 0])) ∧ i ≤ s.size ∧ m = s.size - i) s.size ?_ ?_
  · rw [ref_begin s.size hd hs]
    exact ⟨_, _, 0, St.mkT (kp (kp (kp (kp (kp rfl rfl) rfl) rfl) rfl) rfl).symm, (by repeat first | exact hle | exact Mem.le_refl M | assumption | exact Mem.none_of_le hle (by assumption) | refine Mem.le_upd ?_ ?_), ⟨(by repeat first | exact Mem.upd_self _ _ _ | assumption | refine Mem.upd_ne (by assumption) ?_), (by repeat first | exact Mem.upd_self _ _ _ | assumption | refine Mem.upd_ne (by assumption) ?_), (by repeat first | exact Mem.upd_self _ _ _ | assumption | refine Mem.upd_ne (by assumption) ?_)⟩, by omega, rfl⟩
  rintro m S ⟨T, M', i, rfl, hle, ⟨c1, c3, c2⟩, hi, rfl⟩
  have hsl : s.data.toList.length = s.size := Array.length_toList
  refine s_seq ?_
  refine s_seq ?_
  refine s_region ?_
  refine o_q (q_mv (v_raw rfl)) rfl rfl rfl ?_
  refine o_q (q_mv (v_raw rfl)) rfl rfl rfl ?_
  refine o_q (q_lens rfl und9 rfl) rfl rfl rfl ?_
  refine o_q (q_lss rfl rfl) rfl rfl rfl ?_
  refine o_nil ?_
  refine s_cond rfl (fun h1 => ?_) (fun h1 => ?_)
  · have k1 := h1; try simp only [decide_eq_true_eq, decide_eq_false_iff_not, Bool.not_eq_true', Bool.not_eq_false', Bool.not_true, Bool.not_false, List.length_map, Decidable.not_not] at k1
    have hc8 : (s.data[i]'(by have h : i < s.size := (by omega); exact h)).toNat < 256 := UInt8.toNat_lt _
    refine s_skip ?_
    refine s_seq ?_
    refine s_block ?_
    refine s_draw rfl ?_
    refine d_q rfl (q_ldmw ag23 sz23 rfl (by repeat first | exact Mem.upd_self _ _ _ | assumption | refine Mem.upd_ne (by assumption) ?_) rfl rfl) rfl rfl rfl ?_
    refine d_q rfl (q_ldmw ag23 sz23 rfl (by repeat first | exact Mem.upd_self _ _ _ | assumption | refine Mem.upd_ne (by assumption) ?_) rfl rfl) rfl rfl rfl ?_
    refine d_q rfl (q_mv (v_raw rfl)) rfl rfl rfl ?_
    refine d_q rfl (q_mv (v_raw rfl)) rfl rfl rfl ?_
    refine d_q rfl (q_stri und9 rfl rfl rfl (by omega)) rfl rfl rfl ?_
    refine d_q rfl (q_i2i und5 und3 rfl (wrap64 (by omega) (by omega))) rfl rfl rfl ?_
    refine d_q rfl (q_add rfl rfl (wrap64 (by omega) (by omega))) rfl rfl rfl ?_
    refine d_q rfl (q_b (cs := [_, .raw (.int .i64 0)]) bz23 bp23 (bf fo23_0 (e_raw rfl) rfl rfl (Nat.le_of_ble_eq_true rfl) rfl bf_nil)) rfl rfl rfl ?_
    refine d_s rfl ?_
    refine o_call ((snd22 (md (onZ d s.size (s.data.toList.take i))) ⟨2, 3⟩ _ (md_right _) g_right).det) goes22 (ac (v_agg rfl) (ac (v_agg rfl) ac_nil)) rfl ?_
    refine o_nil ⟨(by simp [Mem.upd, *]), ?_⟩
    refine d_s rfl ?_
    refine o_call ((snd20 (mulP (md (onZ d s.size (s.data.toList.take i))) ⟨2, 3⟩) ⟨((s.data[i]'(by have h : i < s.size := (by omega); exact h)).toNat : Int) + 1, 0⟩ _).det) goes20 (ac (v_agg rfl) (ac (v_agg rfl) ac_nil)) rfl ?_
    refine o_nil ⟨(by simp [Mem.upd, *]), ?_⟩
    refine d_s rfl ?_
    refine o_storew rfl (by repeat first | exact Mem.upd_self _ _ _ | assumption | refine Mem.upd_ne (by assumption) ?_) (by first | exact e_agg rfl | rfl) rfl sz23 rfl rfl rfl rfl ?_
    refine o_nil ⟨(by simp [Mem.upd, *]), ?_⟩
    refine d_nil ?_
    refine s_blk_normal ?_
    refine s_region ?_
    refine o_q (q_mv (v_raw rfl)) rfl rfl rfl ?_
    refine o_q (q_add rfl rfl (wrap64 (by omega) (by omega))) rfl rfl rfl ?_
    refine o_q (q_as (v_raw rfl)) rfl rfl rfl ?_
    refine o_nil ?_
    refine s_inv ?_
    have est : addW (mulP (md (onZ d s.size (s.data.toList.take i))) ⟨2, 3⟩) ⟨((s.data[i]'(by have h : i < s.size := (by omega); exact h)).toNat : Int) + 1, 0⟩ = md (onZ d s.size (s.data.toList.take (i + 1))) := by rw [ref_step _ _ hc8, onZ_succ d s.size s.data.toList (by omega)]; rfl
    rw [est]
    exact ⟨s.size - (i + 1), by omega, _, _, i + 1, St.mkT (kp (kp (kp (kp (kp rfl rfl) rfl) rfl) rfl) rfl).symm, (by repeat first | exact hle | exact Mem.le_refl M | assumption | exact Mem.none_of_le hle (by assumption) | refine Mem.le_upd ?_ ?_), ⟨(by repeat first | exact Mem.upd_self _ _ _ | assumption | refine Mem.upd_ne (by assumption) ?_), (by repeat first | exact Mem.upd_self _ _ _ | assumption | refine Mem.upd_ne (by assumption) ?_), (by repeat first | exact Mem.upd_self _ _ _ | assumption | refine Mem.upd_ne (by assumption) ?_)⟩, by omega, rfl⟩
  · have k1 := h1; try simp only [decide_eq_true_eq, decide_eq_false_iff_not, Bool.not_eq_true', Bool.not_eq_false', Bool.not_true, Bool.not_false, List.length_map, Decidable.not_not] at k1
    refine s_exit ?_
    refine s_code_exit ?_
    refine s_inv_exit ?_
    refine s_blk_here ?_
    refine s_seq ?_
    refine s_region ?_
    refine o_q (q_ldmw ag23 sz23 rfl (by repeat first | exact Mem.upd_self _ _ _ | assumption | refine Mem.upd_ne (by assumption) ?_) rfl rfl) rfl rfl rfl ?_
    refine o_storew rfl (by repeat first | exact Mem.upd_self _ _ _ | assumption | refine Mem.upd_ne (by assumption) ?_) (by first | exact e_agg rfl | rfl) rfl sz23 rfl rfl rfl rfl ?_
    refine o_nil ?_
    refine s_ret ?_
    refine s_end ?_
    obtain rfl : i = s.size := by omega
    exact ret_one (.inl rfl) rfl (rl_c rfl (by repeat first | exact Mem.upd_self _ _ _ | assumption | refine Mem.upd_ne (by assumption) ?_) (loadP_w ag23 sz23 rfl rfl) rfl rl_nil) ⟨by unfold onP; rw [← hsl, List.take_length]; rfl, (by repeat first | exact hle | exact Mem.le_refl M | assumption | exact Mem.none_of_le hle (by assumption) | refine Mem.le_upd ?_ ?_)⟩

def tk30 : Nat → Nat → Option Nat := fun _ _ => none
def pl30 : Nat → List PStep
  | 1 => [.q 0, .q 1, .q 3, .q 4, .q 7, .s 2 [7, 4, 3], .s 5 [7, 1, 0], .s 6 [7, 4, 3, 1, 0], .s 8 [4, 3, 1, 0], .s 9 []]
  | _ => []
theorem cb30 : Try.f30.body.map (codeB Try.prog Try.f30.ntmps tk30 pl30) = some true := by kernel_rfl
theorem goes30 : goesB Try.prog 30 = true := by kernel_rfl
-- carillon/carillonref03.Join params ['api.Pair', 'api.Pair', 'int'] results [['cell', 6, 23]] own [] names ['0:d', '1:e', '2:n', '3:d', '4:e', '5:n'] calls [20, 21, 22, 27] paths 1
theorem snd30 (d e : Pr) (n : Nat) (M : Mem) (hd : right d = true) (he : right e = true) (hn : n < 2 ^ 63) : SoundCall Try.prog 30 [encP d, encP e, int n] M fun r M' => r = encP (joinP d e n) ∧ M.le M' := by
  have e1 : subW d ⟨1, 0⟩ = md (subZ d ⟨1, 0⟩) := subW_eq hd one_right
  have re' := right_spec.1 he
  have e2 : addW (mulP (md (subZ d ⟨1, 0⟩)) (pw ⟨2, 3⟩ n)) e = joinP d e n := addW_eq (md_right _) (by omega) (by omega)
  refine SoundCall.go tk30 pl30 mixed Try.func30 cb30 rfl (Nat.le_of_ble_eq_true rfl) ?_
  refine s_seq ?_
  refine s_region ?_
  refine o_box (by first | exact e_raw rfl | exact e_agg rfl | exact e_sl rfl) rfl rfl (fun B1 hB1 => ?_)
  have m1 : M B1 = none := by have h := hB1; repeat (first | exact h | replace h := (Mem.upd_none h).2)
  refine o_box (by first | exact e_raw rfl | exact e_agg rfl | exact e_sl rfl) rfl rfl (fun B2 hB2 => ?_)
  have f1_2 : B1 ≠ B2 := Mem.fresh_ne hB2 (by repeat first | exact Mem.upd_self _ _ _ | assumption | refine Mem.upd_ne (by assumption) ?_)
  have g2_1 : B2 ≠ B1 := f1_2.symm
  have m2 : M B2 = none := by have h := hB2; repeat (first | exact h | replace h := (Mem.upd_none h).2)
  refine o_alloc zc23 (fun B3 hB3 => ?_)
  have f1_3 : B1 ≠ B3 := Mem.fresh_ne hB3 (by repeat first | exact Mem.upd_self _ _ _ | assumption | refine Mem.upd_ne (by assumption) ?_)
  have g3_1 : B3 ≠ B1 := f1_3.symm
  have f2_3 : B2 ≠ B3 := Mem.fresh_ne hB3 (by repeat first | exact Mem.upd_self _ _ _ | assumption | refine Mem.upd_ne (by assumption) ?_)
  have g3_2 : B3 ≠ B2 := f2_3.symm
  have m3 : M B3 = none := by have h := hB3; repeat (first | exact h | replace h := (Mem.upd_none h).2)
  refine o_nil ?_
  refine s_seq ?_
  refine s_draw rfl ?_
  refine d_q rfl (q_ldmw ag23 sz23 rfl (by repeat first | exact Mem.upd_self _ _ _ | assumption | refine Mem.upd_ne (by assumption) ?_) rfl rfl) rfl rfl rfl ?_
  refine d_q rfl (q_b (cs := [_, .raw (.int .i64 0)]) bz23 bp23 (bf fo23_0 (e_raw rfl) rfl rfl (Nat.le_of_ble_eq_true rfl) rfl bf_nil)) rfl rfl rfl ?_
  refine d_q rfl (q_b (cs := [_, _]) bz23 bp23 (bf fo23_0 (e_raw rfl) rfl rfl (Nat.le_of_ble_eq_true rfl) rfl (bf fo23_1 (e_raw rfl) rfl rfl (Nat.le_of_ble_eq_true rfl) rfl bf_nil))) rfl rfl rfl ?_
  refine d_q rfl (q_mv (v_raw rfl)) rfl rfl rfl ?_
  refine d_q rfl (q_ldmw ag23 sz23 rfl (by repeat first | exact Mem.upd_self _ _ _ | assumption | refine Mem.upd_ne (by assumption) ?_) rfl rfl) rfl rfl rfl ?_
  refine d_s rfl ?_
  refine o_call ((e1 ▸ (snd21 d ⟨1, 0⟩ _).det)) goes21 (ac (v_agg rfl) (ac (v_agg rfl) ac_nil)) rfl ?_
  refine o_nil ⟨(by simp [Mem.upd, *]), ?_⟩
  refine d_s rfl ?_
  refine o_call ((snd27 ⟨2, 3⟩ n _ g_right hn).det) goes27 (ac (v_agg rfl) (ac (v_raw rfl) ac_nil)) rfl ?_
  refine o_nil ⟨(by simp [Mem.upd, *]), ?_⟩
  refine d_s rfl ?_
  refine o_call ((snd22 (md (subZ d ⟨1, 0⟩)) (pw ⟨2, 3⟩ n) _ (md_right _) (pw_right _ _)).det) goes22 (ac (v_agg rfl) (ac (v_agg rfl) ac_nil)) rfl ?_
  refine o_nil ⟨(by simp [Mem.upd, *]), ?_⟩
  refine d_s rfl ?_
  refine o_call ((e2 ▸ (snd20 (mulP (md (subZ d ⟨1, 0⟩)) (pw ⟨2, 3⟩ n)) e _).det)) goes20 (ac (v_agg rfl) (ac (v_agg rfl) ac_nil)) rfl ?_
  refine o_nil ⟨(by simp [Mem.upd, *]), ?_⟩
  refine d_s rfl ?_
  refine o_storew rfl (by repeat first | exact Mem.upd_self _ _ _ | assumption | refine Mem.upd_ne (by assumption) ?_) (by first | exact e_agg rfl | rfl) rfl sz23 rfl rfl rfl rfl ?_
  refine o_nil ⟨(by simp [Mem.upd, *]), ?_⟩
  refine d_nil ?_
  refine s_ret ?_
  refine s_end ?_
  exact ret_one (.inl rfl) rfl (rl_c rfl (by repeat first | exact Mem.upd_self _ _ _ | assumption | refine Mem.upd_ne (by assumption) ?_) (loadP_w ag23 sz23 rfl rfl) rfl rl_nil) ⟨rfl, (by repeat first | exact hle | exact Mem.le_refl M | assumption | exact Mem.none_of_le hle (by assumption) | refine Mem.le_upd ?_ ?_)⟩

def tk19 : Nat → Nat → Option Nat := fun _ _ => none
def pl19 : Nat → List PStep := fun _ => []
theorem cb19 : Try.f19.body.map (codeB Try.prog Try.f19.ntmps tk19 pl19) = some true := by kernel_rfl
theorem goes19 : goesB Try.prog 19 = true := by kernel_rfl
-- carillon/carillonlaw03.told params ['api.Pair', 'api.Errno', 'api.Pair', 'bool'] results [['t', 8]] own [] names ['0:a', '1:e', '2:b', '3:right', '4:a', '5:e', '6:b', '7:right'] calls [] paths 4

def toldB (a : Pr) (e : Int) (b : Pr) (r : Bool) : Bool := if r then decide (a = b) && decide (e = 0) else decide (a = ⟨0, 0⟩) && decide (e = 1)
theorem snd19 (a : Pr) (e : Int) (b : Pr) (r : Bool) (M : Mem) : SoundCall Try.prog 19 [encP a, int e, encP b, .raw (.bool r)] M fun t M' => t = .raw (.bool (toldB a e b r)) ∧ M.le M' := by
  refine SoundCall.go tk19 pl19 mixed Try.func19 cb19 rfl (Nat.le_of_ble_eq_true rfl) ?_
  refine s_seq ?_
  refine s_region ?_
  refine o_box (by first | exact e_raw rfl | exact e_agg rfl | exact e_sl rfl) rfl rfl (fun B1 hB1 => ?_)
  have m1 : M B1 = none := by have h := hB1; repeat (first | exact h | replace h := (Mem.upd_none h).2)
  refine o_box (by first | exact e_raw rfl | exact e_agg rfl | exact e_sl rfl) rfl rfl (fun B2 hB2 => ?_)
  have f1_2 : B1 ≠ B2 := Mem.fresh_ne hB2 (by repeat first | exact Mem.upd_self _ _ _ | assumption | refine Mem.upd_ne (by assumption) ?_)
  have g2_1 : B2 ≠ B1 := f1_2.symm
  have m2 : M B2 = none := by have h := hB2; repeat (first | exact h | replace h := (Mem.upd_none h).2)
  refine o_q (q_as (v_raw rfl)) rfl rfl rfl ?_
  refine o_nil ?_
  refine s_seq ?_
  refine s_seq ?_
  refine s_region ?_
  refine o_q (q_mv (v_raw rfl)) rfl rfl rfl ?_
  refine o_q (q_not rfl) rfl rfl rfl ?_
  refine o_nil ?_
  refine s_cond rfl (fun h1 => ?_) (fun h1 => ?_)
  · have k1 := h1; try simp only [decide_eq_true_eq, decide_eq_false_iff_not, Bool.not_eq_true', Bool.not_eq_false', Bool.not_true, Bool.not_false, List.length_map, Decidable.not_not] at k1
    refine s_seq ?_
    refine s_region ?_
    refine o_q (q_ldmw ag23 sz23 rfl (by repeat first | exact Mem.upd_self _ _ _ | assumption | refine Mem.upd_ne (by assumption) ?_) rfl rfl) rfl rfl rfl ?_
    refine o_q (q_b (cs := [.raw (.int .i64 0), .raw (.int .i64 0)]) bz23 bp23 bf_nil) rfl rfl rfl ?_
    refine o_q (q_bin' rfl rfl (binEqM _ _ a ⟨0, 0⟩)) rfl rfl rfl ?_
    refine o_q (q_mv (v_raw rfl)) rfl rfl rfl ?_
    refine o_cases (want := true) (j := 3) rfl rfl (fun h2 => ?_) (fun h2 => ?_)
    · have k2 := h2; try simp only [decide_eq_true_eq, decide_eq_false_iff_not, Bool.not_eq_true', Bool.not_eq_false', Bool.not_true, Bool.not_false, List.length_map, Decidable.not_not] at k2
      refine o_yes rfl rfl rfl h2 ?_
      refine o_q (q_mv (v_raw rfl)) rfl rfl rfl ?_
      refine o_yes rfl rfl rfl h2 ?_
      refine o_q (q_eql rfl rfl) rfl rfl rfl ?_
      refine o_q (q_pick_c (t := true) rfl h2 (v_raw rfl)) rfl rfl rfl ?_
      refine o_q (q_as (v_raw rfl)) rfl rfl rfl ?_
      refine o_nil ?_
      refine s_ret ?_
      refine s_code_ret ?_
      refine s_end ?_
      refine ⟨congrArg (fun b => AVal.raw (.bool b)) ?_, (by repeat first | exact hle | exact Mem.le_refl M | assumption | exact Mem.none_of_le hle (by assumption) | refine Mem.le_upd ?_ ?_)⟩
      simp_all [toldB]
    · have k2 := h2; try simp only [decide_eq_true_eq, decide_eq_false_iff_not, Bool.not_eq_true', Bool.not_eq_false', Bool.not_true, Bool.not_false, List.length_map, Decidable.not_not] at k2
      refine o_no rfl rfl rfl rfl h2 ?_
      refine o_no rfl rfl rfl rfl h2 ?_
      refine o_q (q_pick_c (t := false) rfl h2 (v_raw rfl)) rfl rfl rfl ?_
      refine o_q (q_as (v_raw rfl)) rfl rfl rfl ?_
      refine o_nil ?_
      refine s_ret ?_
      refine s_code_ret ?_
      refine s_end ?_
      refine ⟨congrArg (fun b => AVal.raw (.bool b)) ?_, (by repeat first | exact hle | exact Mem.le_refl M | assumption | exact Mem.none_of_le hle (by assumption) | refine Mem.le_upd ?_ ?_)⟩
      simp_all [toldB]
  · have k1 := h1; try simp only [decide_eq_true_eq, decide_eq_false_iff_not, Bool.not_eq_true', Bool.not_eq_false', Bool.not_true, Bool.not_false, List.length_map, Decidable.not_not] at k1
    refine s_skip ?_
    refine s_seq ?_
    refine s_region ?_
    refine o_q (q_ldmw ag23 sz23 rfl (by repeat first | exact Mem.upd_self _ _ _ | assumption | refine Mem.upd_ne (by assumption) ?_) rfl rfl) rfl rfl rfl ?_
    refine o_q (q_ldmw ag23 sz23 rfl (by repeat first | exact Mem.upd_self _ _ _ | assumption | refine Mem.upd_ne (by assumption) ?_) rfl rfl) rfl rfl rfl ?_
    refine o_q (q_bin' rfl rfl (binEqM _ _ a b)) rfl rfl rfl ?_
    refine o_q (q_mv (v_raw rfl)) rfl rfl rfl ?_
    refine o_cases (want := true) (j := 3) rfl rfl (fun h3 => ?_) (fun h3 => ?_)
    · have k3 := h3; try simp only [decide_eq_true_eq, decide_eq_false_iff_not, Bool.not_eq_true', Bool.not_eq_false', Bool.not_true, Bool.not_false, List.length_map, Decidable.not_not] at k3
      refine o_yes rfl rfl rfl h3 ?_
      refine o_q (q_mv (v_raw rfl)) rfl rfl rfl ?_
      refine o_yes rfl rfl rfl h3 ?_
      refine o_q (q_eql rfl rfl) rfl rfl rfl ?_
      refine o_q (q_pick_c (t := true) rfl h3 (v_raw rfl)) rfl rfl rfl ?_
      refine o_q (q_as (v_raw rfl)) rfl rfl rfl ?_
      refine o_nil ?_
      refine s_ret ?_
      refine s_end ?_
      refine ⟨congrArg (fun b => AVal.raw (.bool b)) ?_, (by repeat first | exact hle | exact Mem.le_refl M | assumption | exact Mem.none_of_le hle (by assumption) | refine Mem.le_upd ?_ ?_)⟩
      simp_all [toldB]
    · have k3 := h3; try simp only [decide_eq_true_eq, decide_eq_false_iff_not, Bool.not_eq_true', Bool.not_eq_false', Bool.not_true, Bool.not_false, List.length_map, Decidable.not_not] at k3
      refine o_no rfl rfl rfl rfl h3 ?_
      refine o_no rfl rfl rfl rfl h3 ?_
      refine o_q (q_pick_c (t := false) rfl h3 (v_raw rfl)) rfl rfl rfl ?_
      refine o_q (q_as (v_raw rfl)) rfl rfl rfl ?_
      refine o_nil ?_
      refine s_ret ?_
      refine s_end ?_
      refine ⟨congrArg (fun b => AVal.raw (.bool b)) ?_, (by repeat first | exact hle | exact Mem.le_refl M | assumption | exact Mem.none_of_le hle (by assumption) | refine Mem.le_upd ?_ ?_)⟩
      simp_all [toldB]

def tk12 : Nat → Nat → Option Nat := fun _ _ => none
def pl12 : Nat → List PStep := fun _ => []
theorem cb12 : Try.f12.body.map (codeB Try.prog Try.f12.ntmps tk12 pl12) = some true := by kernel_rfl
theorem goes12 : goesB Try.prog 12 = true := by kernel_rfl
-- carillon/carillonlaw03.right params ['api.Pair'] results [['cell', 2, 23]] own [] names ['0:a', '1:a'] calls [] paths 4
theorem snd12 (x : Pr) (M : Mem) : SoundCall Try.prog 12 [encP x] M fun r M' => r = encP (md x) ∧ M.le M' := by
  have t1 : x.re.tmod 33554383 < 33554383 := Int.tmod_lt_of_pos _ (by decide)
  have t2 : -33554383 < x.re.tmod 33554383 := by have := Int.tmod_lt_of_pos (-x.re) (b := 33554383) (by decide); rw [Int.neg_tmod] at this; omega
  have t3 := Int.mul_tdiv_add_tmod x.re 33554383
  have s1 : x.im.tmod 33554383 < 33554383 := Int.tmod_lt_of_pos _ (by decide)
  have s2 : -33554383 < x.im.tmod 33554383 := by have := Int.tmod_lt_of_pos (-x.im) (b := 33554383) (by decide); rw [Int.neg_tmod] at this; omega
  have s3 := Int.mul_tdiv_add_tmod x.im 33554383
  refine SoundCall.go tk12 pl12 mixed Try.func12 cb12 rfl (Nat.le_of_ble_eq_true rfl) ?_
  refine s_seq ?_
  refine s_region ?_
  refine o_box (by first | exact e_raw rfl | exact e_agg rfl | exact e_sl rfl) rfl rfl (fun B1 hB1 => ?_)
  have m1 : M B1 = none := by have h := hB1; repeat (first | exact h | replace h := (Mem.upd_none h).2)
  refine o_alloc zc23 (fun B2 hB2 => ?_)
  have f1_2 : B1 ≠ B2 := Mem.fresh_ne hB2 (by repeat first | exact Mem.upd_self _ _ _ | assumption | refine Mem.upd_ne (by assumption) ?_)
  have g2_1 : B2 ≠ B1 := f1_2.symm
  have m2 : M B2 = none := by have h := hB2; repeat (first | exact h | replace h := (Mem.upd_none h).2)
  refine o_nil ?_
  refine s_seq ?_
  refine s_region ?_
  refine o_q (q_fr fo23_0 rfl) rfl rfl rfl ?_
  refine o_q (q_ldm ag3 sz3 rfl (by repeat first | exact Mem.upd_self _ _ _ | assumption | refine Mem.upd_ne (by assumption) ?_) rfl (v_raw rfl)) rfl rfl rfl ?_
  refine o_q (q_rem rfl rfl (by decide)) rfl rfl rfl ?_
  refine o_q (q_fr fo23_0 rfl) rfl rfl rfl ?_
  refine o_store rfl (by repeat first | exact Mem.upd_self _ _ _ | assumption | refine Mem.upd_ne (by assumption) ?_) (by first | exact e_raw rfl | exact e_agg rfl | exact e_sl rfl | rfl) rfl sz3 rfl (Nat.le_of_ble_eq_true rfl) rfl rfl ?_
  refine o_nil ?_
  refine s_seq ?_
  refine s_region ?_
  refine o_q (q_fr fo23_1 rfl) rfl rfl rfl ?_
  refine o_q (q_ldm ag3 sz3 rfl (by repeat first | exact Mem.upd_self _ _ _ | assumption | refine Mem.upd_ne (by assumption) ?_) rfl (v_raw rfl)) rfl rfl rfl ?_
  refine o_q (q_rem rfl rfl (by decide)) rfl rfl rfl ?_
  refine o_q (q_fr fo23_1 rfl) rfl rfl rfl ?_
  refine o_store rfl (by repeat first | exact Mem.upd_self _ _ _ | assumption | refine Mem.upd_ne (by assumption) ?_) (by first | exact e_raw rfl | exact e_agg rfl | exact e_sl rfl | rfl) rfl sz3 rfl (Nat.le_of_ble_eq_true rfl) rfl rfl ?_
  refine o_nil ?_
  refine s_seq ?_
  refine s_seq ?_
  refine s_region ?_
  refine o_q (q_fr fo23_0 rfl) rfl rfl rfl ?_
  refine o_q (q_ldm ag3 sz3 rfl (by repeat first | exact Mem.upd_self _ _ _ | assumption | refine Mem.upd_ne (by assumption) ?_) rfl (v_raw rfl)) rfl rfl rfl ?_
  refine o_q (q_lss rfl rfl) rfl rfl rfl ?_
  refine o_nil ?_
  refine s_cond rfl (fun h1 => ?_) (fun h1 => ?_)
  · have k1 := h1; try simp only [decide_eq_true_eq, decide_eq_false_iff_not, Bool.not_eq_true', Bool.not_eq_false', Bool.not_true, Bool.not_false, List.length_map, Decidable.not_not] at k1
    refine s_region ?_
    refine o_q (q_fr fo23_0 rfl) rfl rfl rfl ?_
    refine o_q (q_ldm ag3 sz3 rfl (by repeat first | exact Mem.upd_self _ _ _ | assumption | refine Mem.upd_ne (by assumption) ?_) rfl (v_raw rfl)) rfl rfl rfl ?_
    refine o_q (q_add rfl rfl (wrap64 (by omega) (by omega))) rfl rfl rfl ?_
    refine o_q (q_fr fo23_0 rfl) rfl rfl rfl ?_
    refine o_store rfl (by repeat first | exact Mem.upd_self _ _ _ | assumption | refine Mem.upd_ne (by assumption) ?_) (by first | exact e_raw rfl | exact e_agg rfl | exact e_sl rfl | rfl) rfl sz3 rfl (Nat.le_of_ble_eq_true rfl) rfl rfl ?_
    refine o_nil ?_
    refine s_seq ?_
    refine s_seq ?_
    refine s_region ?_
    refine o_q (q_fr fo23_1 rfl) rfl rfl rfl ?_
    refine o_q (q_ldm ag3 sz3 rfl (by repeat first | exact Mem.upd_self _ _ _ | assumption | refine Mem.upd_ne (by assumption) ?_) rfl (v_raw rfl)) rfl rfl rfl ?_
    refine o_q (q_lss rfl rfl) rfl rfl rfl ?_
    refine o_nil ?_
    refine s_cond rfl (fun h2 => ?_) (fun h2 => ?_)
    · have k2 := h2; try simp only [decide_eq_true_eq, decide_eq_false_iff_not, Bool.not_eq_true', Bool.not_eq_false', Bool.not_true, Bool.not_false, List.length_map, Decidable.not_not] at k2
      refine s_region ?_
      refine o_q (q_fr fo23_1 rfl) rfl rfl rfl ?_
      refine o_q (q_ldm ag3 sz3 rfl (by repeat first | exact Mem.upd_self _ _ _ | assumption | refine Mem.upd_ne (by assumption) ?_) rfl (v_raw rfl)) rfl rfl rfl ?_
      refine o_q (q_add rfl rfl (wrap64 (by omega) (by omega))) rfl rfl rfl ?_
      refine o_q (q_fr fo23_1 rfl) rfl rfl rfl ?_
      refine o_store rfl (by repeat first | exact Mem.upd_self _ _ _ | assumption | refine Mem.upd_ne (by assumption) ?_) (by first | exact e_raw rfl | exact e_agg rfl | exact e_sl rfl | rfl) rfl sz3 rfl (Nat.le_of_ble_eq_true rfl) rfl rfl ?_
      refine o_nil ?_
      refine s_seq ?_
      refine s_region ?_
      refine o_q (q_ldmw ag23 sz23 rfl (by repeat first | exact Mem.upd_self _ _ _ | assumption | refine Mem.upd_ne (by assumption) ?_) rfl rfl) rfl rfl rfl ?_
      refine o_storew rfl (by repeat first | exact Mem.upd_self _ _ _ | assumption | refine Mem.upd_ne (by assumption) ?_) (by first | exact e_agg rfl | rfl) rfl sz23 rfl rfl rfl rfl ?_
      refine o_nil ?_
      refine s_ret ?_
      refine s_end ?_
      exact ret_one (.inl rfl) rfl (rl_c rfl (by repeat first | exact Mem.upd_self _ _ _ | assumption | refine Mem.upd_ne (by assumption) ?_) (loadP_w ag23 sz23 rfl rfl) rfl rl_nil) ⟨congrArg encP (show (⟨x.re.tmod 33554383 + 33554383, x.im.tmod 33554383 + 33554383⟩ : Pr) = md x by simp only [md, Pr.mk.injEq]; constructor <;> omega), (by repeat first | exact hle | exact Mem.le_refl M | assumption | exact Mem.none_of_le hle (by assumption) | refine Mem.le_upd ?_ ?_)⟩
    · have k2 := h2; try simp only [decide_eq_true_eq, decide_eq_false_iff_not, Bool.not_eq_true', Bool.not_eq_false', Bool.not_true, Bool.not_false, List.length_map, Decidable.not_not] at k2
      refine s_skip ?_
      refine s_seq ?_
      refine s_region ?_
      refine o_q (q_ldmw ag23 sz23 rfl (by repeat first | exact Mem.upd_self _ _ _ | assumption | refine Mem.upd_ne (by assumption) ?_) rfl rfl) rfl rfl rfl ?_
      refine o_storew rfl (by repeat first | exact Mem.upd_self _ _ _ | assumption | refine Mem.upd_ne (by assumption) ?_) (by first | exact e_agg rfl | rfl) rfl sz23 rfl rfl rfl rfl ?_
      refine o_nil ?_
      refine s_ret ?_
      refine s_end ?_
      exact ret_one (.inl rfl) rfl (rl_c rfl (by repeat first | exact Mem.upd_self _ _ _ | assumption | refine Mem.upd_ne (by assumption) ?_) (loadP_w ag23 sz23 rfl rfl) rfl rl_nil) ⟨congrArg encP (show (⟨x.re.tmod 33554383 + 33554383, x.im.tmod 33554383⟩ : Pr) = md x by simp only [md, Pr.mk.injEq]; constructor <;> omega), (by repeat first | exact hle | exact Mem.le_refl M | assumption | exact Mem.none_of_le hle (by assumption) | refine Mem.le_upd ?_ ?_)⟩
  · have k1 := h1; try simp only [decide_eq_true_eq, decide_eq_false_iff_not, Bool.not_eq_true', Bool.not_eq_false', Bool.not_true, Bool.not_false, List.length_map, Decidable.not_not] at k1
    refine s_skip ?_
    refine s_seq ?_
    refine s_seq ?_
    refine s_region ?_
    refine o_q (q_fr fo23_1 rfl) rfl rfl rfl ?_
    refine o_q (q_ldm ag3 sz3 rfl (by repeat first | exact Mem.upd_self _ _ _ | assumption | refine Mem.upd_ne (by assumption) ?_) rfl (v_raw rfl)) rfl rfl rfl ?_
    refine o_q (q_lss rfl rfl) rfl rfl rfl ?_
    refine o_nil ?_
    refine s_cond rfl (fun h3 => ?_) (fun h3 => ?_)
    · have k3 := h3; try simp only [decide_eq_true_eq, decide_eq_false_iff_not, Bool.not_eq_true', Bool.not_eq_false', Bool.not_true, Bool.not_false, List.length_map, Decidable.not_not] at k3
      refine s_region ?_
      refine o_q (q_fr fo23_1 rfl) rfl rfl rfl ?_
      refine o_q (q_ldm ag3 sz3 rfl (by repeat first | exact Mem.upd_self _ _ _ | assumption | refine Mem.upd_ne (by assumption) ?_) rfl (v_raw rfl)) rfl rfl rfl ?_
      refine o_q (q_add rfl rfl (wrap64 (by omega) (by omega))) rfl rfl rfl ?_
      refine o_q (q_fr fo23_1 rfl) rfl rfl rfl ?_
      refine o_store rfl (by repeat first | exact Mem.upd_self _ _ _ | assumption | refine Mem.upd_ne (by assumption) ?_) (by first | exact e_raw rfl | exact e_agg rfl | exact e_sl rfl | rfl) rfl sz3 rfl (Nat.le_of_ble_eq_true rfl) rfl rfl ?_
      refine o_nil ?_
      refine s_seq ?_
      refine s_region ?_
      refine o_q (q_ldmw ag23 sz23 rfl (by repeat first | exact Mem.upd_self _ _ _ | assumption | refine Mem.upd_ne (by assumption) ?_) rfl rfl) rfl rfl rfl ?_
      refine o_storew rfl (by repeat first | exact Mem.upd_self _ _ _ | assumption | refine Mem.upd_ne (by assumption) ?_) (by first | exact e_agg rfl | rfl) rfl sz23 rfl rfl rfl rfl ?_
      refine o_nil ?_
      refine s_ret ?_
      refine s_end ?_
      exact ret_one (.inl rfl) rfl (rl_c rfl (by repeat first | exact Mem.upd_self _ _ _ | assumption | refine Mem.upd_ne (by assumption) ?_) (loadP_w ag23 sz23 rfl rfl) rfl rl_nil) ⟨congrArg encP (show (⟨x.re.tmod 33554383, x.im.tmod 33554383 + 33554383⟩ : Pr) = md x by simp only [md, Pr.mk.injEq]; constructor <;> omega), (by repeat first | exact hle | exact Mem.le_refl M | assumption | exact Mem.none_of_le hle (by assumption) | refine Mem.le_upd ?_ ?_)⟩
    · have k3 := h3; try simp only [decide_eq_true_eq, decide_eq_false_iff_not, Bool.not_eq_true', Bool.not_eq_false', Bool.not_true, Bool.not_false, List.length_map, Decidable.not_not] at k3
      refine s_skip ?_
      refine s_seq ?_
      refine s_region ?_
      refine o_q (q_ldmw ag23 sz23 rfl (by repeat first | exact Mem.upd_self _ _ _ | assumption | refine Mem.upd_ne (by assumption) ?_) rfl rfl) rfl rfl rfl ?_
      refine o_storew rfl (by repeat first | exact Mem.upd_self _ _ _ | assumption | refine Mem.upd_ne (by assumption) ?_) (by first | exact e_agg rfl | rfl) rfl sz23 rfl rfl rfl rfl ?_
      refine o_nil ?_
      refine s_ret ?_
      refine s_end ?_
      exact ret_one (.inl rfl) rfl (rl_c rfl (by repeat first | exact Mem.upd_self _ _ _ | assumption | refine Mem.upd_ne (by assumption) ?_) (loadP_w ag23 sz23 rfl rfl) rfl rl_nil) ⟨congrArg encP (show (⟨x.re.tmod 33554383, x.im.tmod 33554383⟩ : Pr) = md x by simp only [md, Pr.mk.injEq]; constructor <;> omega), (by repeat first | exact hle | exact Mem.le_refl M | assumption | exact Mem.none_of_le hle (by assumption) | refine Mem.le_upd ?_ ?_)⟩

def tk15 : Nat → Nat → Option Nat := fun _ _ => none
def pl15 : Nat → List PStep := fun _ => []
theorem cb15 : Try.f15.body.map (codeB Try.prog Try.f15.ntmps tk15 pl15) = some true := by kernel_rfl
theorem goes15 : goesB Try.prog 15 = true := by kernel_rfl
-- carillon/carillonlaw03.norm params ['api.Pair'] results [['t', 2]] own [] names ['0:a', '1:a'] calls [] paths 1
theorem snd15 (x : Pr) (M : Mem) (hx : right x = true) : SoundCall Try.prog 15 [encP x] M fun r M' => r = int (nrm x) ∧ M.le M' := by
  have rx := right_spec.1 hx
  have b1 := mul_bound' rx.1 rx.2.1 rx.1 rx.2.1
  have b2 := mul_bound' rx.2.2.1 rx.2.2.2 rx.2.2.1 rx.2.2.2
  have u1 := Int.tmod_eq_emod_of_nonneg (b := 33554383) b1.1
  have u2 := Int.tmod_eq_emod_of_nonneg (b := 33554383) b2.1
  refine SoundCall.go tk15 pl15 mixed Try.func15 cb15 rfl (Nat.le_of_ble_eq_true rfl) ?_
  refine s_seq ?_
  refine s_region ?_
  refine o_box (by first | exact e_raw rfl | exact e_agg rfl | exact e_sl rfl) rfl rfl (fun B1 hB1 => ?_)
  have m1 : M B1 = none := by have h := hB1; repeat (first | exact h | replace h := (Mem.upd_none h).2)
  refine o_q (q_as (v_raw rfl)) rfl rfl rfl ?_
  refine o_nil ?_
  refine s_seq ?_
  refine s_region ?_
  refine o_q (q_fr fo23_0 rfl) rfl rfl rfl ?_
  refine o_q (q_ldm ag3 sz3 rfl (by repeat first | exact Mem.upd_self _ _ _ | assumption | refine Mem.upd_ne (by assumption) ?_) rfl (v_raw rfl)) rfl rfl rfl ?_
  refine o_q (q_fr fo23_0 rfl) rfl rfl rfl ?_
  refine o_q (q_ldm ag3 sz3 rfl (by repeat first | exact Mem.upd_self _ _ _ | assumption | refine Mem.upd_ne (by assumption) ?_) rfl (v_raw rfl)) rfl rfl rfl ?_
  refine o_q (q_mul rfl rfl (wrap64 (by omega) (by omega))) rfl rfl rfl ?_
  refine o_q (q_rem rfl rfl (by decide)) rfl rfl rfl ?_
  refine o_q (q_fr fo23_1 rfl) rfl rfl rfl ?_
  refine o_q (q_ldm ag3 sz3 rfl (by repeat first | exact Mem.upd_self _ _ _ | assumption | refine Mem.upd_ne (by assumption) ?_) rfl (v_raw rfl)) rfl rfl rfl ?_
  refine o_q (q_fr fo23_1 rfl) rfl rfl rfl ?_
  refine o_q (q_ldm ag3 sz3 rfl (by repeat first | exact Mem.upd_self _ _ _ | assumption | refine Mem.upd_ne (by assumption) ?_) rfl (v_raw rfl)) rfl rfl rfl ?_
  refine o_q (q_mul rfl rfl (wrap64 (by omega) (by omega))) rfl rfl rfl ?_
  refine o_q (q_rem rfl rfl (by decide)) rfl rfl rfl ?_
  refine o_q (q_add rfl rfl (wrap64 (by omega) (by omega))) rfl rfl rfl ?_
  refine o_q (q_rem rfl rfl (by decide)) rfl rfl rfl ?_
  refine o_q (q_as (v_raw rfl)) rfl rfl rfl ?_
  refine o_nil ?_
  refine s_ret ?_
  refine s_end ?_
  refine ⟨congrArg int (?_ : ((x.re * x.re).tmod 33554383 + (x.im * x.im).tmod 33554383).tmod 33554383 = nrm x), (by repeat first | exact hle | exact Mem.le_refl M | assumption | exact Mem.none_of_le hle (by assumption) | refine Mem.le_upd ?_ ?_)⟩
  rw [Int.tmod_eq_emod_of_nonneg (by omega), u1, u2]
  unfold nrm
  omega

def tk11 : Nat → Nat → Option Nat := fun _ _ => none
def pl11 : Nat → List PStep := fun _ => []
theorem cb11 : Try.f11.body.map (codeB Try.prog Try.f11.ntmps tk11 pl11) = some true := by kernel_rfl
theorem goes11 : goesB Try.prog 11 = true := by kernel_rfl
-- carillon/carillonlaw03.examples params [] results [['t', 0]] own [] names ['1:i', '2:a', '3:e', '4:b', '5:f', '6:c', '7:g', '8:d', '9:h', '10:_', '11:k'] calls [13, 14, 25, 31] paths 1
set_option maxRecDepth 20000 in
theorem snd11 (M : Mem) : SoundCall Try.prog 11 [] M fun r M' => r = .raw (.bool true) ∧ M.le M' := by
  refine SoundCall.go tk11 pl11 mixed Try.func11 cb11 rfl (Nat.le_of_ble_eq_true rfl) ?_
  refine s_seq ?_
  refine s_region ?_
  refine o_q (q_as (v_raw rfl)) rfl rfl rfl ?_
  refine o_nil ?_
  refine s_seq ?_
  refine s_region ?_
  refine o_q (q_b (cs := [.raw (.int .i64 0), _]) bz23 bp23 (bf fo23_1 (e_raw rfl) rfl rfl (Nat.le_of_ble_eq_true rfl) rfl bf_nil)) rfl rfl rfl ?_
  refine o_alloc zc23 (fun B1 hB1 => ?_)
  have m1 : M B1 = none := by have h := hB1; repeat (first | exact h | replace h := (Mem.upd_none h).2)
  refine o_storew rfl (by repeat first | exact Mem.upd_self _ _ _ | assumption | refine Mem.upd_ne (by assumption) ?_) (by first | exact e_agg rfl | rfl) rfl sz23 rfl rfl rfl rfl ?_
  refine o_nil ?_
  refine s_seq ?_
  refine s_region ?_
  refine o_q (q_ldmw ag23 sz23 rfl (by repeat first | exact Mem.upd_self _ _ _ | assumption | refine Mem.upd_ne (by assumption) ?_) rfl rfl) rfl rfl rfl ?_
  refine o_q (q_ldmw ag23 sz23 rfl (by repeat first | exact Mem.upd_self _ _ _ | assumption | refine Mem.upd_ne (by assumption) ?_) rfl rfl) rfl rfl rfl ?_
  refine o_call ((snd14 ⟨0, 1⟩ ⟨0, 1⟩ _).det) goes14 (ac (v_agg rfl) (ac (v_agg rfl) ac_nil)) rfl ?_
  refine o_q (q_mv (v_tup rfl)) rfl rfl rfl ?_
  refine o_q (q_ext rfl rfl (v_agg rfl)) rfl rfl rfl ?_
  refine o_q (q_ext rfl rfl (v_raw rfl)) rfl rfl rfl ?_
  refine o_alloc zc23 (fun B2 hB2 => ?_)
  have f1_2 : B1 ≠ B2 := Mem.fresh_ne hB2 (by repeat first | exact Mem.upd_self _ _ _ | assumption | refine Mem.upd_ne (by assumption) ?_)
  have g2_1 : B2 ≠ B1 := f1_2.symm
  have m2 : M B2 = none := by have h := hB2; repeat (first | exact h | replace h := (Mem.upd_none h).2)
  refine o_storew rfl (by repeat first | exact Mem.upd_self _ _ _ | assumption | refine Mem.upd_ne (by assumption) ?_) (by first | exact e_agg rfl | rfl) rfl sz23 rfl rfl rfl rfl ?_
  refine o_q (q_as (v_raw rfl)) rfl rfl rfl ?_
  refine o_nil ?_
  refine s_seq ?_
  refine s_region ?_
  refine o_q (q_ldmw ag23 sz23 rfl (by repeat first | exact Mem.upd_self _ _ _ | assumption | refine Mem.upd_ne (by assumption) ?_) rfl rfl) rfl rfl rfl ?_
  refine o_call ((snd25 ⟨0, 1⟩ _).det) goes25 (ac (v_agg rfl) ac_nil) rfl ?_
  refine o_q (q_mv (v_tup rfl)) rfl rfl rfl ?_
  refine o_q (q_ext rfl rfl (v_agg rfl)) rfl rfl rfl ?_
  refine o_q (q_ext rfl rfl (v_raw rfl)) rfl rfl rfl ?_
  refine o_alloc zc23 (fun B3 hB3 => ?_)
  have f1_3 : B1 ≠ B3 := Mem.fresh_ne hB3 (by repeat first | exact Mem.upd_self _ _ _ | assumption | refine Mem.upd_ne (by assumption) ?_)
  have g3_1 : B3 ≠ B1 := f1_3.symm
  have f2_3 : B2 ≠ B3 := Mem.fresh_ne hB3 (by repeat first | exact Mem.upd_self _ _ _ | assumption | refine Mem.upd_ne (by assumption) ?_)
  have g3_2 : B3 ≠ B2 := f2_3.symm
  have m3 : M B3 = none := by have h := hB3; repeat (first | exact h | replace h := (Mem.upd_none h).2)
  refine o_storew rfl (by repeat first | exact Mem.upd_self _ _ _ | assumption | refine Mem.upd_ne (by assumption) ?_) (by first | exact e_agg rfl | rfl) rfl sz23 rfl rfl rfl rfl ?_
  refine o_q (q_as (v_raw rfl)) rfl rfl rfl ?_
  refine o_nil ?_
  refine s_seq ?_
  refine s_region ?_
  refine o_call ((snd31 _).det) goes31 ac_nil rfl ?_
  refine o_call ((snd13 ⟨1, 0⟩ ⟨#[]⟩ _ (by decide)).det) goes13 (ac (v_agg rfl) (ac (v_raw rfl) ac_nil)) rfl ?_
  refine o_q (q_mv (v_tup rfl)) rfl rfl rfl ?_
  refine o_q (q_ext rfl rfl (v_agg rfl)) rfl rfl rfl ?_
  refine o_q (q_ext rfl rfl (v_raw rfl)) rfl rfl rfl ?_
  refine o_alloc zc23 (fun B4 hB4 => ?_)
  have f1_4 : B1 ≠ B4 := Mem.fresh_ne hB4 (by repeat first | exact Mem.upd_self _ _ _ | assumption | refine Mem.upd_ne (by assumption) ?_)
  have g4_1 : B4 ≠ B1 := f1_4.symm
  have f2_4 : B2 ≠ B4 := Mem.fresh_ne hB4 (by repeat first | exact Mem.upd_self _ _ _ | assumption | refine Mem.upd_ne (by assumption) ?_)
  have g4_2 : B4 ≠ B2 := f2_4.symm
  have f3_4 : B3 ≠ B4 := Mem.fresh_ne hB4 (by repeat first | exact Mem.upd_self _ _ _ | assumption | refine Mem.upd_ne (by assumption) ?_)
  have g4_3 : B4 ≠ B3 := f3_4.symm
  have m4 : M B4 = none := by have h := hB4; repeat (first | exact h | replace h := (Mem.upd_none h).2)
  refine o_storew rfl (by repeat first | exact Mem.upd_self _ _ _ | assumption | refine Mem.upd_ne (by assumption) ?_) (by first | exact e_agg rfl | rfl) rfl sz23 rfl rfl rfl rfl ?_
  refine o_q (q_as (v_raw rfl)) rfl rfl rfl ?_
  refine o_nil ?_
  refine s_seq ?_
  refine s_region ?_
  refine o_call ((snd31 _).det) goes31 ac_nil rfl ?_
  refine o_call ((snd13 ⟨1, 0⟩ ⟨#[97]⟩ _ (by decide)).det) goes13 (ac (v_agg rfl) (ac (v_raw rfl) ac_nil)) rfl ?_
  refine o_q (q_mv (v_tup rfl)) rfl rfl rfl ?_
  refine o_q (q_ext rfl rfl (v_agg rfl)) rfl rfl rfl ?_
  refine o_q (q_ext rfl rfl (v_raw rfl)) rfl rfl rfl ?_
  refine o_alloc zc23 (fun B5 hB5 => ?_)
  have f1_5 : B1 ≠ B5 := Mem.fresh_ne hB5 (by repeat first | exact Mem.upd_self _ _ _ | assumption | refine Mem.upd_ne (by assumption) ?_)
  have g5_1 : B5 ≠ B1 := f1_5.symm
  have f2_5 : B2 ≠ B5 := Mem.fresh_ne hB5 (by repeat first | exact Mem.upd_self _ _ _ | assumption | refine Mem.upd_ne (by assumption) ?_)
  have g5_2 : B5 ≠ B2 := f2_5.symm
  have f3_5 : B3 ≠ B5 := Mem.fresh_ne hB5 (by repeat first | exact Mem.upd_self _ _ _ | assumption | refine Mem.upd_ne (by assumption) ?_)
  have g5_3 : B5 ≠ B3 := f3_5.symm
  have f4_5 : B4 ≠ B5 := Mem.fresh_ne hB5 (by repeat first | exact Mem.upd_self _ _ _ | assumption | refine Mem.upd_ne (by assumption) ?_)
  have g5_4 : B5 ≠ B4 := f4_5.symm
  have m5 : M B5 = none := by have h := hB5; repeat (first | exact h | replace h := (Mem.upd_none h).2)
  refine o_storew rfl (by repeat first | exact Mem.upd_self _ _ _ | assumption | refine Mem.upd_ne (by assumption) ?_) (by first | exact e_agg rfl | rfl) rfl sz23 rfl rfl rfl rfl ?_
  refine o_q (q_as (v_raw rfl)) rfl rfl rfl ?_
  refine o_nil ?_
  refine s_seq ?_
  refine s_region ?_
  refine o_q (q_b (cs := [.raw (.int .i64 0), .raw (.int .i64 0)]) bz23 bp23 bf_nil) rfl rfl rfl ?_
  refine o_call ((snd25 ⟨0, 0⟩ _).det) goes25 (ac (v_agg rfl) ac_nil) rfl ?_
  refine o_q (q_mv (v_tup rfl)) rfl rfl rfl ?_
  refine o_q (q_ext rfl rfl (v_agg rfl)) rfl rfl rfl ?_
  refine o_q (q_ext rfl rfl (v_raw rfl)) rfl rfl rfl ?_
  refine o_alloc zc23 (fun B6 hB6 => ?_)
  have f1_6 : B1 ≠ B6 := Mem.fresh_ne hB6 (by repeat first | exact Mem.upd_self _ _ _ | assumption | refine Mem.upd_ne (by assumption) ?_)
  have g6_1 : B6 ≠ B1 := f1_6.symm
  have f2_6 : B2 ≠ B6 := Mem.fresh_ne hB6 (by repeat first | exact Mem.upd_self _ _ _ | assumption | refine Mem.upd_ne (by assumption) ?_)
  have g6_2 : B6 ≠ B2 := f2_6.symm
  have f3_6 : B3 ≠ B6 := Mem.fresh_ne hB6 (by repeat first | exact Mem.upd_self _ _ _ | assumption | refine Mem.upd_ne (by assumption) ?_)
  have g6_3 : B6 ≠ B3 := f3_6.symm
  have f4_6 : B4 ≠ B6 := Mem.fresh_ne hB6 (by repeat first | exact Mem.upd_self _ _ _ | assumption | refine Mem.upd_ne (by assumption) ?_)
  have g6_4 : B6 ≠ B4 := f4_6.symm
  have f5_6 : B5 ≠ B6 := Mem.fresh_ne hB6 (by repeat first | exact Mem.upd_self _ _ _ | assumption | refine Mem.upd_ne (by assumption) ?_)
  have g6_5 : B6 ≠ B5 := f5_6.symm
  have m6 : M B6 = none := by have h := hB6; repeat (first | exact h | replace h := (Mem.upd_none h).2)
  refine o_storew rfl (by repeat first | exact Mem.upd_self _ _ _ | assumption | refine Mem.upd_ne (by assumption) ?_) (by first | exact e_agg rfl | rfl) rfl sz23 rfl rfl rfl rfl ?_
  refine o_q (q_as (v_raw rfl)) rfl rfl rfl ?_
  refine o_nil ?_
  refine s_seq ?_
  refine s_region ?_
  refine o_q (q_ldmw ag23 sz23 rfl (by repeat first | exact Mem.upd_self _ _ _ | assumption | refine Mem.upd_ne (by assumption) ?_) rfl rfl) rfl rfl rfl ?_
  refine o_q (q_b (cs := [_, .raw (.int .i64 0)]) bz23 bp23 (bf fo23_0 (e_raw rfl) rfl rfl (Nat.le_of_ble_eq_true rfl) rfl bf_nil)) rfl rfl rfl ?_
  refine o_q (q_bin' rfl rfl (binEqM _ _ _ ⟨33554382, 0⟩)) rfl rfl rfl ?_
  refine o_q (q_mv (v_raw rfl)) rfl rfl rfl ?_
  refine o_yes rfl rfl rfl (by decide +kernel) ?_
  refine o_q (q_mv (v_raw rfl)) rfl rfl rfl ?_
  refine o_yes rfl rfl rfl (by decide +kernel) ?_
  refine o_q (q_eql rfl rfl) rfl rfl rfl ?_
  refine o_q (q_pick_c (t := true) rfl (by decide +kernel) (v_raw rfl)) rfl rfl rfl ?_
  refine o_q (q_mv (v_raw rfl)) rfl rfl rfl ?_
  refine o_yes rfl rfl rfl (by decide +kernel) ?_
  refine o_q (q_ldmw ag23 sz23 rfl (by repeat first | exact Mem.upd_self _ _ _ | assumption | refine Mem.upd_ne (by assumption) ?_) rfl rfl) rfl rfl rfl ?_
  refine o_yes rfl rfl rfl (by decide +kernel) ?_
  refine o_q (q_b (cs := [.raw (.int .i64 0), _]) bz23 bp23 (bf fo23_1 (e_raw rfl) rfl rfl (Nat.le_of_ble_eq_true rfl) rfl bf_nil)) rfl rfl rfl ?_
  refine o_yes rfl rfl rfl (by decide +kernel) ?_
  refine o_q (q_bin' rfl rfl (binEqM _ _ _ ⟨0, 33554382⟩)) rfl rfl rfl ?_
  refine o_q (q_pick_c (t := true) rfl (by decide +kernel) (v_raw rfl)) rfl rfl rfl ?_
  refine o_q (q_mv (v_raw rfl)) rfl rfl rfl ?_
  refine o_yes rfl rfl rfl (by decide +kernel) ?_
  refine o_q (q_mv (v_raw rfl)) rfl rfl rfl ?_
  refine o_yes rfl rfl rfl (by decide +kernel) ?_
  refine o_q (q_eql rfl rfl) rfl rfl rfl ?_
  refine o_q (q_pick_c (t := true) rfl (by decide +kernel) (v_raw rfl)) rfl rfl rfl ?_
  refine o_q (q_mv (v_raw rfl)) rfl rfl rfl ?_
  refine o_yes rfl rfl rfl (by decide +kernel) ?_
  refine o_q (q_ldmw ag23 sz23 rfl (by repeat first | exact Mem.upd_self _ _ _ | assumption | refine Mem.upd_ne (by assumption) ?_) rfl rfl) rfl rfl rfl ?_
  refine o_yes rfl rfl rfl (by decide +kernel) ?_
  refine o_q (q_b (cs := [_, _]) bz23 bp23 (bf fo23_0 (e_raw rfl) rfl rfl (Nat.le_of_ble_eq_true rfl) rfl (bf fo23_1 (e_raw rfl) rfl rfl (Nat.le_of_ble_eq_true rfl) rfl bf_nil))) rfl rfl rfl ?_
  refine o_yes rfl rfl rfl (by decide +kernel) ?_
  refine o_q (q_bin' rfl rfl (binEqM _ _ _ ⟨259, 3⟩)) rfl rfl rfl ?_
  refine o_q (q_pick_c (t := true) rfl (by decide +kernel) (v_raw rfl)) rfl rfl rfl ?_
  refine o_q (q_mv (v_raw rfl)) rfl rfl rfl ?_
  refine o_yes rfl rfl rfl (by decide +kernel) ?_
  refine o_q (q_mv (v_raw rfl)) rfl rfl rfl ?_
  refine o_yes rfl rfl rfl (by decide +kernel) ?_
  refine o_q (q_eql rfl rfl) rfl rfl rfl ?_
  refine o_q (q_pick_c (t := true) rfl (by decide +kernel) (v_raw rfl)) rfl rfl rfl ?_
  refine o_q (q_mv (v_raw rfl)) rfl rfl rfl ?_
  refine o_yes rfl rfl rfl (by decide +kernel) ?_
  refine o_q (q_ldmw ag23 sz23 rfl (by repeat first | exact Mem.upd_self _ _ _ | assumption | refine Mem.upd_ne (by assumption) ?_) rfl rfl) rfl rfl rfl ?_
  refine o_yes rfl rfl rfl (by decide +kernel) ?_
  refine o_q (q_b (cs := [_, _]) bz23 bp23 (bf fo23_0 (e_raw rfl) rfl rfl (Nat.le_of_ble_eq_true rfl) rfl (bf fo23_1 (e_raw rfl) rfl rfl (Nat.le_of_ble_eq_true rfl) rfl bf_nil))) rfl rfl rfl ?_
  refine o_yes rfl rfl rfl (by decide +kernel) ?_
  refine o_q (q_bin' rfl rfl (binEqM _ _ _ ⟨609, 786⟩)) rfl rfl rfl ?_
  refine o_q (q_pick_c (t := true) rfl (by decide +kernel) (v_raw rfl)) rfl rfl rfl ?_
  refine o_q (q_mv (v_raw rfl)) rfl rfl rfl ?_
  refine o_yes rfl rfl rfl (by decide +kernel) ?_
  refine o_q (q_mv (v_raw rfl)) rfl rfl rfl ?_
  refine o_yes rfl rfl rfl (by decide +kernel) ?_
  refine o_q (q_eql rfl rfl) rfl rfl rfl ?_
  refine o_q (q_pick_c (t := true) rfl (by decide +kernel) (v_raw rfl)) rfl rfl rfl ?_
  refine o_q (q_mv (v_raw rfl)) rfl rfl rfl ?_
  refine o_yes rfl rfl rfl (by decide +kernel) ?_
  refine o_q (q_mv (v_raw rfl)) rfl rfl rfl ?_
  refine o_yes rfl rfl rfl (by decide +kernel) ?_
  refine o_q (q_eql rfl rfl) rfl rfl rfl ?_
  refine o_q (q_pick_c (t := true) rfl (by decide +kernel) (v_raw rfl)) rfl rfl rfl ?_
  refine o_q (q_as (v_raw rfl)) rfl rfl rfl ?_
  refine o_nil ?_
  refine s_ret ?_
  refine s_end ?_
  exact ⟨congrArg (fun b => AVal.raw (.bool b)) (by decide +kernel), (by repeat first | exact hle | exact Mem.le_refl M | assumption | exact Mem.none_of_le hle (by assumption) | refine Mem.le_upd ?_ ?_)⟩
end C3
