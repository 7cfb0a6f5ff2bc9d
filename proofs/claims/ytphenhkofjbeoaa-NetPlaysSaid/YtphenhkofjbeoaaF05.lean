import Derived.Test.YtphenhkofjbeoaaE05
import Derived.Test.YtphenhkofjbeoaaProg
/-! Chapter 5: the net: what its functions compute. -/
open Go Go.Proofs Go.Am
set_option linter.unusedVariables false
set_option linter.unusedSimpArgs false
set_option autoImplicit false
namespace C05
theorem und4 : Try.prog.underlying 4 = some .bool := by kernel_rfl
def tk3 : Nat → Nat → Option Nat := fun _ _ => none
def pl3 : Nat → List PStep
  | 12 => [.q 0, .q 1, .q 2, .q 3, .q 4, .q 5, .q 6, .q 7, .q 8, .q 9]
  | _ => []
theorem cb3 : Try.f3.body.map (codeB Try.prog Try.f3.ntmps tk3 pl3) = some true := by kernel_rfl
theorem goes3 : goesB Try.prog 3 = true := by kernel_rfl
-- carillon/carillonlaw05.NetCuts params ['int', 'int', 'int', 'int', 'string'] results [['t', 10]] own [] names ['0:n', '1:side', '2:a', '3:b', '4:s', '5:n', '6:side', '7:a', '8:b', '9:s', '11:head', '12:x', '13:_', '14:sent', '15:joined', '16:twice', '17:t', '18:ok', '19:u', '20:is'] calls [7, 8, 9, 10, 11, 12, 13, 14] paths 12

theorem okS_eq {N : Int} {q : K2 → List ByteArray} {a b : Int} (ha : 0 ≤ a ∧ a < N) (hb : 0 ≤ b ∧ b < N) (hq : (q (a, b)).length < 64) : okS N q a b = decide (a ≠ b) := by
  unfold okS inN; rw [decide_eq_true ha, decide_eq_true hb, decide_eq_true hq]; simp
theorem setQ_at {q : K2 → List ByteArray} {k : K2} {l : List ByteArray} : setQ q k l k = l := by unfold setQ; rw [if_pos rfl]
def cq1 (N A B : Int) (s : ByteArray) : K2 → List ByteArray := sendQ N (fun _ => []) A B s
def cq2 (N A B : Int) (s : ByteArray) : K2 → List ByteArray := if atB (cq1 N A B s) A B 0 then sendQ N (cq1 N A B s) A B (atS (cq1 N A B s) A B 0) else cq1 N A B s
def cq3 (N A B : Int) (sd : Nat) (s : ByteArray) : K2 → List ByteArray := if joined N sd A B then atQ (cq2 N A B s) A B 0 true else cq2 N A B s
theorem cuts_law {N A B : Int} {sd : Nat} {s : ByteArray} (hA : 0 ≤ A ∧ A < N) (hB : 0 ≤ B ∧ B < N) : okS N (fun _ => []) A B = decide (A ≠ B) ∧ (atB (cq1 N A B s) A B 0 && okS N (cq1 N A B s) A B) = decide (A ≠ B) ∧ atB (cq2 N A B s) A B 0 = decide (A ≠ B) ∧ (A ≠ B → atS (cq2 N A B s) A B 0 = s) ∧ atB (cq3 N A B sd s) A B 0 = decide (A ≠ B) ∧ (A ≠ B → atS (cq3 N A B sd s) A B 0 = s) := by
  have h0 : okS N (fun _ => []) A B = decide (A ≠ B) := okS_eq hA hB (by simp)
  by_cases hAB : A = B
  · have e1 : cq1 N A B s = fun _ => [] := by unfold cq1 sendQ; rw [h0, if_neg (by simp [hAB])]
    have e2 : cq2 N A B s = fun _ => [] := by unfold cq2; rw [e1, if_neg (by simp [atB])]
    have e3 : cq3 N A B sd s = fun _ => [] := by
      unfold cq3; rw [e2]
      have : atQ (fun _ => []) A B 0 true = fun _ => [] := by unfold atQ; rw [if_neg (by simp [atB])]
      rw [this, ite_self]
    refine ⟨h0, ?_, ?_, fun h => absurd hAB h, ?_, fun h => absurd hAB h⟩
    · rw [e1]; simp [atB, hAB]
    · rw [e2]; simp [atB, hAB]
    · rw [e3]; simp [atB, hAB]
  · have e1 : cq1 N A B s = setQ (fun _ => []) (A, B) [s] := by unfold cq1 sendQ; rw [h0, if_pos (by simp [hAB])]; rfl
    have a1 : cq1 N A B s (A, B) = [s] := by rw [e1, setQ_at]
    have b1 : atB (cq1 N A B s) A B 0 = true := by unfold atB; rw [a1]; simp
    have o1 : okS N (cq1 N A B s) A B = true := by rw [okS_eq hA hB (by rw [a1]; simp)]; simp [hAB]
    have s1 : atS (cq1 N A B s) A B 0 = s := by unfold atS; rw [b1, a1]; rfl
    have a2 : cq2 N A B s (A, B) = [s, s] := by unfold cq2; rw [b1, s1]; unfold sendQ; rw [o1, a1]; simp [setQ_at]
    have b2 : atB (cq2 N A B s) A B 0 = true := by unfold atB; rw [a2]; simp
    have s2 : atS (cq2 N A B s) A B 0 = s := by unfold atS; rw [b2, a2]; rfl
    have a3 : cq3 N A B sd s (A, B) = [s] ∨ cq3 N A B sd s (A, B) = [s, s] := by
      unfold cq3
      split
      · left; unfold atQ; rw [b2]; simp [setQ_at, a2]
      · right; exact a2
    have b3 : atB (cq3 N A B sd s) A B 0 = true := by unfold atB; rcases a3 with h | h <;> rw [h] <;> simp
    have s3 : atS (cq3 N A B sd s) A B 0 = s := by unfold atS; rw [b3]; rcases a3 with h | h <;> rw [h] <;> rfl
    have hd : decide (A ≠ B) = true := by simp [hAB]
    rw [hd]
    exact ⟨by rw [h0, hd], by rw [b1, o1]; rfl, b2, fun _ => s2, b3, fun _ => s3⟩
theorem joined_law {N A B : Int} {sd : Nat} (hA : 0 ≤ A ∧ A < N) (hB : 0 ≤ B ∧ B < N) : joined N sd A B = decide (((sd / 2 ^ A.toNat : Nat) : Int).tmod 2 = ((sd / 2 ^ B.toNat : Nat) : Int).tmod 2) ∧ joined N sd B A = joined N sd A B := by
  unfold joined
  rw [decide_eq_true hA, decide_eq_true hB]
  constructor
  · simp only [Bool.true_and]
    rw [decide_eq_decide, Int.tmod_eq_emod_of_nonneg (Int.natCast_nonneg _), Int.tmod_eq_emod_of_nonneg (Int.natCast_nonneg _)]
    omega
  · simp only [Bool.true_and, eq_comm]
theorem joined0 {N A B : Int} (hA : 0 ≤ A ∧ A < N) (hB : 0 ≤ B ∧ B < N) : joined N 0 A B = true := by
  unfold joined
  rw [decide_eq_true hA, decide_eq_true hB]
  simp

theorem take_cut {M : Mem} {x : Nat} {N A B : Int} {sd : Nat} {s : ByteArray} {O : Nat → Prop} {J D : Bool} (h : NetO M x N sd (cq2 N A B s) O) (hJ : joined N sd A B = J) (c3 : atB (cq2 N A B s) A B 0 = D) (c4 : D = true → atS (cq2 N A B s) A B 0 = s) : SoundCall Try.prog 13 [ptr x, int A, int B, int 0] M fun r M' => ∃ u O', r = .tup [str u, bool (J && D)] ∧ ((J && D) = true → u = s) ∧ NetO M' x N sd (cq3 N A B sd s) O' ∧ Chg M M' O O' :=
  (take13 h A B 0).mono fun r M' ⟨O', e, h', c⟩ => ⟨_, O', e.trans (by rw [hJ, c3]), fun hjd => by
    rw [Bool.and_eq_true] at hjd
    rw [if_pos hjd.1]; exact c4 hjd.2, h', c⟩
theorem take_all {M : Mem} {x : Nat} {N A B : Int} {s : ByteArray} {q : K2 → List ByteArray} {O : Nat → Prop} {D : Bool} (h : NetO M x N (0 : Int).toNat q O) (j0 : joined N 0 A B = true) (c5 : atB q A B 0 = D) (c6 : D = true → atS q A B 0 = s) : SoundCall Try.prog 13 [ptr x, int A, int B, int 0] M fun r M' => ∃ u O' q', r = .tup [str u, bool D] ∧ (D = true → u = s) ∧ NetO M' x N 0 q' O' ∧ Chg M M' O O' :=
  (take13 h A B 0).mono fun r M' ⟨O', e, h', c⟩ => ⟨_, O', _, e.trans (by rw [show (0 : Int).toNat = 0 from rfl, j0, c5]; rfl), fun hd => by rw [if_pos rfl]; exact c6 hd, h', c⟩
set_option maxHeartbeats 4000000 in
set_option maxRecDepth 20000 in
theorem snd3 (n side a b : Int) (s : ByteArray) (M : Mem) (hn : -2 ^ 63 ≤ n ∧ n < 2 ^ 63) (hs : -2 ^ 63 ≤ side ∧ side < 2 ^ 63) (ha : -2 ^ 63 ≤ a ∧ a < 2 ^ 63) (hb : -2 ^ 63 ≤ b ∧ b < 2 ^ 63) : SoundCall Try.prog 3 [int n, int side, int a, int b, str s] M fun r M' => r = bool true ∧ M.le M' := by
  have hp := pick_lt (c := n) (n := 6) (by decide)
  have hA := pick_lt (c := a) (n := (2 + pick n 6)) (by omega)
  have hB := pick_lt (c := b) (n := (2 + pick n 6)) (by omega)
  obtain ⟨c1, c2, c3, c4, c5, c6⟩ := cuts_law (sd := side.toNat) (s := s) hA hB
  obtain ⟨j1, j2⟩ := joined_law (sd := side.toNat) hA hB
  have j0 := joined0 hA hB
  obtain ⟨J, hJ⟩ : ∃ J, joined (2 + pick n 6) side.toNat (pick a (2 + pick n 6)) (pick b (2 + pick n 6)) = J := ⟨_, rfl⟩
  have hAB : (pick a (2 + pick n 6)) ≠ (pick b (2 + pick n 6)) ↔ decide ((pick a (2 + pick n 6)) ≠ (pick b (2 + pick n 6))) = true := decide_eq_true_iff.symm
  obtain ⟨D, hD⟩ : ∃ D, decide ((pick a (2 + pick n 6)) ≠ (pick b (2 + pick n 6))) = D := ⟨_, rfl⟩
  have hD' : (!decide ((pick a (2 + pick n 6)) = (pick b (2 + pick n 6)))) = D := by rw [← hD]; simp
  rw [hD] at c1 c2 c3 c5 hAB
  rw [hJ] at j2
  rw [hAB] at c4 c6
  rw [hJ] at j1
  have j1 := j1.symm
  refine SoundCall.go tk3 pl3 mixed Try.func3 cb3 rfl (Nat.le_of_ble_eq_true rfl) ?_
  refine s_seq ?_
  refine s_region ?_
  refine o_q (q_as (v_raw rfl)) rfl rfl rfl ?_
  refine o_nil ?_
  refine s_seq ?_
  refine s_region ?_
  refine o_call ((ex7 _)) goes7 ac_nil rfl ?_
  refine o_q (q_as (v_raw rfl)) rfl rfl rfl ?_
  refine o_nil ?_
  refine s_seq ?_
  refine s_region ?_
  refine o_q (q_mv (v_raw rfl)) rfl rfl rfl ?_
  refine o_call ((snd8 n 6 _ (by decide) (by decide) hn)) goes8 (ac (v_raw rfl) (ac (v_raw rfl) ac_nil)) rfl ?_
  refine o_q (q_add rfl rfl (wrap64 (by omega) (by omega))) rfl rfl rfl ?_
  refine o_q (q_as (v_raw rfl)) rfl rfl rfl ?_
  refine o_nil ?_
  refine s_seq ?_
  refine s_region ?_
  refine o_q (q_mv (v_raw rfl)) rfl rfl rfl ?_
  refine o_q (q_mv (v_raw rfl)) rfl rfl rfl ?_
  refine o_call ((snd8 a (2 + pick n 6) _ (by omega) (by omega) ha)) goes8 (ac (v_raw rfl) (ac (v_raw rfl) ac_nil)) rfl ?_
  refine o_q (q_as (v_raw rfl)) rfl rfl rfl ?_
  refine o_nil ?_
  refine s_seq ?_
  refine s_region ?_
  refine o_q (q_mv (v_raw rfl)) rfl rfl rfl ?_
  refine o_q (q_mv (v_raw rfl)) rfl rfl rfl ?_
  refine o_call ((snd8 b (2 + pick n 6) _ (by omega) (by omega) hb)) goes8 (ac (v_raw rfl) (ac (v_raw rfl) ac_nil)) rfl ?_
  refine o_q (q_as (v_raw rfl)) rfl rfl rfl ?_
  refine o_nil ?_
  refine s_seq ?_
  refine s_region ?_
  refine o_q (q_mv (v_raw rfl)) rfl rfl rfl ?_
  refine o_callx ((new9 (2 + pick n 6) _ ⟨by omega, by omega⟩)) goes9 (ac (v_raw rfl) ac_nil) rfl ?_
  rintro r' M1 ⟨x, O0, rfl, hN0, hle0, hO0⟩
  refine o_q (q_mv (v_tup rfl)) rfl rfl rfl ?_
  refine o_q (q_ext rfl rfl ((by first | exact v_raw rfl | exact v_sptr rfl))) rfl rfl rfl ?_
  refine o_q (q_ext rfl rfl (v_raw rfl)) rfl rfl rfl ?_
  refine o_q (q_as ((by first | exact v_raw rfl | exact v_sptr rfl))) rfl rfl rfl ?_
  refine o_q (q_as (v_raw rfl)) rfl rfl rfl ?_
  refine o_nil ?_
  refine s_seq ?_
  refine s_seq ?_
  refine s_region ?_
  refine o_q (q_mv ((by first | exact v_raw rfl | exact v_sptr rfl))) rfl rfl rfl ?_
  refine o_q (q_peql und24 rfl rfl) rfl rfl rfl ?_
  refine o_nil ?_
  refine s_else rfl rfl ?_
  refine s_skip ?_
  refine s_seq ?_
  refine s_region ?_
  refine o_q (q_mv ((by first | exact v_raw rfl | exact v_sptr rfl))) rfl rfl rfl ?_
  refine o_q (q_mv (v_raw rfl)) rfl rfl rfl ?_
  refine o_callx ((cut10 hN0 side hs)) goes10 (ac ((by first | exact v_raw rfl | exact v_sptr rfl)) (ac (v_raw rfl) ac_nil)) rfl ?_
  rintro r' M' ⟨O1, hN1, hC1⟩
  refine o_nil ?_
  refine s_seq ?_
  refine s_region ?_
  refine o_q (q_mv ((by first | exact v_raw rfl | exact v_sptr rfl))) rfl rfl rfl ?_
  refine o_q (q_mv (v_raw rfl)) rfl rfl rfl ?_
  refine o_q (q_mv (v_raw rfl)) rfl rfl rfl ?_
  refine o_q (q_mv (v_raw rfl)) rfl rfl rfl ?_
  refine o_callx (((send11 hN1 (pick a (2 + pick n 6)) (pick b (2 + pick n 6)) s).mono fun r M' ⟨O', e, h, c⟩ => (⟨O', e.trans (by rw [c1]), h, c⟩ : ∃ O', r = bool D ∧ NetO M' x (2 + pick n 6) (side.toNat) (cq1 (2 + pick n 6) (pick a (2 + pick n 6)) (pick b (2 + pick n 6)) s) O' ∧ Chg _ M' O1 O'))) goes11 (ac ((by first | exact v_raw rfl | exact v_sptr rfl)) (ac (v_raw rfl) (ac (v_raw rfl) (ac (v_raw rfl) ac_nil)))) rfl ?_
  rintro r' M' ⟨O2, rfl, hN2, hC2⟩
  refine o_q (q_as (v_raw rfl)) rfl rfl rfl ?_
  refine o_nil ?_
  refine s_seq ?_
  refine s_seq ?_
  refine s_region ?_
  refine o_q (q_mv (v_raw rfl)) rfl rfl rfl ?_
  refine o_q (q_lss rfl rfl) rfl rfl rfl ?_
  refine o_nil ?_
  refine s_cond rfl (fun h1 => ?_) (fun h1 => ?_)
  · have k1 := h1; try simp only [decide_eq_true_eq, decide_eq_false_iff_not, Bool.not_eq_true', Bool.not_eq_false', Bool.not_true, Bool.not_false, List.length_map, Decidable.not_not] at k1
    have jz : decide (((0 / 2 ^ ((pick a (2 + pick n 6))).toNat : Nat) : Int).tmod 2 = ((0 / 2 ^ ((pick b (2 + pick n 6))).toNat : Nat) : Int).tmod 2) = J := by rw [← j1, show side.toNat = 0 by omega]
    refine s_region ?_
    refine o_q (q_as (v_raw rfl)) rfl rfl rfl ?_
    refine o_nil ?_
    refine s_seq ?_
    refine s_draw rfl ?_
    refine d_q rfl (q_mv (v_raw rfl)) rfl rfl rfl ?_
    refine d_q rfl (q_mv (v_raw rfl)) rfl rfl rfl ?_
    refine d_q rfl (q_shrn rfl rfl (by omega) (by omega)) rfl rfl rfl ?_
    refine d_q rfl (q_rem rfl rfl (by decide)) rfl rfl rfl ?_
    refine d_q rfl (q_mv (v_raw rfl)) rfl rfl rfl ?_
    refine d_q rfl (q_mv (v_raw rfl)) rfl rfl rfl ?_
    refine d_q rfl (q_shrn rfl rfl (by omega) (by omega)) rfl rfl rfl ?_
    refine d_q rfl (q_rem rfl rfl (by decide)) rfl rfl rfl ?_
    refine d_q rfl (q_eql rfl rfl) rfl rfl rfl ?_
    refine d_q rfl (q_as (V := .raw (.bool J)) (congrArg (fun b => AVal.raw (.bool b)) jz)) rfl rfl rfl ?_
    refine d_nil ?_
    refine s_seq ?_
    refine s_region ?_
    refine o_q (q_mv ((by first | exact v_raw rfl | exact v_sptr rfl))) rfl rfl rfl ?_
    refine o_q (q_mv (v_raw rfl)) rfl rfl rfl ?_
    refine o_q (q_mv (v_raw rfl)) rfl rfl rfl ?_
    refine o_callx (((dbl12 hN2 (pick a (2 + pick n 6)) (pick b (2 + pick n 6)) 0).mono fun r M' ⟨O', e, h, c⟩ => (⟨O', e.trans (by rw [c2]), h, c⟩ : ∃ O', r = bool D ∧ NetO M' x (2 + pick n 6) (side.toNat) (cq2 (2 + pick n 6) (pick a (2 + pick n 6)) (pick b (2 + pick n 6)) s) O' ∧ Chg _ M' O2 O'))) goes12 (ac ((by first | exact v_raw rfl | exact v_sptr rfl)) (ac (v_raw rfl) (ac (v_raw rfl) (ac (v_raw rfl) ac_nil)))) rfl ?_
    rintro r' M' ⟨O3, rfl, hN3, hC3⟩
    refine o_q (q_as (v_raw rfl)) rfl rfl rfl ?_
    refine o_nil ?_
    refine s_seq ?_
    refine s_region ?_
    refine o_q (q_mv ((by first | exact v_raw rfl | exact v_sptr rfl))) rfl rfl rfl ?_
    refine o_q (q_mv (v_raw rfl)) rfl rfl rfl ?_
    refine o_q (q_mv (v_raw rfl)) rfl rfl rfl ?_
    refine o_callx ((take_cut hN3 hJ c3 c4)) goes13 (ac ((by first | exact v_raw rfl | exact v_sptr rfl)) (ac (v_raw rfl) (ac (v_raw rfl) (ac (v_raw rfl) ac_nil)))) rfl ?_
    rintro r' M' ⟨u, O4, rfl, hu, hN4, hC4⟩
    refine o_q (q_mv (v_tup rfl)) rfl rfl rfl ?_
    refine o_q (q_ext rfl rfl (v_raw rfl)) rfl rfl rfl ?_
    refine o_q (q_ext rfl rfl (v_raw rfl)) rfl rfl rfl ?_
    refine o_q (q_as (v_raw rfl)) rfl rfl rfl ?_
    refine o_q (q_as (v_raw rfl)) rfl rfl rfl ?_
    refine o_nil ?_
    refine s_seq ?_
    refine s_seq ?_
    refine s_cut (fun S => ∃ T, S = ⟨setT (setT (setT (setT (setT (setT (setT T 2 (int (pick a (2 + pick n 6)))) 3 (int (pick b (2 + pick n 6)))) 4 (str s)) 11 (bool true)) 12 (ptr x)) 14 (bool D)) 109 (bool false), M'⟩) ?_ ?_
    · skip
      refine s_region ?_
      refine o_q (q_mv (v_raw rfl)) rfl rfl rfl ?_
      refine o_q (q_mv (v_raw rfl)) rfl rfl rfl ?_
      refine o_q (q_mv (v_raw rfl)) rfl rfl rfl ?_
      refine o_q (q_neq rfl rfl) rfl rfl rfl ?_
      rw [hD']
      refine o_q (q_bneq und4 rfl rfl) rfl rfl rfl ?_
      refine o_q (q_mv (v_raw rfl)) rfl rfl rfl ?_
      refine o_yes rfl rfl rfl (by cases D <;> cases J <;> first | rfl | contradiction) ?_
      refine o_q (q_mv (v_raw rfl)) rfl rfl rfl ?_
      refine o_yes rfl rfl rfl (by cases D <;> cases J <;> first | rfl | contradiction) ?_
      refine o_q (q_mv (v_raw rfl)) rfl rfl rfl ?_
      refine o_yes rfl rfl rfl (by cases D <;> cases J <;> first | rfl | contradiction) ?_
      refine o_q (q_bneq und4 rfl rfl) rfl rfl rfl ?_
      refine o_q (q_pick_c (t := false) rfl (by cases D <;> cases J <;> first | rfl | contradiction) (v_raw rfl)) rfl rfl rfl ?_
      refine o_q (q_mv (v_raw rfl)) rfl rfl rfl ?_
      refine o_yes rfl rfl rfl (by cases D <;> cases J <;> first | rfl | contradiction) ?_
      refine o_q (q_mv ((by first | exact v_raw rfl | exact v_sptr rfl))) rfl rfl rfl ?_
      refine o_yes rfl rfl rfl (by cases D <;> cases J <;> first | rfl | contradiction) ?_
      refine o_q (q_mv (v_raw rfl)) rfl rfl rfl ?_
      refine o_yes rfl rfl rfl (by cases D <;> cases J <;> first | rfl | contradiction) ?_
      refine o_q (q_mv (v_raw rfl)) rfl rfl rfl ?_
      refine o_yes rfl rfl rfl (by cases D <;> cases J <;> first | rfl | contradiction) ?_
      refine o_call (((joined14 hN4 (pick a (2 + pick n 6)) (pick b (2 + pick n 6))).mono fun r M' ⟨e, h⟩ => (⟨e.trans (by rw [hJ]), h⟩ : r = bool J ∧ M' = _))) goes14 (ac ((by first | exact v_raw rfl | exact v_sptr rfl)) (ac (v_raw rfl) (ac (v_raw rfl) ac_nil))) rfl ?_
      refine o_yes rfl rfl rfl (by cases D <;> cases J <;> first | rfl | contradiction) ?_
      refine o_q (q_mv (v_raw rfl)) rfl rfl rfl ?_
      refine o_yes rfl rfl rfl (by cases D <;> cases J <;> first | rfl | contradiction) ?_
      refine o_q (q_bneq und4 rfl rfl) rfl rfl rfl ?_
      refine o_q (q_pick_c (t := false) rfl (by cases D <;> cases J <;> first | rfl | contradiction) (v_raw rfl)) rfl rfl rfl ?_
      refine o_q (q_mv (v_raw rfl)) rfl rfl rfl ?_
      refine o_yes rfl rfl rfl (by cases D <;> cases J <;> first | rfl | contradiction) ?_
      refine o_q (q_mv ((by first | exact v_raw rfl | exact v_sptr rfl))) rfl rfl rfl ?_
      refine o_yes rfl rfl rfl (by cases D <;> cases J <;> first | rfl | contradiction) ?_
      refine o_q (q_mv (v_raw rfl)) rfl rfl rfl ?_
      refine o_yes rfl rfl rfl (by cases D <;> cases J <;> first | rfl | contradiction) ?_
      refine o_q (q_mv (v_raw rfl)) rfl rfl rfl ?_
      refine o_yes rfl rfl rfl (by cases D <;> cases J <;> first | rfl | contradiction) ?_
      refine o_call (((joined14 hN4 (pick b (2 + pick n 6)) (pick a (2 + pick n 6))).mono fun r M' ⟨e, h⟩ => (⟨e.trans (by rw [j2]), h⟩ : r = bool J ∧ M' = _))) goes14 (ac ((by first | exact v_raw rfl | exact v_sptr rfl)) (ac (v_raw rfl) (ac (v_raw rfl) ac_nil))) rfl ?_
      refine o_yes rfl rfl rfl (by cases D <;> cases J <;> first | rfl | contradiction) ?_
      refine o_q (q_mv (v_raw rfl)) rfl rfl rfl ?_
      refine o_yes rfl rfl rfl (by cases D <;> cases J <;> first | rfl | contradiction) ?_
      refine o_q (q_bneq und4 rfl rfl) rfl rfl rfl ?_
      refine o_q (q_pick_c (t := false) rfl (by cases D <;> cases J <;> first | rfl | contradiction) (v_raw rfl)) rfl rfl rfl ?_
      refine o_q (q_mv (v_raw rfl)) rfl rfl rfl ?_
      refine o_yes rfl rfl rfl (by cases D <;> cases J <;> first | rfl | contradiction) ?_
      refine o_q (q_mv (v_raw rfl)) rfl rfl rfl ?_
      refine o_yes rfl rfl rfl (by cases D <;> cases J <;> first | rfl | contradiction) ?_
      refine o_q (q_mv (v_raw rfl)) rfl rfl rfl ?_
      refine o_yes rfl rfl rfl (by cases D <;> cases J <;> first | rfl | contradiction) ?_
      refine o_q (q_mv (v_raw rfl)) rfl rfl rfl ?_
      refine o_cases (want := true) (j := 29) rfl rfl (fun h2 => ?_) (fun h2 => ?_)
      · have k2 := h2; try simp only [decide_eq_true_eq, decide_eq_false_iff_not, Bool.not_eq_true', Bool.not_eq_false', Bool.not_true, Bool.not_false, List.length_map, Decidable.not_not] at k2
        refine o_yes rfl rfl rfl h2 ?_
        refine o_q (q_mv (v_raw rfl)) rfl rfl rfl ?_
        refine o_yes rfl rfl rfl (by cases D <;> cases J <;> first | rfl | contradiction) ?_
        refine o_q (q_pick_c (t := true) rfl h2 (v_raw rfl)) rfl rfl rfl ?_
        refine o_yes rfl rfl rfl (by cases D <;> cases J <;> first | rfl | contradiction) ?_
        refine o_q (q_bneq und4 rfl rfl) rfl rfl rfl ?_
        refine o_q (q_pick_c (t := false) rfl (by cases D <;> cases J <;> first | rfl | contradiction) (v_raw rfl)) rfl rfl rfl ?_
        refine o_q (q_mv (v_raw rfl)) rfl rfl rfl ?_
        refine o_yes rfl rfl rfl (by cases D <;> cases J <;> first | rfl | contradiction) ?_
        refine o_q (q_mv (v_raw rfl)) rfl rfl rfl ?_
        refine o_yes rfl rfl rfl (by cases D <;> cases J <;> first | rfl | contradiction) ?_
        refine o_q (q_mv (v_raw rfl)) rfl rfl rfl ?_
        refine o_cases (want := true) (j := 36) rfl rfl (fun h3 => ?_) (fun h3 => ?_)
        · have k3 := h3; try simp only [decide_eq_true_eq, decide_eq_false_iff_not, Bool.not_eq_true', Bool.not_eq_false', Bool.not_true, Bool.not_false, List.length_map, Decidable.not_not] at k3
          have hu' := hu h3
          subst hu'
          refine o_yes rfl rfl rfl h3 ?_
          refine o_q (q_mv (v_raw rfl)) rfl rfl rfl ?_
          refine o_yes rfl rfl rfl h3 ?_
          refine o_q (q_mv (v_raw rfl)) rfl rfl rfl ?_
          refine o_yes rfl rfl rfl h3 ?_
          refine o_q (q_sneq rfl rfl) rfl rfl rfl ?_
          refine o_yes rfl rfl rfl (by cases D <;> cases J <;> first | rfl | contradiction) ?_
          refine o_q (q_pick_c (t := true) rfl h3 (v_raw rfl)) rfl rfl rfl ?_
          refine o_q (q_pick_c (t := false) rfl (by cases D <;> cases J <;> first | rfl | contradiction) (v_raw rfl)) rfl rfl rfl ?_
          refine o_nil ?_
          refine s_inv ?_
          exact ⟨_, St.mkT (kp (kp (kp (kp (kp (kp (kp rfl rfl) rfl) rfl) rfl) rfl) rfl) (congrArg bool (by cases D <;> cases J <;> first | rfl | contradiction | simp))).symm⟩
        · have k3 := h3; try simp only [decide_eq_true_eq, decide_eq_false_iff_not, Bool.not_eq_true', Bool.not_eq_false', Bool.not_true, Bool.not_false, List.length_map, Decidable.not_not] at k3
          refine o_no rfl rfl rfl rfl h3 ?_
          refine o_no rfl rfl rfl rfl h3 ?_
          refine o_no rfl rfl rfl rfl h3 ?_
          refine o_yes rfl rfl rfl (by cases D <;> cases J <;> first | rfl | contradiction) ?_
          refine o_q (q_pick_c (t := false) rfl h3 (v_raw rfl)) rfl rfl rfl ?_
          refine o_q (q_pick_c (t := false) rfl (by cases D <;> cases J <;> first | rfl | contradiction) (v_raw rfl)) rfl rfl rfl ?_
          refine o_nil ?_
          refine s_inv ?_
          exact ⟨_, St.mkT (kp (kp (kp (kp (kp (kp (kp rfl rfl) rfl) rfl) rfl) rfl) rfl) (congrArg bool (by cases D <;> cases J <;> first | rfl | contradiction | simp))).symm⟩
      · have k2 := h2; try simp only [decide_eq_true_eq, decide_eq_false_iff_not, Bool.not_eq_true', Bool.not_eq_false', Bool.not_true, Bool.not_false, List.length_map, Decidable.not_not] at k2
        refine o_no rfl rfl rfl rfl h2 ?_
        refine o_yes rfl rfl rfl (by cases D <;> cases J <;> first | rfl | contradiction) ?_
        refine o_q (q_pick_c (t := false) rfl h2 (v_raw rfl)) rfl rfl rfl ?_
        refine o_yes rfl rfl rfl (by cases D <;> cases J <;> first | rfl | contradiction) ?_
        refine o_q (q_bneq und4 rfl rfl) rfl rfl rfl ?_
        refine o_q (q_pick_c (t := false) rfl (by cases D <;> cases J <;> first | rfl | contradiction) (v_raw rfl)) rfl rfl rfl ?_
        refine o_q (q_mv (v_raw rfl)) rfl rfl rfl ?_
        refine o_yes rfl rfl rfl (by cases D <;> cases J <;> first | rfl | contradiction) ?_
        refine o_q (q_mv (v_raw rfl)) rfl rfl rfl ?_
        refine o_yes rfl rfl rfl (by cases D <;> cases J <;> first | rfl | contradiction) ?_
        refine o_q (q_mv (v_raw rfl)) rfl rfl rfl ?_
        refine o_cases (want := true) (j := 36) rfl rfl (fun h4 => ?_) (fun h4 => ?_)
        · have k4 := h4; try simp only [decide_eq_true_eq, decide_eq_false_iff_not, Bool.not_eq_true', Bool.not_eq_false', Bool.not_true, Bool.not_false, List.length_map, Decidable.not_not] at k4
          have hu' := hu h4
          subst hu'
          refine o_yes rfl rfl rfl h4 ?_
          refine o_q (q_mv (v_raw rfl)) rfl rfl rfl ?_
          refine o_yes rfl rfl rfl h4 ?_
          refine o_q (q_mv (v_raw rfl)) rfl rfl rfl ?_
          refine o_yes rfl rfl rfl h4 ?_
          refine o_q (q_sneq rfl rfl) rfl rfl rfl ?_
          refine o_yes rfl rfl rfl (by cases D <;> cases J <;> first | rfl | contradiction) ?_
          refine o_q (q_pick_c (t := true) rfl h4 (v_raw rfl)) rfl rfl rfl ?_
          refine o_q (q_pick_c (t := false) rfl (by cases D <;> cases J <;> first | rfl | contradiction) (v_raw rfl)) rfl rfl rfl ?_
          refine o_nil ?_
          refine s_inv ?_
          exact ⟨_, St.mkT (kp (kp (kp (kp (kp (kp (kp rfl rfl) rfl) rfl) rfl) rfl) rfl) (congrArg bool (by cases D <;> cases J <;> first | rfl | contradiction | simp))).symm⟩
        · have k4 := h4; try simp only [decide_eq_true_eq, decide_eq_false_iff_not, Bool.not_eq_true', Bool.not_eq_false', Bool.not_true, Bool.not_false, List.length_map, Decidable.not_not] at k4
          refine o_no rfl rfl rfl rfl h4 ?_
          refine o_no rfl rfl rfl rfl h4 ?_
          refine o_no rfl rfl rfl rfl h4 ?_
          refine o_yes rfl rfl rfl (by cases D <;> cases J <;> first | rfl | contradiction) ?_
          refine o_q (q_pick_c (t := false) rfl h4 (v_raw rfl)) rfl rfl rfl ?_
          refine o_q (q_pick_c (t := false) rfl (by cases D <;> cases J <;> first | rfl | contradiction) (v_raw rfl)) rfl rfl rfl ?_
          refine o_nil ?_
          refine s_inv ?_
          exact ⟨_, St.mkT (kp (kp (kp (kp (kp (kp (kp rfl rfl) rfl) rfl) rfl) rfl) rfl) (congrArg bool (by cases D <;> cases J <;> first | rfl | contradiction | simp))).symm⟩
    rintro S ⟨T, rfl⟩
    refine s_else rfl rfl ?_
    refine s_skip ?_
    refine s_seq ?_
    refine s_region ?_
    refine o_q (q_mv ((by first | exact v_raw rfl | exact v_sptr rfl))) rfl rfl rfl ?_
    refine o_callx ((cut10 hN4 0 (by decide))) goes10 (ac ((by first | exact v_raw rfl | exact v_sptr rfl)) (ac (v_raw rfl) ac_nil)) rfl ?_
    rintro r' M' ⟨O5, hN5, hC5⟩
    refine o_nil ?_
    refine s_seq ?_
    refine s_region ?_
    refine o_q (q_mv ((by first | exact v_raw rfl | exact v_sptr rfl))) rfl rfl rfl ?_
    refine o_q (q_mv (v_raw rfl)) rfl rfl rfl ?_
    refine o_q (q_mv (v_raw rfl)) rfl rfl rfl ?_
    refine o_callx ((take_all hN5 j0 c5 c6)) goes13 (ac ((by first | exact v_raw rfl | exact v_sptr rfl)) (ac (v_raw rfl) (ac (v_raw rfl) (ac (v_raw rfl) ac_nil)))) rfl ?_
    rintro r' M' ⟨v, O6, q6, rfl, hv, hN6, hC6⟩
    refine o_q (q_mv (v_tup rfl)) rfl rfl rfl ?_
    refine o_q (q_ext rfl rfl (v_raw rfl)) rfl rfl rfl ?_
    refine o_q (q_ext rfl rfl (v_raw rfl)) rfl rfl rfl ?_
    refine o_q (q_as (v_raw rfl)) rfl rfl rfl ?_
    refine o_q (q_as (v_raw rfl)) rfl rfl rfl ?_
    refine o_nil ?_
    refine s_seq ?_
    refine s_region ?_
    refine o_q (q_mv (v_raw rfl)) rfl rfl rfl ?_
    refine o_q (q_mv (v_raw rfl)) rfl rfl rfl ?_
    refine o_yes rfl rfl rfl rfl ?_
    refine o_q (q_mv (v_raw rfl)) rfl rfl rfl ?_
    refine o_yes rfl rfl rfl rfl ?_
    refine o_q (q_mv (v_raw rfl)) rfl rfl rfl ?_
    refine o_yes rfl rfl rfl rfl ?_
    refine o_q (q_beql und4 rfl rfl) rfl rfl rfl ?_
    refine o_q (q_pick_c (t := true) rfl rfl (v_raw rfl)) rfl rfl rfl ?_
    refine o_q (q_mv (v_raw rfl)) rfl rfl rfl ?_
    refine o_yes rfl rfl rfl (by cases D <;> cases J <;> first | rfl | contradiction) ?_
    refine o_q (q_mv (v_raw rfl)) rfl rfl rfl ?_
    refine o_yes rfl rfl rfl (by cases D <;> cases J <;> first | rfl | contradiction) ?_
    refine o_q (q_not rfl) rfl rfl rfl ?_
    refine o_yes rfl rfl rfl (by cases D <;> cases J <;> first | rfl | contradiction) ?_
    refine o_q (q_mv (v_raw rfl)) rfl rfl rfl ?_
    refine o_cases (want := false) (j := 9) rfl rfl (fun h5 => ?_) (fun h5 => ?_)
    · have k5 := h5; try simp only [decide_eq_true_eq, decide_eq_false_iff_not, Bool.not_eq_true', Bool.not_eq_false', Bool.not_true, Bool.not_false, List.length_map, Decidable.not_not] at k5
      have hv' := hv (by simpa using h5)
      subst hv'
      refine o_yes rfl rfl rfl h5 ?_
      refine o_q (q_mv (v_raw rfl)) rfl rfl rfl ?_
      refine o_yes rfl rfl rfl h5 ?_
      refine o_q (q_mv (v_raw rfl)) rfl rfl rfl ?_
      refine o_yes rfl rfl rfl h5 ?_
      refine o_q (q_seql rfl rfl) rfl rfl rfl ?_
      refine o_yes rfl rfl rfl (by cases D <;> cases J <;> first | rfl | contradiction) ?_
      refine o_q (q_pick_c (t := false) rfl h5 (v_raw rfl)) rfl rfl rfl ?_
      refine o_q (q_pick_c (t := true) rfl (by cases D <;> cases J <;> first | rfl | contradiction) (v_raw rfl)) rfl rfl rfl ?_
      refine o_q (q_as (v_raw rfl)) rfl rfl rfl ?_
      refine o_nil ?_
      refine s_ret ?_
      refine s_end ?_
      refine ⟨congrArg bool (by simp), ?_⟩
      exact (hC1.trans (hC2.trans (hC3.trans (hC4.trans (hC5.trans hC6))))).le hle0 hO0
    · have k5 := h5; try simp only [decide_eq_true_eq, decide_eq_false_iff_not, Bool.not_eq_true', Bool.not_eq_false', Bool.not_true, Bool.not_false, List.length_map, Decidable.not_not] at k5
      refine o_no rfl rfl rfl rfl h5 ?_
      refine o_no rfl rfl rfl rfl h5 ?_
      refine o_no rfl rfl rfl rfl h5 ?_
      refine o_yes rfl rfl rfl (by cases D <;> cases J <;> first | rfl | contradiction) ?_
      refine o_q (q_pick_c (t := true) rfl h5 (v_raw rfl)) rfl rfl rfl ?_
      refine o_q (q_pick_c (t := true) rfl (by cases D <;> cases J <;> first | rfl | contradiction) (v_raw rfl)) rfl rfl rfl ?_
      refine o_q (q_as (v_raw rfl)) rfl rfl rfl ?_
      refine o_nil ?_
      refine s_ret ?_
      refine s_end ?_
      refine ⟨congrArg bool (by simp), ?_⟩
      exact (hC1.trans (hC2.trans (hC3.trans (hC4.trans (hC5.trans hC6))))).le hle0 hO0
  · have k1 := h1; try simp only [decide_eq_true_eq, decide_eq_false_iff_not, Bool.not_eq_true', Bool.not_eq_false', Bool.not_true, Bool.not_false, List.length_map, Decidable.not_not] at k1
    obtain ⟨m, rfl⟩ : ∃ m : Nat, side = m := Int.eq_ofNat_of_zero_le (by omega)
    have jz := j1
    rw [show ((m : Int).toNat) = m from Int.toNat_natCast m] at jz
    refine s_skip ?_
    refine s_seq ?_
    refine s_draw rfl ?_
    refine d_q rfl (q_mv (v_raw rfl)) rfl rfl rfl ?_
    refine d_q rfl (q_mv (v_raw rfl)) rfl rfl rfl ?_
    refine d_q rfl (q_shrn rfl rfl (by omega) (by omega)) rfl rfl rfl ?_
    refine d_q rfl (q_rem rfl rfl (by decide)) rfl rfl rfl ?_
    refine d_q rfl (q_mv (v_raw rfl)) rfl rfl rfl ?_
    refine d_q rfl (q_mv (v_raw rfl)) rfl rfl rfl ?_
    refine d_q rfl (q_shrn rfl rfl (by omega) (by omega)) rfl rfl rfl ?_
    refine d_q rfl (q_rem rfl rfl (by decide)) rfl rfl rfl ?_
    refine d_q rfl (q_eql rfl rfl) rfl rfl rfl ?_
    refine d_q rfl (q_as (V := .raw (.bool J)) (congrArg (fun b => AVal.raw (.bool b)) jz)) rfl rfl rfl ?_
    refine d_nil ?_
    refine s_seq ?_
    refine s_region ?_
    refine o_q (q_mv ((by first | exact v_raw rfl | exact v_sptr rfl))) rfl rfl rfl ?_
    refine o_q (q_mv (v_raw rfl)) rfl rfl rfl ?_
    refine o_q (q_mv (v_raw rfl)) rfl rfl rfl ?_
    refine o_callx (((dbl12 hN2 (pick a (2 + pick n 6)) (pick b (2 + pick n 6)) 0).mono fun r M' ⟨O', e, h, c⟩ => (⟨O', e.trans (by rw [c2]), h, c⟩ : ∃ O', r = bool D ∧ NetO M' x (2 + pick n 6) (m : Int).toNat (cq2 (2 + pick n 6) (pick a (2 + pick n 6)) (pick b (2 + pick n 6)) s) O' ∧ Chg _ M' O2 O'))) goes12 (ac ((by first | exact v_raw rfl | exact v_sptr rfl)) (ac (v_raw rfl) (ac (v_raw rfl) (ac (v_raw rfl) ac_nil)))) rfl ?_
    rintro r' M' ⟨O3, rfl, hN3, hC3⟩
    refine o_q (q_as (v_raw rfl)) rfl rfl rfl ?_
    refine o_nil ?_
    refine s_seq ?_
    refine s_region ?_
    refine o_q (q_mv ((by first | exact v_raw rfl | exact v_sptr rfl))) rfl rfl rfl ?_
    refine o_q (q_mv (v_raw rfl)) rfl rfl rfl ?_
    refine o_q (q_mv (v_raw rfl)) rfl rfl rfl ?_
    refine o_callx ((take_cut hN3 hJ c3 c4)) goes13 (ac ((by first | exact v_raw rfl | exact v_sptr rfl)) (ac (v_raw rfl) (ac (v_raw rfl) (ac (v_raw rfl) ac_nil)))) rfl ?_
    rintro r' M' ⟨u, O4, rfl, hu, hN4, hC4⟩
    refine o_q (q_mv (v_tup rfl)) rfl rfl rfl ?_
    refine o_q (q_ext rfl rfl (v_raw rfl)) rfl rfl rfl ?_
    refine o_q (q_ext rfl rfl (v_raw rfl)) rfl rfl rfl ?_
    refine o_q (q_as (v_raw rfl)) rfl rfl rfl ?_
    refine o_q (q_as (v_raw rfl)) rfl rfl rfl ?_
    refine o_nil ?_
    refine s_seq ?_
    refine s_seq ?_
    refine s_cut (fun S => ∃ T, S = ⟨setT (setT (setT (setT (setT (setT (setT T 2 (int (pick a (2 + pick n 6)))) 3 (int (pick b (2 + pick n 6)))) 4 (str s)) 11 (bool true)) 12 (ptr x)) 14 (bool D)) 109 (bool false), M'⟩) ?_ ?_
    · skip
      refine s_region ?_
      refine o_q (q_mv (v_raw rfl)) rfl rfl rfl ?_
      refine o_q (q_mv (v_raw rfl)) rfl rfl rfl ?_
      refine o_q (q_mv (v_raw rfl)) rfl rfl rfl ?_
      refine o_q (q_neq rfl rfl) rfl rfl rfl ?_
      rw [hD']
      refine o_q (q_bneq und4 rfl rfl) rfl rfl rfl ?_
      refine o_q (q_mv (v_raw rfl)) rfl rfl rfl ?_
      refine o_yes rfl rfl rfl (by cases D <;> cases J <;> first | rfl | contradiction) ?_
      refine o_q (q_mv (v_raw rfl)) rfl rfl rfl ?_
      refine o_yes rfl rfl rfl (by cases D <;> cases J <;> first | rfl | contradiction) ?_
      refine o_q (q_mv (v_raw rfl)) rfl rfl rfl ?_
      refine o_yes rfl rfl rfl (by cases D <;> cases J <;> first | rfl | contradiction) ?_
      refine o_q (q_bneq und4 rfl rfl) rfl rfl rfl ?_
      refine o_q (q_pick_c (t := false) rfl (by cases D <;> cases J <;> first | rfl | contradiction) (v_raw rfl)) rfl rfl rfl ?_
      refine o_q (q_mv (v_raw rfl)) rfl rfl rfl ?_
      refine o_yes rfl rfl rfl (by cases D <;> cases J <;> first | rfl | contradiction) ?_
      refine o_q (q_mv ((by first | exact v_raw rfl | exact v_sptr rfl))) rfl rfl rfl ?_
      refine o_yes rfl rfl rfl (by cases D <;> cases J <;> first | rfl | contradiction) ?_
      refine o_q (q_mv (v_raw rfl)) rfl rfl rfl ?_
      refine o_yes rfl rfl rfl (by cases D <;> cases J <;> first | rfl | contradiction) ?_
      refine o_q (q_mv (v_raw rfl)) rfl rfl rfl ?_
      refine o_yes rfl rfl rfl (by cases D <;> cases J <;> first | rfl | contradiction) ?_
      refine o_call (((joined14 hN4 (pick a (2 + pick n 6)) (pick b (2 + pick n 6))).mono fun r M' ⟨e, h⟩ => (⟨e.trans (by rw [hJ]), h⟩ : r = bool J ∧ M' = _))) goes14 (ac ((by first | exact v_raw rfl | exact v_sptr rfl)) (ac (v_raw rfl) (ac (v_raw rfl) ac_nil))) rfl ?_
      refine o_yes rfl rfl rfl (by cases D <;> cases J <;> first | rfl | contradiction) ?_
      refine o_q (q_mv (v_raw rfl)) rfl rfl rfl ?_
      refine o_yes rfl rfl rfl (by cases D <;> cases J <;> first | rfl | contradiction) ?_
      refine o_q (q_bneq und4 rfl rfl) rfl rfl rfl ?_
      refine o_q (q_pick_c (t := false) rfl (by cases D <;> cases J <;> first | rfl | contradiction) (v_raw rfl)) rfl rfl rfl ?_
      refine o_q (q_mv (v_raw rfl)) rfl rfl rfl ?_
      refine o_yes rfl rfl rfl (by cases D <;> cases J <;> first | rfl | contradiction) ?_
      refine o_q (q_mv ((by first | exact v_raw rfl | exact v_sptr rfl))) rfl rfl rfl ?_
      refine o_yes rfl rfl rfl (by cases D <;> cases J <;> first | rfl | contradiction) ?_
      refine o_q (q_mv (v_raw rfl)) rfl rfl rfl ?_
      refine o_yes rfl rfl rfl (by cases D <;> cases J <;> first | rfl | contradiction) ?_
      refine o_q (q_mv (v_raw rfl)) rfl rfl rfl ?_
      refine o_yes rfl rfl rfl (by cases D <;> cases J <;> first | rfl | contradiction) ?_
      refine o_call (((joined14 hN4 (pick b (2 + pick n 6)) (pick a (2 + pick n 6))).mono fun r M' ⟨e, h⟩ => (⟨e.trans (by rw [j2]), h⟩ : r = bool J ∧ M' = _))) goes14 (ac ((by first | exact v_raw rfl | exact v_sptr rfl)) (ac (v_raw rfl) (ac (v_raw rfl) ac_nil))) rfl ?_
      refine o_yes rfl rfl rfl (by cases D <;> cases J <;> first | rfl | contradiction) ?_
      refine o_q (q_mv (v_raw rfl)) rfl rfl rfl ?_
      refine o_yes rfl rfl rfl (by cases D <;> cases J <;> first | rfl | contradiction) ?_
      refine o_q (q_bneq und4 rfl rfl) rfl rfl rfl ?_
      refine o_q (q_pick_c (t := false) rfl (by cases D <;> cases J <;> first | rfl | contradiction) (v_raw rfl)) rfl rfl rfl ?_
      refine o_q (q_mv (v_raw rfl)) rfl rfl rfl ?_
      refine o_yes rfl rfl rfl (by cases D <;> cases J <;> first | rfl | contradiction) ?_
      refine o_q (q_mv (v_raw rfl)) rfl rfl rfl ?_
      refine o_yes rfl rfl rfl (by cases D <;> cases J <;> first | rfl | contradiction) ?_
      refine o_q (q_mv (v_raw rfl)) rfl rfl rfl ?_
      refine o_yes rfl rfl rfl (by cases D <;> cases J <;> first | rfl | contradiction) ?_
      refine o_q (q_mv (v_raw rfl)) rfl rfl rfl ?_
      refine o_cases (want := true) (j := 29) rfl rfl (fun h6 => ?_) (fun h6 => ?_)
      · have k6 := h6; try simp only [decide_eq_true_eq, decide_eq_false_iff_not, Bool.not_eq_true', Bool.not_eq_false', Bool.not_true, Bool.not_false, List.length_map, Decidable.not_not] at k6
        refine o_yes rfl rfl rfl h6 ?_
        refine o_q (q_mv (v_raw rfl)) rfl rfl rfl ?_
        refine o_yes rfl rfl rfl (by cases D <;> cases J <;> first | rfl | contradiction) ?_
        refine o_q (q_pick_c (t := true) rfl h6 (v_raw rfl)) rfl rfl rfl ?_
        refine o_yes rfl rfl rfl (by cases D <;> cases J <;> first | rfl | contradiction) ?_
        refine o_q (q_bneq und4 rfl rfl) rfl rfl rfl ?_
        refine o_q (q_pick_c (t := false) rfl (by cases D <;> cases J <;> first | rfl | contradiction) (v_raw rfl)) rfl rfl rfl ?_
        refine o_q (q_mv (v_raw rfl)) rfl rfl rfl ?_
        refine o_yes rfl rfl rfl (by cases D <;> cases J <;> first | rfl | contradiction) ?_
        refine o_q (q_mv (v_raw rfl)) rfl rfl rfl ?_
        refine o_yes rfl rfl rfl (by cases D <;> cases J <;> first | rfl | contradiction) ?_
        refine o_q (q_mv (v_raw rfl)) rfl rfl rfl ?_
        refine o_cases (want := true) (j := 36) rfl rfl (fun h7 => ?_) (fun h7 => ?_)
        · have k7 := h7; try simp only [decide_eq_true_eq, decide_eq_false_iff_not, Bool.not_eq_true', Bool.not_eq_false', Bool.not_true, Bool.not_false, List.length_map, Decidable.not_not] at k7
          have hu' := hu h7
          subst hu'
          refine o_yes rfl rfl rfl h7 ?_
          refine o_q (q_mv (v_raw rfl)) rfl rfl rfl ?_
          refine o_yes rfl rfl rfl h7 ?_
          refine o_q (q_mv (v_raw rfl)) rfl rfl rfl ?_
          refine o_yes rfl rfl rfl h7 ?_
          refine o_q (q_sneq rfl rfl) rfl rfl rfl ?_
          refine o_yes rfl rfl rfl (by cases D <;> cases J <;> first | rfl | contradiction) ?_
          refine o_q (q_pick_c (t := true) rfl h7 (v_raw rfl)) rfl rfl rfl ?_
          refine o_q (q_pick_c (t := false) rfl (by cases D <;> cases J <;> first | rfl | contradiction) (v_raw rfl)) rfl rfl rfl ?_
          refine o_nil ?_
          refine s_inv ?_
          exact ⟨_, St.mkT (kp (kp (kp (kp (kp (kp (kp rfl rfl) rfl) rfl) rfl) rfl) rfl) (congrArg bool (by cases D <;> cases J <;> first | rfl | contradiction | simp))).symm⟩
        · have k7 := h7; try simp only [decide_eq_true_eq, decide_eq_false_iff_not, Bool.not_eq_true', Bool.not_eq_false', Bool.not_true, Bool.not_false, List.length_map, Decidable.not_not] at k7
          refine o_no rfl rfl rfl rfl h7 ?_
          refine o_no rfl rfl rfl rfl h7 ?_
          refine o_no rfl rfl rfl rfl h7 ?_
          refine o_yes rfl rfl rfl (by cases D <;> cases J <;> first | rfl | contradiction) ?_
          refine o_q (q_pick_c (t := false) rfl h7 (v_raw rfl)) rfl rfl rfl ?_
          refine o_q (q_pick_c (t := false) rfl (by cases D <;> cases J <;> first | rfl | contradiction) (v_raw rfl)) rfl rfl rfl ?_
          refine o_nil ?_
          refine s_inv ?_
          exact ⟨_, St.mkT (kp (kp (kp (kp (kp (kp (kp rfl rfl) rfl) rfl) rfl) rfl) rfl) (congrArg bool (by cases D <;> cases J <;> first | rfl | contradiction | simp))).symm⟩
      · have k6 := h6; try simp only [decide_eq_true_eq, decide_eq_false_iff_not, Bool.not_eq_true', Bool.not_eq_false', Bool.not_true, Bool.not_false, List.length_map, Decidable.not_not] at k6
        refine o_no rfl rfl rfl rfl h6 ?_
        refine o_yes rfl rfl rfl (by cases D <;> cases J <;> first | rfl | contradiction) ?_
        refine o_q (q_pick_c (t := false) rfl h6 (v_raw rfl)) rfl rfl rfl ?_
        refine o_yes rfl rfl rfl (by cases D <;> cases J <;> first | rfl | contradiction) ?_
        refine o_q (q_bneq und4 rfl rfl) rfl rfl rfl ?_
        refine o_q (q_pick_c (t := false) rfl (by cases D <;> cases J <;> first | rfl | contradiction) (v_raw rfl)) rfl rfl rfl ?_
        refine o_q (q_mv (v_raw rfl)) rfl rfl rfl ?_
        refine o_yes rfl rfl rfl (by cases D <;> cases J <;> first | rfl | contradiction) ?_
        refine o_q (q_mv (v_raw rfl)) rfl rfl rfl ?_
        refine o_yes rfl rfl rfl (by cases D <;> cases J <;> first | rfl | contradiction) ?_
        refine o_q (q_mv (v_raw rfl)) rfl rfl rfl ?_
        refine o_cases (want := true) (j := 36) rfl rfl (fun h8 => ?_) (fun h8 => ?_)
        · have k8 := h8; try simp only [decide_eq_true_eq, decide_eq_false_iff_not, Bool.not_eq_true', Bool.not_eq_false', Bool.not_true, Bool.not_false, List.length_map, Decidable.not_not] at k8
          have hu' := hu h8
          subst hu'
          refine o_yes rfl rfl rfl h8 ?_
          refine o_q (q_mv (v_raw rfl)) rfl rfl rfl ?_
          refine o_yes rfl rfl rfl h8 ?_
          refine o_q (q_mv (v_raw rfl)) rfl rfl rfl ?_
          refine o_yes rfl rfl rfl h8 ?_
          refine o_q (q_sneq rfl rfl) rfl rfl rfl ?_
          refine o_yes rfl rfl rfl (by cases D <;> cases J <;> first | rfl | contradiction) ?_
          refine o_q (q_pick_c (t := true) rfl h8 (v_raw rfl)) rfl rfl rfl ?_
          refine o_q (q_pick_c (t := false) rfl (by cases D <;> cases J <;> first | rfl | contradiction) (v_raw rfl)) rfl rfl rfl ?_
          refine o_nil ?_
          refine s_inv ?_
          exact ⟨_, St.mkT (kp (kp (kp (kp (kp (kp (kp rfl rfl) rfl) rfl) rfl) rfl) rfl) (congrArg bool (by cases D <;> cases J <;> first | rfl | contradiction | simp))).symm⟩
        · have k8 := h8; try simp only [decide_eq_true_eq, decide_eq_false_iff_not, Bool.not_eq_true', Bool.not_eq_false', Bool.not_true, Bool.not_false, List.length_map, Decidable.not_not] at k8
          refine o_no rfl rfl rfl rfl h8 ?_
          refine o_no rfl rfl rfl rfl h8 ?_
          refine o_no rfl rfl rfl rfl h8 ?_
          refine o_yes rfl rfl rfl (by cases D <;> cases J <;> first | rfl | contradiction) ?_
          refine o_q (q_pick_c (t := false) rfl h8 (v_raw rfl)) rfl rfl rfl ?_
          refine o_q (q_pick_c (t := false) rfl (by cases D <;> cases J <;> first | rfl | contradiction) (v_raw rfl)) rfl rfl rfl ?_
          refine o_nil ?_
          refine s_inv ?_
          exact ⟨_, St.mkT (kp (kp (kp (kp (kp (kp (kp rfl rfl) rfl) rfl) rfl) rfl) rfl) (congrArg bool (by cases D <;> cases J <;> first | rfl | contradiction | simp))).symm⟩
    rintro S ⟨T, rfl⟩
    refine s_else rfl rfl ?_
    refine s_skip ?_
    refine s_seq ?_
    refine s_region ?_
    refine o_q (q_mv ((by first | exact v_raw rfl | exact v_sptr rfl))) rfl rfl rfl ?_
    refine o_callx ((cut10 hN4 0 (by decide))) goes10 (ac ((by first | exact v_raw rfl | exact v_sptr rfl)) (ac (v_raw rfl) ac_nil)) rfl ?_
    rintro r' M' ⟨O5, hN5, hC5⟩
    refine o_nil ?_
    refine s_seq ?_
    refine s_region ?_
    refine o_q (q_mv ((by first | exact v_raw rfl | exact v_sptr rfl))) rfl rfl rfl ?_
    refine o_q (q_mv (v_raw rfl)) rfl rfl rfl ?_
    refine o_q (q_mv (v_raw rfl)) rfl rfl rfl ?_
    refine o_callx ((take_all hN5 j0 c5 c6)) goes13 (ac ((by first | exact v_raw rfl | exact v_sptr rfl)) (ac (v_raw rfl) (ac (v_raw rfl) (ac (v_raw rfl) ac_nil)))) rfl ?_
    rintro r' M' ⟨v, O6, q6, rfl, hv, hN6, hC6⟩
    refine o_q (q_mv (v_tup rfl)) rfl rfl rfl ?_
    refine o_q (q_ext rfl rfl (v_raw rfl)) rfl rfl rfl ?_
    refine o_q (q_ext rfl rfl (v_raw rfl)) rfl rfl rfl ?_
    refine o_q (q_as (v_raw rfl)) rfl rfl rfl ?_
    refine o_q (q_as (v_raw rfl)) rfl rfl rfl ?_
    refine o_nil ?_
    refine s_seq ?_
    refine s_region ?_
    refine o_q (q_mv (v_raw rfl)) rfl rfl rfl ?_
    refine o_q (q_mv (v_raw rfl)) rfl rfl rfl ?_
    refine o_yes rfl rfl rfl rfl ?_
    refine o_q (q_mv (v_raw rfl)) rfl rfl rfl ?_
    refine o_yes rfl rfl rfl rfl ?_
    refine o_q (q_mv (v_raw rfl)) rfl rfl rfl ?_
    refine o_yes rfl rfl rfl rfl ?_
    refine o_q (q_beql und4 rfl rfl) rfl rfl rfl ?_
    refine o_q (q_pick_c (t := true) rfl rfl (v_raw rfl)) rfl rfl rfl ?_
    refine o_q (q_mv (v_raw rfl)) rfl rfl rfl ?_
    refine o_yes rfl rfl rfl (by cases D <;> cases J <;> first | rfl | contradiction) ?_
    refine o_q (q_mv (v_raw rfl)) rfl rfl rfl ?_
    refine o_yes rfl rfl rfl (by cases D <;> cases J <;> first | rfl | contradiction) ?_
    refine o_q (q_not rfl) rfl rfl rfl ?_
    refine o_yes rfl rfl rfl (by cases D <;> cases J <;> first | rfl | contradiction) ?_
    refine o_q (q_mv (v_raw rfl)) rfl rfl rfl ?_
    refine o_cases (want := false) (j := 9) rfl rfl (fun h9 => ?_) (fun h9 => ?_)
    · have k9 := h9; try simp only [decide_eq_true_eq, decide_eq_false_iff_not, Bool.not_eq_true', Bool.not_eq_false', Bool.not_true, Bool.not_false, List.length_map, Decidable.not_not] at k9
      have hv' := hv (by simpa using h9)
      subst hv'
      refine o_yes rfl rfl rfl h9 ?_
      refine o_q (q_mv (v_raw rfl)) rfl rfl rfl ?_
      refine o_yes rfl rfl rfl h9 ?_
      refine o_q (q_mv (v_raw rfl)) rfl rfl rfl ?_
      refine o_yes rfl rfl rfl h9 ?_
      refine o_q (q_seql rfl rfl) rfl rfl rfl ?_
      refine o_yes rfl rfl rfl (by cases D <;> cases J <;> first | rfl | contradiction) ?_
      refine o_q (q_pick_c (t := false) rfl h9 (v_raw rfl)) rfl rfl rfl ?_
      refine o_q (q_pick_c (t := true) rfl (by cases D <;> cases J <;> first | rfl | contradiction) (v_raw rfl)) rfl rfl rfl ?_
      refine o_q (q_as (v_raw rfl)) rfl rfl rfl ?_
      refine o_nil ?_
      refine s_ret ?_
      refine s_end ?_
      refine ⟨congrArg bool (by simp), ?_⟩
      exact (hC1.trans (hC2.trans (hC3.trans (hC4.trans (hC5.trans hC6))))).le hle0 hO0
    · have k9 := h9; try simp only [decide_eq_true_eq, decide_eq_false_iff_not, Bool.not_eq_true', Bool.not_eq_false', Bool.not_true, Bool.not_false, List.length_map, Decidable.not_not] at k9
      refine o_no rfl rfl rfl rfl h9 ?_
      refine o_no rfl rfl rfl rfl h9 ?_
      refine o_no rfl rfl rfl rfl h9 ?_
      refine o_yes rfl rfl rfl (by cases D <;> cases J <;> first | rfl | contradiction) ?_
      refine o_q (q_pick_c (t := true) rfl h9 (v_raw rfl)) rfl rfl rfl ?_
      refine o_q (q_pick_c (t := true) rfl (by cases D <;> cases J <;> first | rfl | contradiction) (v_raw rfl)) rfl rfl rfl ?_
      refine o_q (q_as (v_raw rfl)) rfl rfl rfl ?_
      refine o_nil ?_
      refine s_ret ?_
      refine s_end ?_
      refine ⟨congrArg bool (by simp), ?_⟩
      exact (hC1.trans (hC2.trans (hC3.trans (hC4.trans (hC5.trans hC6))))).le hle0 hO0
end C05
