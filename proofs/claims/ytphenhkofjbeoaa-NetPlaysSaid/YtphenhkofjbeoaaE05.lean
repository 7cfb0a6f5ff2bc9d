import Derived.Test.YtphenhkofjbeoaaD05
import Derived.Test.YtphenhkofjbeoaaProg
/-! Chapter 5: the net: what its functions compute. -/
open Go Go.Proofs Go.Am
set_option linter.unusedVariables false
set_option linter.unusedSimpArgs false
set_option autoImplicit false
namespace C05
theorem und24 : Try.prog.underlying 24 = some (.pointer 48) := by kernel_rfl
def tk8 : Nat → Nat → Option Nat := fun _ _ => none
def pl8 : Nat → List PStep := fun _ => []
theorem cb8 : Try.f8.body.map (codeB Try.prog Try.f8.ntmps tk8 pl8) = some true := by kernel_rfl
theorem goes8 : goesB Try.prog 8 = true := by kernel_rfl
-- carillon/carillonlaw05.pick params ['int', 'int'] results [['t', 4]] own [] names ['0:c', '1:n', '2:c', '3:n'] calls [] paths 2

def pick (c n : Int) : Int := if c < 0 then (-(c + 1)) % n else c % n
theorem pick_lt {c n : Int} (hn : 0 < n) : 0 ≤ pick c n ∧ pick c n < n := by
  unfold pick
  split
  · exact ⟨Int.emod_nonneg _ (by omega), Int.emod_lt_of_pos _ hn⟩
  · exact ⟨Int.emod_nonneg _ (by omega), Int.emod_lt_of_pos _ hn⟩
section
variable {M : Mem} {x : Nat} {n : Int} {side : Nat} {q : K2 → List ByteArray} {O : Nat → Prop}
theorem new9 (n : Int) (M : Mem) (hn : 1 ≤ n ∧ n ≤ 7) : SoundCall Try.prog 9 [int n] M (fun r' M' => ∃ x O, r' = .tup [ptr x, int 0] ∧ NetO M' x n 0 (fun _ => []) O ∧ M.le M' ∧ ∀ c, O c → M c = none) :=
  (snd9 n M).mono fun r M' h => by
    rcases h with ⟨h, -⟩ | ⟨-, h⟩
    · exact absurd hn h
    · exact h
theorem new9n (n : Int) (M : Mem) (hn : ¬ (1 ≤ n ∧ n ≤ 7)) : SoundCall Try.prog 9 [int n] M (fun r' M' => r' = .tup [.raw (.pointer none), int 1] ∧ M' = M) :=
  (snd9 n M).mono fun r M' h => by
    rcases h with ⟨-, h⟩ | ⟨h, -⟩
    · exact h
    · exact absurd h hn
theorem cut10 (h : NetO M x n side q O) (s : Int) (hs : -2 ^ 63 ≤ s ∧ s < 2 ^ 63) : SoundCall Try.prog 10 [ptr x, int s] M (fun _ M' => ∃ O', NetO M' x n s.toNat q O' ∧ Chg M M' O O') := by
  obtain ⟨r, clk, l, hN, hO⟩ := h
  exact snd10 x r clk side n l q M hN O hO s hs
theorem send11 (h : NetO M x n side q O) (a b : Int) (s : ByteArray) : SoundCall Try.prog 11 [ptr x, int a, int b, str s] M (fun r' M' => ∃ O', r' = bool (okS n q a b) ∧ NetO M' x n side (sendQ n q a b s) O' ∧ Chg M M' O O') := by
  obtain ⟨r, clk, l, hN, hO⟩ := h
  exact snd11 x r clk side n l q M hN O hO a b s
theorem dbl12 (h : NetO M x n side q O) (a b i : Int) : SoundCall Try.prog 12 [ptr x, int a, int b, int i] M (fun r' M' => ∃ O', r' = bool (atB q a b i && okS n q a b) ∧ NetO M' x n side (if atB q a b i then sendQ n q a b (atS q a b i) else q) O' ∧ Chg M M' O O') := by
  obtain ⟨r, clk, l, hN, hO⟩ := h
  exact snd12 x r clk side n l q M hN O hO a b i
theorem take13 (h : NetO M x n side q O) (a b i : Int) : SoundCall Try.prog 13 [ptr x, int a, int b, int i] M (fun r' M' => ∃ O', r' = .tup [str (if joined n side a b then atS q a b i else "".toUTF8), bool (joined n side a b && atB q a b i)] ∧ NetO M' x n side (if joined n side a b then atQ q a b i true else q) O' ∧ Chg M M' O O') := by
  obtain ⟨r, clk, l, hN, hO⟩ := h
  exact snd13 x r clk side n l q M hN O hO a b i
theorem joined14 (h : NetO M x n side q O) (a b : Int) : SoundCall Try.prog 14 [ptr x, int a, int b] M fun r' M' => r' = bool (joined n side a b) ∧ M' = M := by
  obtain ⟨r, clk, l, hN, hO⟩ := h
  exact snd14 x r clk side n l q M hN a b
theorem clear15 (h : NetO M x n side q O) (node : Int) : SoundCall Try.prog 15 [ptr x, int node] M (fun _ M' => ∃ O', NetO M' x n side (clearQ q node) O' ∧ Chg M M' O O') := by
  obtain ⟨r, clk, l, hN, hO⟩ := h
  exact snd15 x r clk side n l q M hN O hO node
theorem len16 (h : NetO M x n side q O) (a b : Int) : SoundCall Try.prog 16 [ptr x, int a, int b] M fun r' M' => r' = int (q (a, b)).length ∧ M' = M := by
  obtain ⟨r, clk, l, hN, hO⟩ := h
  exact snd16 x r clk side n l q M hN a b
theorem drop17 (h : NetO M x n side q O) (a b i : Int) : SoundCall Try.prog 17 [ptr x, int a, int b, int i] M (fun r' M' => ∃ O', r' = bool (atB q a b i) ∧ NetO M' x n side (atQ q a b i true) O' ∧ Chg M M' O O') := by
  obtain ⟨r, clk, l, hN, hO⟩ := h
  exact snd17 x r clk side n l q M hN O hO a b i
theorem nodes19 (h : NetO M x n side q O) : SoundCall Try.prog 19 [ptr x] M fun r' M' => r' = int n ∧ M' = M := by
  obtain ⟨r, clk, l, hN, hO⟩ := h
  exact snd19 x r clk side n l q M hN
theorem Chg.le {M0 M' : Mem} {O' : Nat → Prop} (h : Chg M M' O O') (hle : M0.le M) (hO : ∀ c, O c → M0 c = none) : M0.le M' := fun b o hb => by
  rw [h.same b (by rw [hle b o hb]; exact fun h => by cases h) (fun h' => by rw [hO b h'] at hb; cases hb)]
  exact hle b o hb
theorem Chg.out {M0 M' : Mem} {O' : Nat → Prop} (h : Chg M M' O O') (hle : M0.le M) (hO : ∀ c, O c → M0 c = none) : ∀ c, O' c → M0 c = none := fun c hc => by
  rcases h.sub c hc with h1 | h1
  · exact hO c h1
  · cases h2 : M0 c with
    | none => rfl
    | some o => rw [hle c o h2] at h1; cases h1
end
set_option maxHeartbeats 4000000 in
set_option maxRecDepth 20000 in
theorem snd8 (c n : Int) (M : Mem) (hn : 0 < n) (hn2 : n < 2 ^ 62) (hc : -2 ^ 63 ≤ c ∧ c < 2 ^ 63) : SoundCall Try.prog 8 [int c, int n] M fun r M' => r = int (pick c n) ∧ M' = M := by
  refine SoundCall.go tk8 pl8 mixed Try.func8 cb8 rfl (Nat.le_of_ble_eq_true rfl) ?_
  refine s_seq ?_
  refine s_region ?_
  refine o_q (q_as (v_raw rfl)) rfl rfl rfl ?_
  refine o_nil ?_
  refine s_seq ?_
  refine s_seq ?_
  refine s_region ?_
  refine o_q (q_mv (v_raw rfl)) rfl rfl rfl ?_
  refine o_q (q_lss rfl rfl) rfl rfl rfl ?_
  refine o_nil ?_
  refine s_cond rfl (fun h1 => ?_) (fun h1 => ?_)
  · have k1 := h1; try simp only [decide_eq_true_eq, decide_eq_false_iff_not, Bool.not_eq_true', Bool.not_eq_false', Bool.not_true, Bool.not_false, List.length_map, Decidable.not_not] at k1
    refine s_region ?_
    refine o_q (q_mv (v_raw rfl)) rfl rfl rfl ?_
    refine o_q (q_add rfl rfl (wrap64 (by omega) (by omega))) rfl rfl rfl ?_
    refine o_q (q_neg rfl (wrap64 (by omega) (by omega))) rfl rfl rfl ?_
    refine o_q (q_as (v_raw rfl)) rfl rfl rfl ?_
    refine o_nil ?_
    refine s_seq ?_
    refine s_region ?_
    refine o_q (q_mv (v_raw rfl)) rfl rfl rfl ?_
    refine o_q (q_mv (v_raw rfl)) rfl rfl rfl ?_
    refine o_q (q_rem rfl rfl (by omega)) rfl rfl rfl ?_
    refine o_q (q_as (v_raw rfl)) rfl rfl rfl ?_
    refine o_nil ?_
    refine s_ret ?_
    refine s_end ?_
    unfold pick
    rw [if_pos (by omega)]
    exact ⟨congrArg int (Int.tmod_eq_emod_of_nonneg (by omega)), rfl⟩
  · have k1 := h1; try simp only [decide_eq_true_eq, decide_eq_false_iff_not, Bool.not_eq_true', Bool.not_eq_false', Bool.not_true, Bool.not_false, List.length_map, Decidable.not_not] at k1
    refine s_skip ?_
    refine s_seq ?_
    refine s_region ?_
    refine o_q (q_mv (v_raw rfl)) rfl rfl rfl ?_
    refine o_q (q_mv (v_raw rfl)) rfl rfl rfl ?_
    refine o_q (q_rem rfl rfl (by omega)) rfl rfl rfl ?_
    refine o_q (q_as (v_raw rfl)) rfl rfl rfl ?_
    refine o_nil ?_
    refine s_ret ?_
    refine s_end ?_
    unfold pick
    rw [if_neg (by omega)]
    exact ⟨congrArg int (Int.tmod_eq_emod_of_nonneg (by omega)), rfl⟩

def tk7 : Nat → Nat → Option Nat := fun _ _ => none
def pl7 : Nat → List PStep := fun _ => []
theorem cb7 : Try.f7.body.map (codeB Try.prog Try.f7.ntmps tk7 pl7) = some true := by kernel_rfl
theorem goes7 : goesB Try.prog 7 = true := by kernel_rfl
-- carillon/carillonlaw05.examples params [] results [['t', 0]] own [] names ['1:x', '2:e', '3:_', '4:f', '5:a', '6:b', '7:ok', '8:_', '9:no', '10:j', '11:c', '12:is'] calls [9, 10, 11, 13, 14, 19] paths 1
set_option maxHeartbeats 4000000 in
set_option maxRecDepth 20000 in
theorem snd7 (M : Mem) : SoundCall Try.prog 7 [] M fun r M' => r = bool true ∧ M.le M' := by
  refine SoundCall.go tk7 pl7 mixed Try.func7 cb7 rfl (Nat.le_of_ble_eq_true rfl) ?_
  refine s_seq ?_
  refine s_region ?_
  refine o_q (q_as (v_raw rfl)) rfl rfl rfl ?_
  refine o_nil ?_
  refine s_seq ?_
  refine s_region ?_
  refine o_callx ((new9 3 _ (by decide))) goes9 (ac (v_raw rfl) ac_nil) rfl ?_
  rintro r' M1 ⟨x, O0, rfl, hN0, hle0, hO0⟩
  refine o_q (q_mv (v_tup rfl)) rfl rfl rfl ?_
  refine o_q (q_ext rfl rfl ((by first | exact v_raw rfl | exact v_sptr rfl))) rfl rfl rfl ?_
  refine o_q (q_ext rfl rfl (v_raw rfl)) rfl rfl rfl ?_
  refine o_q (q_as ((by first | exact v_raw rfl | exact v_sptr rfl))) rfl rfl rfl ?_
  refine o_q (q_as (v_raw rfl)) rfl rfl rfl ?_
  refine o_nil ?_
  refine s_seq ?_
  refine s_region ?_
  refine o_callx ((new9n 8 _ (by decide))) goes9 (ac (v_raw rfl) ac_nil) rfl ?_
  rintro r' M' ⟨rfl, rfl⟩
  refine o_q (q_mv (v_tup rfl)) rfl rfl rfl ?_
  refine o_q (q_ext rfl rfl ((by first | exact v_raw rfl | exact v_sptr rfl))) rfl rfl rfl ?_
  refine o_q (q_ext rfl rfl (v_raw rfl)) rfl rfl rfl ?_
  refine o_q (q_as ((by first | exact v_raw rfl | exact v_sptr rfl))) rfl rfl rfl ?_
  refine o_q (q_as (v_raw rfl)) rfl rfl rfl ?_
  refine o_nil ?_
  refine s_seq ?_
  refine s_seq ?_
  refine s_region ?_
  refine o_q (q_mv ((by first | exact v_raw rfl | exact v_sptr rfl))) rfl rfl rfl ?_
  refine o_q (q_peql und24 rfl rfl) rfl rfl rfl ?_
  refine o_q (q_mv (v_raw rfl)) rfl rfl rfl ?_
  refine o_yes rfl rfl rfl rfl ?_
  refine o_q (q_mv (v_raw rfl)) rfl rfl rfl ?_
  refine o_yes rfl rfl rfl rfl ?_
  refine o_q (q_neq rfl rfl) rfl rfl rfl ?_
  refine o_q (q_pick_c (t := false) rfl rfl (v_raw rfl)) rfl rfl rfl ?_
  refine o_q (q_mv (v_raw rfl)) rfl rfl rfl ?_
  refine o_yes rfl rfl rfl rfl ?_
  refine o_q (q_mv (v_raw rfl)) rfl rfl rfl ?_
  refine o_yes rfl rfl rfl rfl ?_
  refine o_q (q_neq rfl rfl) rfl rfl rfl ?_
  refine o_q (q_pick_c (t := false) rfl rfl (v_raw rfl)) rfl rfl rfl ?_
  refine o_nil ?_
  refine s_else rfl rfl ?_
  refine s_skip ?_
  refine s_seq ?_
  refine s_region ?_
  refine o_q (q_mv ((by first | exact v_raw rfl | exact v_sptr rfl))) rfl rfl rfl ?_
  refine o_callx ((send11 hN0 0 1 "a".toUTF8)) goes11 (ac ((by first | exact v_raw rfl | exact v_sptr rfl)) (ac (v_raw rfl) (ac (v_raw rfl) (ac (v_raw rfl) ac_nil)))) rfl ?_
  rintro r' M' ⟨O1, rfl, hN1, hC1⟩
  refine o_q (q_mv (v_raw rfl)) rfl rfl rfl ?_
  refine o_yes rfl rfl rfl (by decide +kernel) ?_
  refine o_q (q_mv ((by first | exact v_raw rfl | exact v_sptr rfl))) rfl rfl rfl ?_
  refine o_yes rfl rfl rfl (by decide +kernel) ?_
  refine o_callx ((send11 hN1 0 1 "b".toUTF8)) goes11 (ac ((by first | exact v_raw rfl | exact v_sptr rfl)) (ac (v_raw rfl) (ac (v_raw rfl) (ac (v_raw rfl) ac_nil)))) rfl ?_
  rintro r' M' ⟨O2, rfl, hN2, hC2⟩
  refine o_q (q_pick_c (t := true) rfl (by decide +kernel) (v_raw rfl)) rfl rfl rfl ?_
  refine o_q (q_as (v_raw rfl)) rfl rfl rfl ?_
  refine o_nil ?_
  refine s_seq ?_
  refine s_region ?_
  refine o_q (q_mv ((by first | exact v_raw rfl | exact v_sptr rfl))) rfl rfl rfl ?_
  refine o_callx ((take13 hN2 0 1 1)) goes13 (ac ((by first | exact v_raw rfl | exact v_sptr rfl)) (ac (v_raw rfl) (ac (v_raw rfl) (ac (v_raw rfl) ac_nil)))) rfl ?_
  rintro r' M' ⟨O3, rfl, hN3, hC3⟩
  refine o_q (q_mv (v_tup rfl)) rfl rfl rfl ?_
  refine o_q (q_ext rfl rfl (v_raw rfl)) rfl rfl rfl ?_
  refine o_q (q_ext rfl rfl (v_raw rfl)) rfl rfl rfl ?_
  refine o_q (q_as (v_raw rfl)) rfl rfl rfl ?_
  refine o_q (q_as (v_raw rfl)) rfl rfl rfl ?_
  refine o_nil ?_
  refine s_seq ?_
  refine s_region ?_
  refine o_q (q_mv ((by first | exact v_raw rfl | exact v_sptr rfl))) rfl rfl rfl ?_
  refine o_callx ((cut10 hN3 1 (by decide))) goes10 (ac ((by first | exact v_raw rfl | exact v_sptr rfl)) (ac (v_raw rfl) ac_nil)) rfl ?_
  rintro r' M' ⟨O4, hN4, hC4⟩
  refine o_nil ?_
  refine s_seq ?_
  refine s_region ?_
  refine o_q (q_mv ((by first | exact v_raw rfl | exact v_sptr rfl))) rfl rfl rfl ?_
  refine o_callx ((take13 hN4 0 1 0)) goes13 (ac ((by first | exact v_raw rfl | exact v_sptr rfl)) (ac (v_raw rfl) (ac (v_raw rfl) (ac (v_raw rfl) ac_nil)))) rfl ?_
  rintro r' M' ⟨O5, rfl, hN5, hC5⟩
  refine o_q (q_mv (v_tup rfl)) rfl rfl rfl ?_
  refine o_q (q_ext rfl rfl (v_raw rfl)) rfl rfl rfl ?_
  refine o_q (q_ext rfl rfl (v_raw rfl)) rfl rfl rfl ?_
  refine o_q (q_as (v_raw rfl)) rfl rfl rfl ?_
  refine o_q (q_as (v_raw rfl)) rfl rfl rfl ?_
  refine o_nil ?_
  refine s_seq ?_
  refine s_region ?_
  refine o_q (q_mv ((by first | exact v_raw rfl | exact v_sptr rfl))) rfl rfl rfl ?_
  refine o_call ((joined14 hN5 1 2)) goes14 (ac ((by first | exact v_raw rfl | exact v_sptr rfl)) (ac (v_raw rfl) (ac (v_raw rfl) ac_nil))) rfl ?_
  refine o_q (q_mv (v_raw rfl)) rfl rfl rfl ?_
  refine o_yes rfl rfl rfl (by decide +kernel) ?_
  refine o_q (q_mv ((by first | exact v_raw rfl | exact v_sptr rfl))) rfl rfl rfl ?_
  refine o_yes rfl rfl rfl (by decide +kernel) ?_
  refine o_call ((joined14 hN5 0 1)) goes14 (ac ((by first | exact v_raw rfl | exact v_sptr rfl)) (ac (v_raw rfl) (ac (v_raw rfl) ac_nil))) rfl ?_
  refine o_yes rfl rfl rfl (by decide +kernel) ?_
  refine o_q (q_not rfl) rfl rfl rfl ?_
  refine o_q (q_pick_c (t := true) rfl (by decide +kernel) (v_raw rfl)) rfl rfl rfl ?_
  refine o_q (q_as (v_raw rfl)) rfl rfl rfl ?_
  refine o_nil ?_
  refine s_seq ?_
  refine s_region ?_
  refine o_q (q_mv ((by first | exact v_raw rfl | exact v_sptr rfl))) rfl rfl rfl ?_
  refine o_callx ((cut10 hN5 0 (by decide))) goes10 (ac ((by first | exact v_raw rfl | exact v_sptr rfl)) (ac (v_raw rfl) ac_nil)) rfl ?_
  rintro r' M' ⟨O6, hN6, hC6⟩
  refine o_nil ?_
  refine s_seq ?_
  refine s_region ?_
  refine o_q (q_mv ((by first | exact v_raw rfl | exact v_sptr rfl))) rfl rfl rfl ?_
  refine o_callx ((take13 hN6 0 1 0)) goes13 (ac ((by first | exact v_raw rfl | exact v_sptr rfl)) (ac (v_raw rfl) (ac (v_raw rfl) (ac (v_raw rfl) ac_nil)))) rfl ?_
  rintro r' M' ⟨O7, rfl, hN7, hC7⟩
  refine o_q (q_mv (v_tup rfl)) rfl rfl rfl ?_
  refine o_q (q_ext rfl rfl (v_raw rfl)) rfl rfl rfl ?_
  refine o_q (q_ext rfl rfl (v_raw rfl)) rfl rfl rfl ?_
  refine o_q (q_as (v_raw rfl)) rfl rfl rfl ?_
  refine o_q (q_as (v_raw rfl)) rfl rfl rfl ?_
  refine o_nil ?_
  refine s_seq ?_
  refine s_region ?_
  refine o_q (q_mv (v_raw rfl)) rfl rfl rfl ?_
  refine o_q (q_mv (v_raw rfl)) rfl rfl rfl ?_
  refine o_yes rfl rfl rfl (by decide +kernel) ?_
  refine o_q (q_mv (v_raw rfl)) rfl rfl rfl ?_
  refine o_yes rfl rfl rfl (by decide +kernel) ?_
  refine o_q (q_seql rfl rfl) rfl rfl rfl ?_
  refine o_q (q_pick_c (t := true) rfl (by decide +kernel) (v_raw rfl)) rfl rfl rfl ?_
  refine o_q (q_mv (v_raw rfl)) rfl rfl rfl ?_
  refine o_yes rfl rfl rfl (by decide +kernel) ?_
  refine o_q (q_mv (v_raw rfl)) rfl rfl rfl ?_
  refine o_q (q_pick_c (t := true) rfl (by decide +kernel) (v_raw rfl)) rfl rfl rfl ?_
  refine o_q (q_mv (v_raw rfl)) rfl rfl rfl ?_
  refine o_yes rfl rfl rfl (by decide +kernel) ?_
  refine o_q (q_mv (v_raw rfl)) rfl rfl rfl ?_
  refine o_yes rfl rfl rfl (by decide +kernel) ?_
  refine o_q (q_not rfl) rfl rfl rfl ?_
  refine o_q (q_pick_c (t := true) rfl (by decide +kernel) (v_raw rfl)) rfl rfl rfl ?_
  refine o_q (q_mv (v_raw rfl)) rfl rfl rfl ?_
  refine o_yes rfl rfl rfl (by decide +kernel) ?_
  refine o_q (q_mv (v_raw rfl)) rfl rfl rfl ?_
  refine o_q (q_pick_c (t := true) rfl (by decide +kernel) (v_raw rfl)) rfl rfl rfl ?_
  refine o_q (q_mv (v_raw rfl)) rfl rfl rfl ?_
  refine o_yes rfl rfl rfl (by decide +kernel) ?_
  refine o_q (q_mv (v_raw rfl)) rfl rfl rfl ?_
  refine o_yes rfl rfl rfl (by decide +kernel) ?_
  refine o_q (q_seql rfl rfl) rfl rfl rfl ?_
  refine o_q (q_pick_c (t := true) rfl (by decide +kernel) (v_raw rfl)) rfl rfl rfl ?_
  refine o_q (q_mv (v_raw rfl)) rfl rfl rfl ?_
  refine o_yes rfl rfl rfl (by decide +kernel) ?_
  refine o_q (q_mv (v_raw rfl)) rfl rfl rfl ?_
  refine o_q (q_pick_c (t := true) rfl (by decide +kernel) (v_raw rfl)) rfl rfl rfl ?_
  refine o_q (q_mv (v_raw rfl)) rfl rfl rfl ?_
  refine o_yes rfl rfl rfl (by decide +kernel) ?_
  refine o_q (q_mv ((by first | exact v_raw rfl | exact v_sptr rfl))) rfl rfl rfl ?_
  refine o_yes rfl rfl rfl (by decide +kernel) ?_
  refine o_callx ((send11 hN7 0 0 "a".toUTF8)) goes11 (ac ((by first | exact v_raw rfl | exact v_sptr rfl)) (ac (v_raw rfl) (ac (v_raw rfl) (ac (v_raw rfl) ac_nil)))) rfl ?_
  rintro r' M' ⟨O8, rfl, hN8, hC8⟩
  refine o_yes rfl rfl rfl (by decide +kernel) ?_
  refine o_q (q_not rfl) rfl rfl rfl ?_
  refine o_q (q_pick_c (t := true) rfl (by decide +kernel) (v_raw rfl)) rfl rfl rfl ?_
  refine o_q (q_mv (v_raw rfl)) rfl rfl rfl ?_
  refine o_yes rfl rfl rfl (by decide +kernel) ?_
  refine o_q (q_mv ((by first | exact v_raw rfl | exact v_sptr rfl))) rfl rfl rfl ?_
  refine o_yes rfl rfl rfl (by decide +kernel) ?_
  refine o_callx ((send11 hN8 0 3 "a".toUTF8)) goes11 (ac ((by first | exact v_raw rfl | exact v_sptr rfl)) (ac (v_raw rfl) (ac (v_raw rfl) (ac (v_raw rfl) ac_nil)))) rfl ?_
  rintro r' M' ⟨O9, rfl, hN9, hC9⟩
  refine o_yes rfl rfl rfl (by decide +kernel) ?_
  refine o_q (q_not rfl) rfl rfl rfl ?_
  refine o_q (q_pick_c (t := true) rfl (by decide +kernel) (v_raw rfl)) rfl rfl rfl ?_
  refine o_q (q_mv (v_raw rfl)) rfl rfl rfl ?_
  refine o_yes rfl rfl rfl (by decide +kernel) ?_
  refine o_q (q_mv ((by first | exact v_raw rfl | exact v_sptr rfl))) rfl rfl rfl ?_
  refine o_yes rfl rfl rfl (by decide +kernel) ?_
  refine o_call ((nodes19 hN9)) goes19 (ac ((by first | exact v_raw rfl | exact v_sptr rfl)) ac_nil) rfl ?_
  refine o_yes rfl rfl rfl (by decide +kernel) ?_
  refine o_q (q_eql rfl rfl) rfl rfl rfl ?_
  refine o_q (q_pick_c (t := true) rfl (by decide +kernel) (v_raw rfl)) rfl rfl rfl ?_
  refine o_q (q_as (v_raw rfl)) rfl rfl rfl ?_
  refine o_nil ?_
  refine s_ret ?_
  refine s_end ?_
  refine ⟨congrArg bool (by decide +kernel), ?_⟩
  exact (hC1.trans (hC2.trans (hC3.trans (hC4.trans (hC5.trans (hC6.trans (hC7.trans (hC8.trans hC9)))))))).le hle0 hO0
theorem ex7 (M : Mem) : SoundCall Try.prog 7 [] M fun r M' => r = bool true ∧ M' = M := (snd7 M).det
end C05
