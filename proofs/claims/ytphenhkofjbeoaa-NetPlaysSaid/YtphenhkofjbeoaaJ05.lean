import Derived.Test.YtphenhkofjbeoaaI05
import Derived.Test.YtphenhkofjbeoaaProg
/-! Chapter 5: the net: what its functions compute. -/
open Go Go.Proofs Go.Am
set_option linter.unusedVariables false
set_option linter.unusedSimpArgs false
set_option autoImplicit false
namespace C05
theorem by40 : bytesT Try.prog 40 = some 24 := by kernel_rfl
theorem bz54 : (zeroT Try.prog 54).map (fun z => z.cells.toList.map AVal.raw) = some [.raw (.int .i64 0), .raw (.slice none 0 0), .raw (.int .i64 0)] := by kernel_rfl
theorem bp54 : (aPlaces Try.prog 54).isSome = true := by kernel_rfl
theorem zc40 : zeroCellsT Try.prog 40 = some [.sl [] true] := by kernel_rfl
def tk20 : Nat → Nat → Option Nat
  | 4, 11 => some 0
  | _, _ => none
def pl20 : Nat → List PStep
  | 4 => [.q 0, .q 1, .q 2, .q 3, .q 4, .q 5, .q 6, .q 7, .q 8, .q 9, .q 10, .q 12, .q 13, .s 11 [13, 12, 9, 8, 7, 6, 5, 4, 3, 2, 1, 0], .q 14, .q 15, .s 16 []]
  | _ => []
theorem cb20 : Try.f20.body.map (codeB Try.prog Try.f20.ntmps tk20 pl20) = some true := by kernel_rfl
theorem goes20 : goesB Try.prog 20 = true := by kernel_rfl
-- (*carillon/carillonref05.Net).Send params ['*carillonref05.Net', 'int', 'int', 'string'] results [['t', 8]] own [38] names ['0:x', '1:a', '2:b', '3:s', '4:x', '5:a', '6:b', '7:s', '9:k'] calls [30] paths 3

theorem set_set {N m k : Nat} {q : K2 → List ByteArray} {a b : Int} {ts xs : List ByteArray} {M : Mem} {L : Nat} (h : atR N a b = ((m * N + k : Nat) : Int)) (hm : m < N) (hk : k < N) (hb : m * N + k < N * N) : (M.upd L (.cells ((lk N q).set (0 + (atR N a b).toNat * 1) (.sl (xs.map str) false)))).upd L (.cells (((lk N q).set (0 + (atR N a b).toNat * 1) (.sl (xs.map str) false)).set (0 + (atR N a b).toNat * 1) (.sl (ts.map str) true))) = M.upd L (.cells (lk N (setQ q ((m : Int), (k : Int)) ts))) := by
  rw [Mem.upd_upd, List.set_set, off_R h, lk_set hm hk hb]
set_option maxHeartbeats 4000000 in
set_option maxRecDepth 20000 in
theorem snd20 (y L N side : Nat) (q : K2 → List ByteArray) (M : Mem) (hR : RefAt M y L N side q) (a b : Int) (s : ByteArray) : SoundCall Try.prog 20 [ptr y, int a, int b, str s] M fun r' M' => r' = bool (okS N q a b) ∧ M' = M.upd L (.cells (lk N (sendQ N q a b s))) := by
  obtain ⟨hy, hL, yL, ⟨n1, n7⟩, hz, hql, hs63⟩ := id hR
  have Ly := yL.symm
  have elsS : ∀ l : List ByteArray, Els 1 (l.map str) := fun _ => Els.map fun _ => ⟨rfl, rfl⟩
  refine SoundCall.go tk20 pl20 mixed Try.func20 cb20 rfl (Nat.le_of_ble_eq_true rfl) ?_
  refine s_seq ?_
  refine s_region ?_
  refine o_q (q_as (v_raw rfl)) rfl rfl rfl ?_
  refine o_nil ?_
  refine s_seq ?_
  refine s_region ?_
  refine o_q (q_mv ((by first | exact v_raw rfl | exact v_sptr rfl))) rfl rfl rfl ?_
  refine o_q (q_mv (v_raw rfl)) rfl rfl rfl ?_
  refine o_q (q_mv (v_raw rfl)) rfl rfl rfl ?_
  refine o_call ((snd30 y L N side q _ hR a b)) goes30 (ac ((by first | exact v_raw rfl | exact v_sptr rfl)) (ac (v_raw rfl) (ac (v_raw rfl) ac_nil))) rfl ?_
  refine o_q (q_as (v_raw rfl)) rfl rfl rfl ?_
  refine o_nil ?_
  refine s_seq ?_
  refine s_seq ?_
  refine s_region ?_
  refine o_q (q_mv (v_raw rfl)) rfl rfl rfl ?_
  refine o_q (q_lss rfl rfl) rfl rfl rfl ?_
  refine o_q (q_mv (v_raw rfl)) rfl rfl rfl ?_
  refine o_cases (want := false) (j := 2) rfl rfl (fun h1 => ?_) (fun h1 => ?_)
  · have k1 := h1; try simp only [decide_eq_true_eq, decide_eq_false_iff_not, Bool.not_eq_true', Bool.not_eq_false', Bool.not_true, Bool.not_false, List.length_map, Decidable.not_not] at k1
    obtain ⟨hok, m, k, rfl, rfl, hm, hk, hne, hat, hbd⟩ := atR_pos k1
    have hql0 := hql ((m : Int), (k : Int))
    refine o_yes rfl rfl rfl h1 ?_
    refine o_q (q_mv ((by first | exact v_raw rfl | exact v_sptr rfl))) rfl rfl rfl ?_
    refine o_yes rfl rfl rfl h1 ?_
    refine o_q (q_nil rfl) rfl rfl rfl ?_
    refine o_yes rfl rfl rfl h1 ?_
    refine o_q (q_fr fo54_1 rfl) rfl rfl rfl ?_
    refine o_yes rfl rfl rfl h1 ?_
    refine o_q (q_ldm ag52 sz52 rfl (by repeat first | exact Mem.upd_self _ _ _ | assumption | refine Mem.upd_ne (by assumption) ?_) rfl ((by first | exact v_raw rfl | exact v_sl rfl))) rfl rfl rfl ?_
    refine o_yes rfl rfl rfl h1 ?_
    refine o_q (q_mv (v_raw rfl)) rfl rfl rfl ?_
    refine o_yes rfl rfl rfl h1 ?_
    refine o_q (q_idxr und52 sz40 rfl rfl (by omega) (by omega)) rfl rfl rfl ?_
    refine o_yes rfl rfl rfl h1 ?_
    refine o_q (q_ldm ag40 sz40 rfl (by repeat first | exact Mem.upd_self _ _ _ | assumption | refine Mem.upd_ne (by assumption) ?_) (lk_piece hat hm hk hbd) (v_sl rfl)) rfl rfl rfl ?_
    refine o_yes rfl rfl rfl h1 ?_
    refine o_q (q_len rfl und40 rfl) rfl rfl rfl ?_
    refine o_yes rfl rfl rfl h1 ?_
    refine o_q (q_geq rfl rfl) rfl rfl rfl ?_
    refine o_q (q_pick_c (t := false) rfl h1 (v_raw rfl)) rfl rfl rfl ?_
    refine o_nil ?_
    refine s_cond rfl (fun h2 => ?_) (fun h2 => ?_)
    · have k2 := h2; try simp only [decide_eq_true_eq, decide_eq_false_iff_not, Bool.not_eq_true', Bool.not_eq_false', Bool.not_true, Bool.not_false, List.length_map, Decidable.not_not] at k2
      have hok0 : okS N q m k = false := by rw [okS_R, hok, Bool.true_and]; exact decide_eq_false (by omega)
      refine s_seq ?_
      refine s_region ?_
      refine o_q (q_as (v_raw rfl)) rfl rfl rfl ?_
      refine o_nil ?_
      refine s_ret ?_
      refine s_code_ret ?_
      refine s_end ?_
      first
      | exact ⟨congrArg bool hok0.symm, by rw [okS_no hok0]; exact (Mem.upd_same hL).symm⟩
      | exact ⟨congrArg bool hok1.symm, by rw [okS_yes hok1, ← set_set (xs := q ((m : Int), (k : Int))) hat hm hk hbd, List.map_append]; rfl⟩
    · have k2 := h2; try simp only [decide_eq_true_eq, decide_eq_false_iff_not, Bool.not_eq_true', Bool.not_eq_false', Bool.not_true, Bool.not_false, List.length_map, Decidable.not_not] at k2
      have hok1 : okS N q m k = true := by rw [okS_R, hok, Bool.true_and]; exact decide_eq_true (by omega)
      refine s_skip ?_
      refine s_seq ?_
      refine s_draw rfl ?_
      refine d_q rfl (q_mv ((by first | exact v_raw rfl | exact v_sptr rfl))) rfl rfl rfl ?_
      refine d_q rfl (q_nil rfl) rfl rfl rfl ?_
      refine d_q rfl (q_fr fo54_1 rfl) rfl rfl rfl ?_
      refine d_q rfl (q_ldm ag52 sz52 rfl (by repeat first | exact Mem.upd_self _ _ _ | assumption | refine Mem.upd_ne (by assumption) ?_) rfl ((by first | exact v_raw rfl | exact v_sl rfl))) rfl rfl rfl ?_
      refine d_q rfl (q_mv (v_raw rfl)) rfl rfl rfl ?_
      refine d_q rfl (q_mv ((by first | exact v_raw rfl | exact v_sptr rfl))) rfl rfl rfl ?_
      refine d_q rfl (q_nil rfl) rfl rfl rfl ?_
      refine d_q rfl (q_fr fo54_1 rfl) rfl rfl rfl ?_
      refine d_q rfl (q_ldm ag52 sz52 rfl (by repeat first | exact Mem.upd_self _ _ _ | assumption | refine Mem.upd_ne (by assumption) ?_) rfl ((by first | exact v_raw rfl | exact v_sl rfl))) rfl rfl rfl ?_
      refine d_q rfl (q_mv (v_raw rfl)) rfl rfl rfl ?_
      refine d_q rfl (q_idxr und52 sz40 rfl rfl (by omega) (by omega)) rfl rfl rfl ?_
      refine d_q rfl (q_mv (v_raw rfl)) rfl rfl rfl ?_
      refine d_q rfl (q_bs slt40 (pc (v_raw rfl) pn) rfl (Els.cons rfl rfl Els.nil) (by decide)) rfl rfl rfl ?_
      refine d_s rfl ?_
      refine o_take rfl rfl (by repeat first | exact Mem.upd_self _ _ _ | assumption | refine Mem.upd_ne (by assumption) ?_) (lk_take hat hm hk hbd) ag40 sz40 ?_
      refine o_nil ⟨(by simp [Mem.upd, *]), ?_⟩
      refine d_qs rfl (q_app slt40 rfl rfl rfl rfl (elsS _) (by first | exact (elsS _) | exact Els.cons rfl rfl Els.nil) (by simp; omega)) rfl rfl rfl rfl ?_
      refine d_q rfl (q_idxr und52 sz40 rfl rfl (by omega) (by omega)) rfl rfl rfl ?_
      refine d_s rfl ?_
      refine o_store_own rfl (by repeat first | exact Mem.upd_self _ _ _ | assumption | refine Mem.upd_ne (by assumption) ?_) rfl sz40 (by rw [List.length_set, lk_len, off_R hat]; omega) ?_
      refine o_nil ⟨(by simp [Mem.upd, *]), ?_⟩
      refine d_nil ?_
      refine s_seq ?_
      refine s_region ?_
      refine o_q (q_as (v_raw rfl)) rfl rfl rfl ?_
      refine o_nil ?_
      refine s_ret ?_
      refine s_end ?_
      first
      | exact ⟨congrArg bool hok0.symm, by rw [okS_no hok0]; exact (Mem.upd_same hL).symm⟩
      | exact ⟨congrArg bool hok1.symm, by rw [okS_yes hok1, ← set_set (xs := q ((m : Int), (k : Int))) hat hm hk hbd, List.map_append]; rfl⟩
  · have k1 := h1; try simp only [decide_eq_true_eq, decide_eq_false_iff_not, Bool.not_eq_true', Bool.not_eq_false', Bool.not_true, Bool.not_false, List.length_map, Decidable.not_not] at k1
    have hok0 : okS N q a b = false := by rw [okS_R, atR_neg k1]; rfl
    refine o_no rfl rfl rfl rfl h1 ?_
    refine o_no rfl rfl rfl rfl h1 ?_
    refine o_no rfl rfl rfl rfl h1 ?_
    refine o_no rfl rfl rfl rfl h1 ?_
    refine o_no rfl rfl rfl rfl h1 ?_
    refine o_no rfl rfl rfl rfl h1 ?_
    refine o_no rfl rfl rfl rfl h1 ?_
    refine o_no rfl rfl rfl rfl h1 ?_
    refine o_no rfl rfl rfl rfl h1 ?_
    refine o_q (q_pick_c (t := true) rfl h1 (v_raw rfl)) rfl rfl rfl ?_
    refine o_nil ?_
    refine s_then rfl rfl ?_
    refine s_seq ?_
    refine s_region ?_
    refine o_q (q_as (v_raw rfl)) rfl rfl rfl ?_
    refine o_nil ?_
    refine s_ret ?_
    refine s_code_ret ?_
    refine s_end ?_
    first
    | exact ⟨congrArg bool hok0.symm, by rw [okS_no hok0]; exact (Mem.upd_same hL).symm⟩
    | exact ⟨congrArg bool hok1.symm, by rw [okS_yes hok1, ← set_set (xs := q ((m : Int), (k : Int))) hat hm hk hbd, List.map_append]; rfl⟩

def tk31 : Nat → Nat → Option Nat
  | 5, 0 => some 0
  | 6, 0 => some 0
  | 6, 11 => some 0
  | 7, 5 => some 0
  | _, _ => none
def pl31 : Nat → List PStep
  | 7 => [.q 0, .q 1, .q 2, .q 3, .q 4, .q 5, .q 6, .q 7, .q 8, .q 9, .q 10, .q 11, .q 12, .q 13, .q 14, .q 15, .q 16, .q 17, .s 18 []]
  | _ => []
theorem cb31 : Try.f31.body.map (codeB Try.prog Try.f31.ntmps tk31 pl31) = some true := by kernel_rfl
theorem goes31 : goesB Try.prog 31 = true := by kernel_rfl
-- (*carillon/carillonref05.Net).remove params ['*carillonref05.Net', 'int', 'int', 'int'] results [['t', 8], ['t', 9]] own [45, 61, 12, 55] names ['0:x', '1:a', '2:b', '3:i', '4:x', '5:a', '6:b', '7:i', '10:k', '11:s', '12:out'] calls [30] paths 4

theorem set1 {N m k j : Nat} {q : K2 → List ByteArray} {a b : Int} {X : List AVal} (h : atR N a b = ((m * N + k : Nat) : Int)) (hm : m < N) (hk : k < N) (hb : m * N + k < N * N) (hX : X = ((q ((m : Int), (k : Int))).take j ++ (q ((m : Int), (k : Int))).drop (j + 1)).map str) : (lk N q).set (0 + (atR N a b).toNat * 1) (.sl X true) = lk N (setQ q ((m : Int), (k : Int)) ((q ((m : Int), (k : Int))).eraseIdx j)) := by
  rw [hX, off_R h, lk_set hm hk hb, List.eraseIdx_eq_take_drop_succ]
theorem er2 {l : List ByteArray} {j n m : Nat} (hn : n = j + 1) (hm : m = (l.map str).length) : [] ++ ((l.map str).take j).drop 0 ++ ((l.map str).take m).drop n = (l.take j ++ l.drop (j + 1)).map str := by
  subst hn hm
  rw [List.take_length, List.drop_zero, List.nil_append, List.map_append, List.map_take, List.map_drop]
set_option maxHeartbeats 4000000 in
set_option maxRecDepth 20000 in
theorem snd31 (y L N side : Nat) (q : K2 → List ByteArray) (M : Mem) (hR : RefAt M y L N side q) (a b i : Int) : SoundCall Try.prog 31 [ptr y, int a, int b, int i] M fun r' M' => r' = .tup [str (atS q a b i), bool (atB q a b i)] ∧ M' = M.upd L (.cells (lk N (atQ q a b i true))) := by
  obtain ⟨hy, hL, yL, ⟨n1, n7⟩, hz, hql, hs63⟩ := id hR
  have Ly := yL.symm
  have elsS : ∀ l : List ByteArray, Els 1 (l.map str) := fun _ => Els.map fun _ => ⟨rfl, rfl⟩
  have elsT : ∀ (l : List AVal) (n : Nat), Els 1 l → Els 1 (l.take n) := fun l n h W hW => h W (List.mem_of_mem_take hW)
  have elsD : ∀ (l : List AVal) (n : Nat), Els 1 l → Els 1 (l.drop n) := fun l n h W hW => h W (List.mem_of_mem_drop hW)
  refine SoundCall.go tk31 pl31 mixed Try.func31 cb31 rfl (Nat.le_of_ble_eq_true rfl) ?_
  refine s_seq ?_
  refine s_region ?_
  refine o_q (q_as (v_raw rfl)) rfl rfl rfl ?_
  refine o_q (q_as (v_raw rfl)) rfl rfl rfl ?_
  refine o_nil ?_
  refine s_seq ?_
  refine s_region ?_
  refine o_q (q_mv ((by first | exact v_raw rfl | exact v_sptr rfl))) rfl rfl rfl ?_
  refine o_q (q_mv (v_raw rfl)) rfl rfl rfl ?_
  refine o_q (q_mv (v_raw rfl)) rfl rfl rfl ?_
  refine o_call ((snd30 y L N side q _ hR a b)) goes30 (ac ((by first | exact v_raw rfl | exact v_sptr rfl)) (ac (v_raw rfl) (ac (v_raw rfl) ac_nil))) rfl ?_
  refine o_q (q_as (v_raw rfl)) rfl rfl rfl ?_
  refine o_nil ?_
  refine s_seq ?_
  refine s_seq ?_
  refine s_region ?_
  refine o_q (q_mv (v_raw rfl)) rfl rfl rfl ?_
  refine o_q (q_lss rfl rfl) rfl rfl rfl ?_
  refine o_q (q_mv (v_raw rfl)) rfl rfl rfl ?_
  refine o_cases (want := false) (j := 2) rfl rfl (fun h1 => ?_) (fun h1 => ?_)
  · have k1 := h1; try simp only [decide_eq_true_eq, decide_eq_false_iff_not, Bool.not_eq_true', Bool.not_eq_false', Bool.not_true, Bool.not_false, List.length_map, Decidable.not_not] at k1
    obtain ⟨hok, m, k, rfl, rfl, hm, hk, hne, hat, hbd⟩ := atR_pos k1
    have hql0 := hql ((m : Int), (k : Int))
    refine o_yes rfl rfl rfl h1 ?_
    refine o_q (q_mv (v_raw rfl)) rfl rfl rfl ?_
    refine o_yes rfl rfl rfl h1 ?_
    refine o_q (q_lss rfl rfl) rfl rfl rfl ?_
    refine o_q (q_pick_c (t := false) rfl h1 (v_raw rfl)) rfl rfl rfl ?_
    refine o_q (q_mv (v_raw rfl)) rfl rfl rfl ?_
    refine o_cases (want := false) (j := 6) rfl rfl (fun h2 => ?_) (fun h2 => ?_)
    · have k2 := h2; try simp only [decide_eq_true_eq, decide_eq_false_iff_not, Bool.not_eq_true', Bool.not_eq_false', Bool.not_true, Bool.not_false, List.length_map, Decidable.not_not] at k2
      refine o_yes rfl rfl rfl h2 ?_
      refine o_q (q_mv (v_raw rfl)) rfl rfl rfl ?_
      refine o_yes rfl rfl rfl h2 ?_
      refine o_q (q_mv ((by first | exact v_raw rfl | exact v_sptr rfl))) rfl rfl rfl ?_
      refine o_yes rfl rfl rfl h2 ?_
      refine o_q (q_nil rfl) rfl rfl rfl ?_
      refine o_yes rfl rfl rfl h2 ?_
      refine o_q (q_fr fo54_1 rfl) rfl rfl rfl ?_
      refine o_yes rfl rfl rfl h2 ?_
      refine o_q (q_ldm ag52 sz52 rfl (by repeat first | exact Mem.upd_self _ _ _ | assumption | refine Mem.upd_ne (by assumption) ?_) rfl ((by first | exact v_raw rfl | exact v_sl rfl))) rfl rfl rfl ?_
      refine o_yes rfl rfl rfl h2 ?_
      refine o_q (q_mv (v_raw rfl)) rfl rfl rfl ?_
      refine o_yes rfl rfl rfl h2 ?_
      refine o_q (q_idxr und52 sz40 rfl rfl (by omega) (by omega)) rfl rfl rfl ?_
      refine o_yes rfl rfl rfl h2 ?_
      refine o_q (q_ldm ag40 sz40 rfl (by repeat first | exact Mem.upd_self _ _ _ | assumption | refine Mem.upd_ne (by assumption) ?_) (lk_piece hat hm hk hbd) (v_sl rfl)) rfl rfl rfl ?_
      refine o_yes rfl rfl rfl h2 ?_
      refine o_q (q_len rfl und40 rfl) rfl rfl rfl ?_
      refine o_yes rfl rfl rfl h2 ?_
      refine o_q (q_geq rfl rfl) rfl rfl rfl ?_
      refine o_q (q_pick_c (t := false) rfl h2 (v_raw rfl)) rfl rfl rfl ?_
      refine o_nil ?_
      refine s_cond rfl (fun h3 => ?_) (fun h3 => ?_)
      · have k3 := h3; try simp only [decide_eq_true_eq, decide_eq_false_iff_not, Bool.not_eq_true', Bool.not_eq_false', Bool.not_true, Bool.not_false, List.length_map, Decidable.not_not] at k3
        have hno : atB q m k i = false := decide_eq_false (by omega)
        refine s_seq ?_
        refine s_region ?_
        refine o_q (q_as (v_raw rfl)) rfl rfl rfl ?_
        refine o_q (q_as (v_raw rfl)) rfl rfl rfl ?_
        refine o_nil ?_
        refine s_ret ?_
        refine s_code_ret ?_
        refine s_end ?_
        refine ⟨by unfold atS; rw [hno]; rfl, ?_⟩
        unfold atQ
        rw [hno]
        exact (Mem.upd_same hL).symm
      · have k3 := h3; try simp only [decide_eq_true_eq, decide_eq_false_iff_not, Bool.not_eq_true', Bool.not_eq_false', Bool.not_true, Bool.not_false, List.length_map, Decidable.not_not] at k3
        obtain ⟨j, rfl⟩ : ∃ j : Nat, i = j := Int.eq_ofNat_of_zero_le (by omega)
        have hj : j < (q ((m : Int), (k : Int))).length := by omega
        have hatB := atB_pos (q := q) (a := m) (b := k) hj
        have hatS : atS q m k j = (q ((m : Int), (k : Int)))[j] := by unfold atS; rw [hatB, if_pos rfl, Int.toNat_natCast]; simp [List.getD, hj]
        refine s_skip ?_
        refine s_seq ?_
        refine s_region ?_
        refine o_q (q_mv ((by first | exact v_raw rfl | exact v_sptr rfl))) rfl rfl rfl ?_
        refine o_q (q_nil rfl) rfl rfl rfl ?_
        refine o_q (q_fr fo54_1 rfl) rfl rfl rfl ?_
        refine o_q (q_ldm ag52 sz52 rfl (by repeat first | exact Mem.upd_self _ _ _ | assumption | refine Mem.upd_ne (by assumption) ?_) rfl ((by first | exact v_raw rfl | exact v_sl rfl))) rfl rfl rfl ?_
        refine o_q (q_mv (v_raw rfl)) rfl rfl rfl ?_
        refine o_q (q_idxr und52 sz40 rfl rfl (by omega) (by omega)) rfl rfl rfl ?_
        refine o_q (q_ldm ag40 sz40 rfl (by repeat first | exact Mem.upd_self _ _ _ | assumption | refine Mem.upd_ne (by assumption) ?_) (lk_piece hat hm hk hbd) (v_sl rfl)) rfl rfl rfl ?_
        refine o_q (q_mv (v_raw rfl)) rfl rfl rfl ?_
        refine o_q (q_idx und40 sz9 rfl rfl (by omega) (gm j (by first | omega | simp)) rfl) rfl rfl rfl ?_
        refine o_q (q_ld ag9 sz9 rfl (gm j (by first | omega | simp)) rfl (v_raw rfl)) rfl rfl rfl ?_
        refine o_q (q_as (v_raw rfl)) rfl rfl rfl ?_
        refine o_nil ?_
        refine s_seq ?_
        refine s_region ?_
        refine o_q (q_as_const rfl) rfl rfl rfl ?_
        refine o_nil ?_
        refine s_seq ?_
        refine s_region ?_
        refine o_qs (q_mv_own rfl) rfl rfl rfl rfl ?_
        refine o_q (q_mv ((by first | exact v_raw rfl | exact v_sptr rfl))) rfl rfl rfl ?_
        refine o_q (q_nil rfl) rfl rfl rfl ?_
        refine o_q (q_fr fo54_1 rfl) rfl rfl rfl ?_
        refine o_q (q_ldm ag52 sz52 rfl (by repeat first | exact Mem.upd_self _ _ _ | assumption | refine Mem.upd_ne (by assumption) ?_) rfl ((by first | exact v_raw rfl | exact v_sl rfl))) rfl rfl rfl ?_
        refine o_q (q_mv (v_raw rfl)) rfl rfl rfl ?_
        refine o_q (q_idxr und52 sz40 rfl rfl (by omega) (by omega)) rfl rfl rfl ?_
        refine o_q (q_ldm ag40 sz40 rfl (by repeat first | exact Mem.upd_self _ _ _ | assumption | refine Mem.upd_ne (by assumption) ?_) (lk_piece hat hm hk hbd) (v_sl rfl)) rfl rfl rfl ?_
        refine o_q (q_mv (v_raw rfl)) rfl rfl rfl ?_
        refine o_q (q_slice und40 sz9 rfl (by first | exact elsS _ | exact elsD _ _ (elsT _ _ (elsS _)) | exact Els.nil) ab_none (ab rfl rfl) (by first | omega | (simp; omega)) (by first | omega | (simp; omega))) rfl rfl rfl ?_
        refine o_qs (q_app slt40 rfl rfl rfl rfl (by first | exact elsS _ | exact elsD _ _ (elsT _ _ (elsS _)) | exact Els.nil) (by first | exact (by first | exact elsS _ | exact elsD _ _ (elsT _ _ (elsS _)) | exact Els.nil) | exact Els.cons rfl rfl Els.nil) (by simp; omega)) rfl rfl rfl rfl ?_
        refine o_qs (q_as_own rfl) rfl rfl rfl rfl ?_
        refine o_nil ?_
        refine s_seq ?_
        refine s_draw rfl ?_
        refine d_q rfl (q_mv ((by first | exact v_raw rfl | exact v_sptr rfl))) rfl rfl rfl ?_
        refine d_q rfl (q_nil rfl) rfl rfl rfl ?_
        refine d_q rfl (q_fr fo54_1 rfl) rfl rfl rfl ?_
        refine d_q rfl (q_ldm ag52 sz52 rfl (by repeat first | exact Mem.upd_self _ _ _ | assumption | refine Mem.upd_ne (by assumption) ?_) rfl ((by first | exact v_raw rfl | exact v_sl rfl))) rfl rfl rfl ?_
        refine d_q rfl (q_mv (v_raw rfl)) rfl rfl rfl ?_
        refine d_qs rfl (q_mv_own rfl) rfl rfl rfl rfl ?_
        refine d_q rfl (q_mv ((by first | exact v_raw rfl | exact v_sptr rfl))) rfl rfl rfl ?_
        refine d_q rfl (q_nil rfl) rfl rfl rfl ?_
        refine d_q rfl (q_fr fo54_1 rfl) rfl rfl rfl ?_
        refine d_q rfl (q_ldm ag52 sz52 rfl (by repeat first | exact Mem.upd_self _ _ _ | assumption | refine Mem.upd_ne (by assumption) ?_) rfl ((by first | exact v_raw rfl | exact v_sl rfl))) rfl rfl rfl ?_
        refine d_q rfl (q_mv (v_raw rfl)) rfl rfl rfl ?_
        refine d_q rfl (q_idxr und52 sz40 rfl rfl (by omega) (by omega)) rfl rfl rfl ?_
        refine d_q rfl (q_ldm ag40 sz40 rfl (by repeat first | exact Mem.upd_self _ _ _ | assumption | refine Mem.upd_ne (by assumption) ?_) (lk_piece hat hm hk hbd) (v_sl rfl)) rfl rfl rfl ?_
        refine d_q rfl (q_mv (v_raw rfl)) rfl rfl rfl ?_
        refine d_q rfl (q_add rfl rfl (wrap64 (by omega) (by omega))) rfl rfl rfl ?_
        refine d_q rfl (q_slice und40 sz9 rfl (by first | exact elsS _ | exact elsD _ _ (elsT _ _ (elsS _)) | exact Els.nil) (ab rfl rfl) ab_none (by first | omega | (simp; omega)) (by first | omega | (simp; omega))) rfl rfl rfl ?_
        refine d_qs rfl (q_app slt40 rfl rfl rfl rfl (by first | exact elsS _ | exact elsD _ _ (elsT _ _ (elsS _)) | exact Els.nil) (by first | exact (by first | exact elsS _ | exact elsD _ _ (elsT _ _ (elsS _)) | exact Els.nil) | exact Els.cons rfl rfl Els.nil) (by simp; omega)) rfl rfl rfl rfl ?_
        refine d_q rfl (q_idxr und52 sz40 rfl rfl (by omega) (by omega)) rfl rfl rfl ?_
        refine d_s rfl ?_
        refine o_store_own rfl (by repeat first | exact Mem.upd_self _ _ _ | assumption | refine Mem.upd_ne (by assumption) ?_) rfl sz40 (by rw [lk_len, off_R hat]; omega) ?_
        refine o_nil ⟨(by simp [Mem.upd, *]), ?_⟩
        refine d_nil ?_
        refine s_seq ?_
        refine s_region ?_
        refine o_q (q_mv (v_raw rfl)) rfl rfl rfl ?_
        refine o_q (q_as (v_raw rfl)) rfl rfl rfl ?_
        refine o_q (q_as (v_raw rfl)) rfl rfl rfl ?_
        refine o_nil ?_
        refine s_ret ?_
        refine s_end ?_
        have hq' : atQ q m k j true = setQ q ((m : Int), (k : Int)) ((q ((m : Int), (k : Int))).eraseIdx j) := by unfold atQ; rw [hatB]; rfl
        refine ⟨by rw [hatS, hatB]; rfl, ?_⟩
        rw [hq', ← set1 (j := j) hat hm hk hbd (er2 rfl rfl)]
    · have k2 := h2; try simp only [decide_eq_true_eq, decide_eq_false_iff_not, Bool.not_eq_true', Bool.not_eq_false', Bool.not_true, Bool.not_false, List.length_map, Decidable.not_not] at k2
      have hno : atB q m k i = false := decide_eq_false (by omega)
      refine o_no rfl rfl rfl rfl h2 ?_
      refine o_no rfl rfl rfl rfl h2 ?_
      refine o_no rfl rfl rfl rfl h2 ?_
      refine o_no rfl rfl rfl rfl h2 ?_
      refine o_no rfl rfl rfl rfl h2 ?_
      refine o_no rfl rfl rfl rfl h2 ?_
      refine o_no rfl rfl rfl rfl h2 ?_
      refine o_no rfl rfl rfl rfl h2 ?_
      refine o_no rfl rfl rfl rfl h2 ?_
      refine o_no rfl rfl rfl rfl h2 ?_
      refine o_q (q_pick_c (t := true) rfl h2 (v_raw rfl)) rfl rfl rfl ?_
      refine o_nil ?_
      refine s_then rfl rfl ?_
      refine s_seq ?_
      refine s_region ?_
      refine o_q (q_as (v_raw rfl)) rfl rfl rfl ?_
      refine o_q (q_as (v_raw rfl)) rfl rfl rfl ?_
      refine o_nil ?_
      refine s_ret ?_
      refine s_code_ret ?_
      refine s_end ?_
      refine ⟨by unfold atS; rw [hno]; rfl, ?_⟩
      unfold atQ
      rw [hno]
      exact (Mem.upd_same hL).symm
  · have k1 := h1; try simp only [decide_eq_true_eq, decide_eq_false_iff_not, Bool.not_eq_true', Bool.not_eq_false', Bool.not_true, Bool.not_false, List.length_map, Decidable.not_not] at k1
    have hno : atB q a b i = false := ref_no hz (atR_neg k1)
    refine o_no rfl rfl rfl rfl h1 ?_
    refine o_no rfl rfl rfl rfl h1 ?_
    refine o_q (q_pick_c (t := true) rfl h1 (v_raw rfl)) rfl rfl rfl ?_
    refine o_q (q_mv (v_raw rfl)) rfl rfl rfl ?_
    refine o_no rfl rfl rfl rfl rfl ?_
    refine o_no rfl rfl rfl rfl rfl ?_
    refine o_no rfl rfl rfl rfl rfl ?_
    refine o_no rfl rfl rfl rfl rfl ?_
    refine o_no rfl rfl rfl rfl rfl ?_
    refine o_no rfl rfl rfl rfl rfl ?_
    refine o_no rfl rfl rfl rfl rfl ?_
    refine o_no rfl rfl rfl rfl rfl ?_
    refine o_no rfl rfl rfl rfl rfl ?_
    refine o_no rfl rfl rfl rfl rfl ?_
    refine o_q (q_pick_c (t := true) rfl rfl (v_raw rfl)) rfl rfl rfl ?_
    refine o_nil ?_
    refine s_then rfl rfl ?_
    refine s_seq ?_
    refine s_region ?_
    refine o_q (q_as (v_raw rfl)) rfl rfl rfl ?_
    refine o_q (q_as (v_raw rfl)) rfl rfl rfl ?_
    refine o_nil ?_
    refine s_ret ?_
    refine s_code_ret ?_
    refine s_end ?_
    refine ⟨by unfold atS; rw [hno]; rfl, ?_⟩
    unfold atQ
    rw [hno]
    exact (Mem.upd_same hL).symm

def tk21 : Nat → Nat → Option Nat := fun _ _ => none
def pl21 : Nat → List PStep := fun _ => []
theorem cb21 : Try.f21.body.map (codeB Try.prog Try.f21.ntmps tk21 pl21) = some true := by kernel_rfl
theorem goes21 : goesB Try.prog 21 = true := by kernel_rfl
-- (*carillon/carillonref05.Net).Take params ['*carillonref05.Net', 'int', 'int', 'int'] results [['t', 8], ['t', 9]] own [] names ['0:x', '1:a', '2:b', '3:i', '4:x', '5:a', '6:b', '7:i', '10:joined'] calls [26, 31] paths 2
set_option maxHeartbeats 4000000 in
set_option maxRecDepth 20000 in
theorem snd21 (y L N side : Nat) (q : K2 → List ByteArray) (M : Mem) (hR : RefAt M y L N side q) (a b i : Int) : SoundCall Try.prog 21 [ptr y, int a, int b, int i] M fun r' M' => r' = .tup [str (if joined N side a b then atS q a b i else "".toUTF8), bool (joined N side a b && atB q a b i)] ∧ M' = M.upd L (.cells (lk N (if joined N side a b then atQ q a b i true else q))) := by
  obtain ⟨hy, hL, yL, ⟨n1, n7⟩, hz, hql, hs63⟩ := id hR
  have Ly := yL.symm
  refine SoundCall.go tk21 pl21 mixed Try.func21 cb21 rfl (Nat.le_of_ble_eq_true rfl) ?_
  refine s_seq ?_
  refine s_region ?_
  refine o_q (q_as (v_raw rfl)) rfl rfl rfl ?_
  refine o_q (q_as (v_raw rfl)) rfl rfl rfl ?_
  refine o_nil ?_
  refine s_seq ?_
  refine s_region ?_
  refine o_q (q_mv ((by first | exact v_raw rfl | exact v_sptr rfl))) rfl rfl rfl ?_
  refine o_q (q_mv (v_raw rfl)) rfl rfl rfl ?_
  refine o_q (q_mv (v_raw rfl)) rfl rfl rfl ?_
  refine o_call ((snd26 y L N side q _ hR a b)) goes26 (ac ((by first | exact v_raw rfl | exact v_sptr rfl)) (ac (v_raw rfl) (ac (v_raw rfl) ac_nil))) rfl ?_
  refine o_q (q_as (v_raw rfl)) rfl rfl rfl ?_
  refine o_nil ?_
  refine s_seq ?_
  refine s_seq ?_
  refine s_region ?_
  refine o_q (q_mv (v_raw rfl)) rfl rfl rfl ?_
  refine o_q (q_not rfl) rfl rfl rfl ?_
  refine o_nil ?_
  refine s_cond rfl (fun h1 => ?_) (fun h1 => ?_)
  · have k1 := h1; try simp only [decide_eq_true_eq, decide_eq_false_iff_not, Bool.not_eq_true', Bool.not_eq_false', Bool.not_true, Bool.not_false, List.length_map, Decidable.not_not] at k1
    have hj : joined N side a b = false := by simpa using h1
    refine s_seq ?_
    refine s_region ?_
    refine o_q (q_as (v_raw rfl)) rfl rfl rfl ?_
    refine o_q (q_as (v_raw rfl)) rfl rfl rfl ?_
    refine o_nil ?_
    refine s_ret ?_
    refine s_code_ret ?_
    refine s_end ?_
    first
    | exact ⟨by rw [hj]; rfl, by rw [hj]; exact (Mem.upd_same hL).symm⟩
    | exact ⟨by rw [hj]; rfl, by rw [hj]; rfl⟩
  · have k1 := h1; try simp only [decide_eq_true_eq, decide_eq_false_iff_not, Bool.not_eq_true', Bool.not_eq_false', Bool.not_true, Bool.not_false, List.length_map, Decidable.not_not] at k1
    have hj : joined N side a b = true := by simpa using h1
    refine s_skip ?_
    refine s_seq ?_
    refine s_region ?_
    refine o_q (q_mv ((by first | exact v_raw rfl | exact v_sptr rfl))) rfl rfl rfl ?_
    refine o_q (q_mv (v_raw rfl)) rfl rfl rfl ?_
    refine o_q (q_mv (v_raw rfl)) rfl rfl rfl ?_
    refine o_q (q_mv (v_raw rfl)) rfl rfl rfl ?_
    refine o_callx ((snd31 y L N side q _ hR a b i)) goes31 (ac ((by first | exact v_raw rfl | exact v_sptr rfl)) (ac (v_raw rfl) (ac (v_raw rfl) (ac (v_raw rfl) ac_nil)))) rfl ?_
    rintro r' M' ⟨rfl, rfl⟩
    refine o_q (q_ext rfl rfl (v_raw rfl)) rfl rfl rfl ?_
    refine o_q (q_ext rfl rfl (v_raw rfl)) rfl rfl rfl ?_
    refine o_q (q_as (v_raw rfl)) rfl rfl rfl ?_
    refine o_q (q_as (v_raw rfl)) rfl rfl rfl ?_
    refine o_nil ?_
    refine s_ret ?_
    refine s_end ?_
    first
    | exact ⟨by rw [hj]; rfl, by rw [hj]; exact (Mem.upd_same hL).symm⟩
    | exact ⟨by rw [hj]; rfl, by rw [hj]; rfl⟩

def tk22 : Nat → Nat → Option Nat := fun _ _ => none
def pl22 : Nat → List PStep := fun _ => []
theorem cb22 : Try.f22.body.map (codeB Try.prog Try.f22.ntmps tk22 pl22) = some true := by kernel_rfl
theorem goes22 : goesB Try.prog 22 = true := by kernel_rfl
-- (*carillon/carillonref05.Net).Drop params ['*carillonref05.Net', 'int', 'int', 'int'] results [['t', 8]] own [] names ['0:x', '1:a', '2:b', '3:i', '4:x', '5:a', '6:b', '7:i', '9:_', '10:ok'] calls [31] paths 1
set_option maxHeartbeats 4000000 in
set_option maxRecDepth 20000 in
theorem snd22 (y L N side : Nat) (q : K2 → List ByteArray) (M : Mem) (hR : RefAt M y L N side q) (a b i : Int) : SoundCall Try.prog 22 [ptr y, int a, int b, int i] M fun r' M' => r' = bool (atB q a b i) ∧ M' = M.upd L (.cells (lk N (atQ q a b i true))) := by
  obtain ⟨hy, hL, yL, ⟨n1, n7⟩, hz, hql, hs63⟩ := id hR
  have Ly := yL.symm
  refine SoundCall.go tk22 pl22 mixed Try.func22 cb22 rfl (Nat.le_of_ble_eq_true rfl) ?_
  refine s_seq ?_
  refine s_region ?_
  refine o_q (q_as (v_raw rfl)) rfl rfl rfl ?_
  refine o_nil ?_
  refine s_seq ?_
  refine s_region ?_
  refine o_q (q_mv ((by first | exact v_raw rfl | exact v_sptr rfl))) rfl rfl rfl ?_
  refine o_q (q_mv (v_raw rfl)) rfl rfl rfl ?_
  refine o_q (q_mv (v_raw rfl)) rfl rfl rfl ?_
  refine o_q (q_mv (v_raw rfl)) rfl rfl rfl ?_
  refine o_callx ((snd31 y L N side q _ hR a b i)) goes31 (ac ((by first | exact v_raw rfl | exact v_sptr rfl)) (ac (v_raw rfl) (ac (v_raw rfl) (ac (v_raw rfl) ac_nil)))) rfl ?_
  rintro r' M' ⟨rfl, rfl⟩
  refine o_q (q_mv (v_tup rfl)) rfl rfl rfl ?_
  refine o_q (q_ext rfl rfl (v_raw rfl)) rfl rfl rfl ?_
  refine o_q (q_ext rfl rfl (v_raw rfl)) rfl rfl rfl ?_
  refine o_q (q_as (v_raw rfl)) rfl rfl rfl ?_
  refine o_q (q_as (v_raw rfl)) rfl rfl rfl ?_
  refine o_nil ?_
  refine s_seq ?_
  refine s_region ?_
  refine o_q (q_mv (v_raw rfl)) rfl rfl rfl ?_
  refine o_q (q_as (v_raw rfl)) rfl rfl rfl ?_
  refine o_nil ?_
  refine s_ret ?_
  refine s_end ?_
  exact ⟨rfl, rfl⟩

def tk23 : Nat → Nat → Option Nat := fun _ _ => none
def pl23 : Nat → List PStep := fun _ => []
theorem cb23 : Try.f23.body.map (codeB Try.prog Try.f23.ntmps tk23 pl23) = some true := by kernel_rfl
theorem goes23 : goesB Try.prog 23 = true := by kernel_rfl
-- (*carillon/carillonref05.Net).Double params ['*carillonref05.Net', 'int', 'int', 'int'] results [['t', 8]] own [] names ['0:x', '1:a', '2:b', '3:i', '4:x', '5:a', '6:b', '7:i', '9:k'] calls [20, 30] paths 4
set_option maxHeartbeats 4000000 in
set_option maxRecDepth 20000 in
theorem snd23 (y L N side : Nat) (q : K2 → List ByteArray) (M : Mem) (hR : RefAt M y L N side q) (a b i : Int) : SoundCall Try.prog 23 [ptr y, int a, int b, int i] M fun r' M' => r' = bool (atB q a b i && okS N q a b) ∧ M' = M.upd L (.cells (lk N (if atB q a b i then sendQ N q a b (atS q a b i) else q))) := by
  obtain ⟨hy, hL, yL, ⟨n1, n7⟩, hz, hql, hs63⟩ := id hR
  have Ly := yL.symm
  refine SoundCall.go tk23 pl23 mixed Try.func23 cb23 rfl (Nat.le_of_ble_eq_true rfl) ?_
  refine s_seq ?_
  refine s_region ?_
  refine o_q (q_as (v_raw rfl)) rfl rfl rfl ?_
  refine o_nil ?_
  refine s_seq ?_
  refine s_region ?_
  refine o_q (q_mv ((by first | exact v_raw rfl | exact v_sptr rfl))) rfl rfl rfl ?_
  refine o_q (q_mv (v_raw rfl)) rfl rfl rfl ?_
  refine o_q (q_mv (v_raw rfl)) rfl rfl rfl ?_
  refine o_call ((snd30 y L N side q _ hR a b)) goes30 (ac ((by first | exact v_raw rfl | exact v_sptr rfl)) (ac (v_raw rfl) (ac (v_raw rfl) ac_nil))) rfl ?_
  refine o_q (q_as (v_raw rfl)) rfl rfl rfl ?_
  refine o_nil ?_
  refine s_seq ?_
  refine s_seq ?_
  refine s_region ?_
  refine o_q (q_mv (v_raw rfl)) rfl rfl rfl ?_
  refine o_q (q_lss rfl rfl) rfl rfl rfl ?_
  refine o_q (q_mv (v_raw rfl)) rfl rfl rfl ?_
  refine o_cases (want := false) (j := 2) rfl rfl (fun h1 => ?_) (fun h1 => ?_)
  · have k1 := h1; try simp only [decide_eq_true_eq, decide_eq_false_iff_not, Bool.not_eq_true', Bool.not_eq_false', Bool.not_true, Bool.not_false, List.length_map, Decidable.not_not] at k1
    obtain ⟨hok, m, k, rfl, rfl, hm, hk, hne, hat, hbd⟩ := atR_pos k1
    have hql0 := hql ((m : Int), (k : Int))
    refine o_yes rfl rfl rfl h1 ?_
    refine o_q (q_mv (v_raw rfl)) rfl rfl rfl ?_
    refine o_yes rfl rfl rfl h1 ?_
    refine o_q (q_lss rfl rfl) rfl rfl rfl ?_
    refine o_q (q_pick_c (t := false) rfl h1 (v_raw rfl)) rfl rfl rfl ?_
    refine o_q (q_mv (v_raw rfl)) rfl rfl rfl ?_
    refine o_cases (want := false) (j := 6) rfl rfl (fun h2 => ?_) (fun h2 => ?_)
    · have k2 := h2; try simp only [decide_eq_true_eq, decide_eq_false_iff_not, Bool.not_eq_true', Bool.not_eq_false', Bool.not_true, Bool.not_false, List.length_map, Decidable.not_not] at k2
      refine o_yes rfl rfl rfl h2 ?_
      refine o_q (q_mv (v_raw rfl)) rfl rfl rfl ?_
      refine o_yes rfl rfl rfl h2 ?_
      refine o_q (q_mv ((by first | exact v_raw rfl | exact v_sptr rfl))) rfl rfl rfl ?_
      refine o_yes rfl rfl rfl h2 ?_
      refine o_q (q_nil rfl) rfl rfl rfl ?_
      refine o_yes rfl rfl rfl h2 ?_
      refine o_q (q_fr fo54_1 rfl) rfl rfl rfl ?_
      refine o_yes rfl rfl rfl h2 ?_
      refine o_q (q_ldm ag52 sz52 rfl (by repeat first | exact Mem.upd_self _ _ _ | assumption | refine Mem.upd_ne (by assumption) ?_) rfl ((by first | exact v_raw rfl | exact v_sl rfl))) rfl rfl rfl ?_
      refine o_yes rfl rfl rfl h2 ?_
      refine o_q (q_mv (v_raw rfl)) rfl rfl rfl ?_
      refine o_yes rfl rfl rfl h2 ?_
      refine o_q (q_idxr und52 sz40 rfl rfl (by omega) (by omega)) rfl rfl rfl ?_
      refine o_yes rfl rfl rfl h2 ?_
      refine o_q (q_ldm ag40 sz40 rfl (by repeat first | exact Mem.upd_self _ _ _ | assumption | refine Mem.upd_ne (by assumption) ?_) (lk_piece hat hm hk hbd) (v_sl rfl)) rfl rfl rfl ?_
      refine o_yes rfl rfl rfl h2 ?_
      refine o_q (q_len rfl und40 rfl) rfl rfl rfl ?_
      refine o_yes rfl rfl rfl h2 ?_
      refine o_q (q_geq rfl rfl) rfl rfl rfl ?_
      refine o_q (q_pick_c (t := false) rfl h2 (v_raw rfl)) rfl rfl rfl ?_
      refine o_nil ?_
      refine s_cond rfl (fun h3 => ?_) (fun h3 => ?_)
      · have k3 := h3; try simp only [decide_eq_true_eq, decide_eq_false_iff_not, Bool.not_eq_true', Bool.not_eq_false', Bool.not_true, Bool.not_false, List.length_map, Decidable.not_not] at k3
        have hno : atB q m k i = false := decide_eq_false (by omega)
        refine s_seq ?_
        refine s_region ?_
        refine o_q (q_as (v_raw rfl)) rfl rfl rfl ?_
        refine o_nil ?_
        refine s_ret ?_
        refine s_code_ret ?_
        refine s_end ?_
        exact ⟨by rw [hno]; rfl, by rw [hno]; exact (Mem.upd_same hL).symm⟩
      · have k3 := h3; try simp only [decide_eq_true_eq, decide_eq_false_iff_not, Bool.not_eq_true', Bool.not_eq_false', Bool.not_true, Bool.not_false, List.length_map, Decidable.not_not] at k3
        obtain ⟨j, rfl⟩ : ∃ j : Nat, i = j := Int.eq_ofNat_of_zero_le (by omega)
        have hj : j < (q ((m : Int), (k : Int))).length := by omega
        have hatB := atB_pos (q := q) (a := m) (b := k) hj
        have hatS : atS q m k j = (q ((m : Int), (k : Int)))[j] := by unfold atS; rw [hatB, if_pos rfl, Int.toNat_natCast]; simp [List.getD, hj]
        refine s_skip ?_
        refine s_seq ?_
        refine s_region ?_
        refine o_q (q_mv ((by first | exact v_raw rfl | exact v_sptr rfl))) rfl rfl rfl ?_
        refine o_q (q_mv (v_raw rfl)) rfl rfl rfl ?_
        refine o_q (q_mv (v_raw rfl)) rfl rfl rfl ?_
        refine o_q (q_mv ((by first | exact v_raw rfl | exact v_sptr rfl))) rfl rfl rfl ?_
        refine o_q (q_nil rfl) rfl rfl rfl ?_
        refine o_q (q_fr fo54_1 rfl) rfl rfl rfl ?_
        refine o_q (q_ldm ag52 sz52 rfl (by repeat first | exact Mem.upd_self _ _ _ | assumption | refine Mem.upd_ne (by assumption) ?_) rfl ((by first | exact v_raw rfl | exact v_sl rfl))) rfl rfl rfl ?_
        refine o_q (q_mv (v_raw rfl)) rfl rfl rfl ?_
        refine o_q (q_idxr und52 sz40 rfl rfl (by omega) (by omega)) rfl rfl rfl ?_
        refine o_q (q_ldm ag40 sz40 rfl (by repeat first | exact Mem.upd_self _ _ _ | assumption | refine Mem.upd_ne (by assumption) ?_) (lk_piece hat hm hk hbd) (v_sl rfl)) rfl rfl rfl ?_
        refine o_q (q_mv (v_raw rfl)) rfl rfl rfl ?_
        refine o_q (q_idx und40 sz9 rfl rfl (by omega) (gm j (by first | omega | simp)) rfl) rfl rfl rfl ?_
        refine o_q (q_ld ag9 sz9 rfl (gm j (by first | omega | simp)) rfl (v_raw rfl)) rfl rfl rfl ?_
        refine o_callx ((snd20 y L N side q _ hR m k (q ((m : Int), (k : Int)))[j])) goes20 (ac ((by first | exact v_raw rfl | exact v_sptr rfl)) (ac (v_raw rfl) (ac (v_raw rfl) (ac (v_raw rfl) ac_nil)))) rfl ?_
        rintro r' M' ⟨rfl, rfl⟩
        refine o_q (q_as (v_raw rfl)) rfl rfl rfl ?_
        refine o_nil ?_
        refine s_ret ?_
        refine s_end ?_
        exact ⟨by rw [hatB]; rfl, by rw [hatB, if_pos rfl, hatS]⟩
    · have k2 := h2; try simp only [decide_eq_true_eq, decide_eq_false_iff_not, Bool.not_eq_true', Bool.not_eq_false', Bool.not_true, Bool.not_false, List.length_map, Decidable.not_not] at k2
      have hno : atB q m k i = false := decide_eq_false (by omega)
      refine o_no rfl rfl rfl rfl h2 ?_
      refine o_no rfl rfl rfl rfl h2 ?_
      refine o_no rfl rfl rfl rfl h2 ?_
      refine o_no rfl rfl rfl rfl h2 ?_
      refine o_no rfl rfl rfl rfl h2 ?_
      refine o_no rfl rfl rfl rfl h2 ?_
      refine o_no rfl rfl rfl rfl h2 ?_
      refine o_no rfl rfl rfl rfl h2 ?_
      refine o_no rfl rfl rfl rfl h2 ?_
      refine o_no rfl rfl rfl rfl h2 ?_
      refine o_q (q_pick_c (t := true) rfl h2 (v_raw rfl)) rfl rfl rfl ?_
      refine o_nil ?_
      refine s_then rfl rfl ?_
      refine s_seq ?_
      refine s_region ?_
      refine o_q (q_as (v_raw rfl)) rfl rfl rfl ?_
      refine o_nil ?_
      refine s_ret ?_
      refine s_code_ret ?_
      refine s_end ?_
      exact ⟨by rw [hno]; rfl, by rw [hno]; exact (Mem.upd_same hL).symm⟩
  · have k1 := h1; try simp only [decide_eq_true_eq, decide_eq_false_iff_not, Bool.not_eq_true', Bool.not_eq_false', Bool.not_true, Bool.not_false, List.length_map, Decidable.not_not] at k1
    have hno : atB q a b i = false := ref_no hz (atR_neg k1)
    refine o_no rfl rfl rfl rfl h1 ?_
    refine o_no rfl rfl rfl rfl h1 ?_
    refine o_q (q_pick_c (t := true) rfl h1 (v_raw rfl)) rfl rfl rfl ?_
    refine o_q (q_mv (v_raw rfl)) rfl rfl rfl ?_
    refine o_no rfl rfl rfl rfl rfl ?_
    refine o_no rfl rfl rfl rfl rfl ?_
    refine o_no rfl rfl rfl rfl rfl ?_
    refine o_no rfl rfl rfl rfl rfl ?_
    refine o_no rfl rfl rfl rfl rfl ?_
    refine o_no rfl rfl rfl rfl rfl ?_
    refine o_no rfl rfl rfl rfl rfl ?_
    refine o_no rfl rfl rfl rfl rfl ?_
    refine o_no rfl rfl rfl rfl rfl ?_
    refine o_no rfl rfl rfl rfl rfl ?_
    refine o_q (q_pick_c (t := true) rfl rfl (v_raw rfl)) rfl rfl rfl ?_
    refine o_nil ?_
    refine s_then rfl rfl ?_
    refine s_seq ?_
    refine s_region ?_
    refine o_q (q_as (v_raw rfl)) rfl rfl rfl ?_
    refine o_nil ?_
    refine s_ret ?_
    refine s_code_ret ?_
    refine s_end ?_
    exact ⟨by rw [hno]; rfl, by rw [hno]; exact (Mem.upd_same hL).symm⟩

def tk24 : Nat → Nat → Option Nat := fun _ _ => none
def pl24 : Nat → List PStep := fun _ => []
theorem cb24 : Try.f24.body.map (codeB Try.prog Try.f24.ntmps tk24 pl24) = some true := by kernel_rfl
theorem goes24 : goesB Try.prog 24 = true := by kernel_rfl
-- (*carillon/carillonref05.Net).Cut params ['*carillonref05.Net', 'int'] results [] own [] names ['0:x', '1:side', '2:x', '3:side'] calls [] paths 1
set_option maxHeartbeats 4000000 in
set_option maxRecDepth 20000 in
theorem snd24 (y L N side : Nat) (q : K2 → List ByteArray) (M : Mem) (hR : RefAt M y L N side q) (s : Int) : SoundCall Try.prog 24 [ptr y, int s] M fun _ M' => M' = M.upd y (.cells [int (N : Int), rsl L (N * N) (N * N), int (s.toNat : Int)]) := by
  obtain ⟨hy, hL, yL, ⟨n1, n7⟩, hz, hql, hs63⟩ := id hR
  have Ly := yL.symm
  refine SoundCall.go tk24 pl24 mixed Try.func24 cb24 rfl (Nat.le_of_ble_eq_true rfl) ?_
  refine s_region ?_
  refine o_q (q_mv ((by first | exact v_raw rfl | exact v_sptr rfl))) rfl rfl rfl ?_
  refine o_q (q_mv (v_raw rfl)) rfl rfl rfl ?_
  refine o_q (q_max rfl rfl) rfl rfl rfl ?_
  refine o_q (q_nil rfl) rfl rfl rfl ?_
  refine o_q (q_fr fo54_2 rfl) rfl rfl rfl ?_
  refine o_store rfl (by repeat first | exact Mem.upd_self _ _ _ | assumption | refine Mem.upd_ne (by assumption) ?_) (by first | exact e_raw rfl | exact e_agg rfl | exact e_sl rfl | rfl) rfl sz3 rfl (Nat.le_of_ble_eq_true rfl) rfl rfl ?_
  refine o_nil ?_
  refine s_end ?_
  show M.upd y (.cells [int (N : Int), rsl L (N * N) (N * N), int (max s 0)]) = _
  rw [show max s 0 = ((s.toNat : Nat) : Int) by omega]

def tk18 : Nat → Nat → Option Nat := fun _ _ => none
def pl18 : Nat → List PStep := fun _ => []
theorem cb18 : Try.f18.body.map (codeB Try.prog Try.f18.ntmps tk18 pl18) = some true := by kernel_rfl
theorem goes18 : goesB Try.prog 18 = true := by kernel_rfl
-- carillon/carillonref05.New params ['int'] results [['t', 2]] own [] names ['0:n', '1:n'] calls [] paths 3

theorem lk_new {N : Nat} : (List.replicate (N * N) [AVal.sl [] true]).flatten = lk N (fun _ => []) := by
  unfold lk
  simp only [List.map_nil]
  generalize N * N = n
  induction n with
  | zero => rfl
  | succ n ih => rw [List.range_succ, List.map_append, ← ih, List.replicate_succ']; simp
set_option maxHeartbeats 4000000 in
set_option maxRecDepth 20000 in
theorem snd18 (n : Int) (M : Mem) : SoundCall Try.prog 18 [int n] M fun r' M' => (¬ (1 ≤ n ∧ n ≤ 7) ∧ r' = .raw (.pointer none) ∧ M' = M) ∨ ∃ N : Nat, n = N ∧ ∃ y L, r' = ptr y ∧ RefAt M' y L N 0 (fun _ => []) ∧ M.le M' ∧ M y = none ∧ M L = none := by
  refine SoundCall.go tk18 pl18 mixed Try.func18 cb18 rfl (Nat.le_of_ble_eq_true rfl) ?_
  refine s_seq ?_
  refine s_region ?_
  refine o_q (q_as ((by first | exact v_raw rfl | exact v_sptr rfl))) rfl rfl rfl ?_
  refine o_nil ?_
  refine s_seq ?_
  refine s_seq ?_
  refine s_region ?_
  refine o_q (q_mv (v_raw rfl)) rfl rfl rfl ?_
  refine o_q (q_lss rfl rfl) rfl rfl rfl ?_
  refine o_q (q_mv (v_raw rfl)) rfl rfl rfl ?_
  refine o_cases (want := false) (j := 2) rfl rfl (fun h1 => ?_) (fun h1 => ?_)
  · have k1 := h1; try simp only [decide_eq_true_eq, decide_eq_false_iff_not, Bool.not_eq_true', Bool.not_eq_false', Bool.not_true, Bool.not_false, List.length_map, Decidable.not_not] at k1
    refine o_yes rfl rfl rfl h1 ?_
    refine o_q (q_mv (v_raw rfl)) rfl rfl rfl ?_
    refine o_yes rfl rfl rfl h1 ?_
    refine o_q (q_gtr rfl rfl) rfl rfl rfl ?_
    refine o_q (q_pick_c (t := false) rfl h1 (v_raw rfl)) rfl rfl rfl ?_
    refine o_nil ?_
    refine s_cond rfl (fun h2 => ?_) (fun h2 => ?_)
    · have k2 := h2; try simp only [decide_eq_true_eq, decide_eq_false_iff_not, Bool.not_eq_true', Bool.not_eq_false', Bool.not_true, Bool.not_false, List.length_map, Decidable.not_not] at k2
      refine s_seq ?_
      refine s_region ?_
      refine o_q (q_as ((by first | exact v_raw rfl | exact v_sptr rfl))) rfl rfl rfl ?_
      refine o_nil ?_
      refine s_ret ?_
      refine s_code_ret ?_
      refine s_end ?_
      exact .inl ⟨by omega, rfl, rfl⟩
    · have k2 := h2; try simp only [decide_eq_true_eq, decide_eq_false_iff_not, Bool.not_eq_true', Bool.not_eq_false', Bool.not_true, Bool.not_false, List.length_map, Decidable.not_not] at k2
      obtain ⟨N, rfl⟩ : ∃ N : Nat, n = N := Int.eq_ofNat_of_zero_le (by omega)
      have hNN : N * N ≤ 7 * 7 := Nat.mul_le_mul (by omega) (by omega)
      have hN1 : 1 * 1 ≤ N * N := Nat.mul_le_mul (by omega) (by omega)
      refine s_skip ?_
      refine s_seq ?_
      refine s_region ?_
      refine o_q (q_mv (v_raw rfl)) rfl rfl rfl ?_
      refine o_q (q_mv (v_raw rfl)) rfl rfl rfl ?_
      refine o_q (q_mv (v_raw rfl)) rfl rfl rfl ?_
      refine o_q (q_mul rfl rfl (wrap64 (by omega) (by omega))) rfl rfl rfl ?_
      refine o_makeSlice und52 sz40 by40 zc40 rfl (by decide) rfl rfl (by omega) (by omega) (by omega) (by omega) (fun B1 hB1 => ?_)
      refine o_q (q_b (cs := [_, _, .raw (.int .i64 0)]) bz54 bp54 (bf fo54_0 (e_raw rfl) rfl rfl (Nat.le_of_ble_eq_true rfl) rfl (bf fo54_1 (e_raw rfl) rfl rfl (Nat.le_of_ble_eq_true rfl) rfl bf_nil))) rfl rfl rfl ?_
      refine o_box (by first | exact e_raw rfl | exact e_agg rfl | exact e_sl rfl) rfl rfl (fun B2 hB2 => ?_)
      refine o_q (q_as ((by first | exact v_raw rfl | exact v_sptr rfl))) rfl rfl rfl ?_
      refine o_nil ?_
      refine s_ret ?_
      refine s_end ?_
      have e : ((N : Int) * (N : Int)).toNat = N * N := by rw [← Int.natCast_mul, Int.toNat_natCast]
      have hne : B1 ≠ B2 := Mem.fresh_ne hB2 (Mem.upd_self _ _ _)
      refine .inr ⟨N, rfl, B2, B1, rfl, ⟨(Mem.upd_self _ _ _).trans (show some (AObj.cells [int N, rsl B1 ((N : Int) * (N : Int)).toNat ((N : Int) * (N : Int)).toNat, int 0]) = _ by rw [e]; rfl), (upd_other hne).trans ((Mem.upd_self _ _ _).trans (by rw [e, lk_new])), hne.symm, ⟨by omega, by omega⟩, fun _ _ _ => rfl, fun _ => by simp, by decide⟩, Mem.le_upd (Mem.le_upd (Mem.le_refl M) hB1) (Mem.upd_none hB2).2, (Mem.upd_none hB2).2, hB1⟩
  · have k1 := h1; try simp only [decide_eq_true_eq, decide_eq_false_iff_not, Bool.not_eq_true', Bool.not_eq_false', Bool.not_true, Bool.not_false, List.length_map, Decidable.not_not] at k1
    refine o_no rfl rfl rfl rfl h1 ?_
    refine o_no rfl rfl rfl rfl h1 ?_
    refine o_q (q_pick_c (t := true) rfl h1 (v_raw rfl)) rfl rfl rfl ?_
    refine o_nil ?_
    refine s_then rfl rfl ?_
    refine s_seq ?_
    refine s_region ?_
    refine o_q (q_as ((by first | exact v_raw rfl | exact v_sptr rfl))) rfl rfl rfl ?_
    refine o_nil ?_
    refine s_ret ?_
    refine s_code_ret ?_
    refine s_end ?_
    exact .inl ⟨by omega, rfl, rfl⟩

def tk25 : Nat → Nat → Option Nat := fun _ _ => none
def pl25 : Nat → List PStep := fun _ => []
theorem cb25 : Try.f25.body.map (codeB Try.prog Try.f25.ntmps tk25 pl25) = some true := by kernel_rfl
theorem goes25 : goesB Try.prog 25 = true := by kernel_rfl
-- (*carillon/carillonref05.Net).Clear params ['*carillonref05.Net', 'int'] results [] own [] names ['0:x', '1:node', '2:x', '3:node', '4:i', '5:a', '6:b'] calls [30] paths 5

theorem mk_mem {T T' : Nat → AVal} {M M' : Mem} (h : (⟨T, M⟩ : St) = ⟨T', M⟩) (hM : M = M') : (⟨T, M⟩ : St) = ⟨T', M'⟩ := by rw [← hM]; exact h
def cl (q : K2 → List ByteArray) (node : Int) (i : Nat) : K2 → List ByteArray := fun k => if (k.1 = node ∧ 0 ≤ k.2 ∧ k.2 < i) ∨ (k.2 = node ∧ 0 ≤ k.1 ∧ k.1 < i) then [] else q k
theorem cl_step {q c1 c2 : K2 → List ByteArray} {node : Int} {i : Nat} (h1 : c1 = setQ (cl q node i) (node, (i : Int)) [] ∨ (c1 = cl q node i ∧ q (node, (i : Int)) = [])) (h2 : c2 = setQ c1 ((i : Int), node) [] ∨ (c2 = c1 ∧ q ((i : Int), node) = [])) : cl q node (i + 1) = c2 := by
  funext k
  have e1 : c1 k = if k = (node, (i : Int)) then [] else cl q node i k := by
    rcases h1 with rfl | ⟨rfl, h⟩
    · rfl
    · by_cases hk : k = (node, (i : Int))
      · rw [if_pos hk, hk]; unfold cl; rw [h, ite_self]
      · rw [if_neg hk]
  have e2 : c2 k = if k = ((i : Int), node) then [] else c1 k := by
    rcases h2 with rfl | ⟨rfl, h⟩
    · rfl
    · by_cases hk : k = ((i : Int), node)
      · rw [if_pos hk, e1]
        rcases h1 with rfl | ⟨rfl, h'⟩
        · split
          · rfl
          · rw [hk]; unfold cl; rw [h, ite_self]
        · split
          · rfl
          · rw [hk]; unfold cl; rw [h, ite_self]
      · rw [if_neg hk]
  rw [e2, e1]
  unfold cl
  obtain ⟨a, b⟩ := k
  simp only [Prod.mk.injEq]
  by_cases h3 : a = (i : Int) ∧ b = node
  · rw [if_pos h3, if_pos (.inr ⟨h3.2, by omega, by omega⟩)]
  · rw [if_neg h3]
    by_cases h4 : a = node ∧ b = (i : Int)
    · rw [if_pos h4, if_pos (.inl ⟨h4.1, by omega, by omega⟩)]
    · rw [if_neg h4]
      by_cases h5 : (a = node ∧ 0 ≤ b ∧ b < (i : Int)) ∨ (b = node ∧ 0 ≤ a ∧ a < (i : Int))
      · rw [if_pos h5, if_pos (by omega)]
      · rw [if_neg h5, if_neg (by omega)]
theorem lk_congr {N : Nat} {q q' : K2 → List ByteArray} (h : ∀ a b : Nat, a < N → b < N → q ((a : Int), (b : Int)) = q' ((a : Int), (b : Int))) : lk N q = lk N q' := by
  unfold lk
  refine List.map_congr_left fun k hk => ?_
  have hk' : k < N * N := List.mem_range.1 hk
  have hN : 0 < N := by
    rcases Nat.eq_zero_or_pos N with e | e
    · subst e; simp at hk'
    · exact e
  rw [h (k / N) (k % N) (Nat.div_lt_of_lt_mul hk') (Nat.mod_lt _ hN)]
theorem cl_all {N : Nat} {q : K2 → List ByteArray} {node : Int} : lk N (cl q node N) = lk N (clearQ q node) := lk_congr fun a b ha hb => by
  unfold cl clearQ touch
  by_cases h : (a : Int) = node ∨ (b : Int) = node
  · rw [if_pos (by omega), if_pos (by simp; omega)]
  · rw [if_neg (by omega), if_neg (by simp; omega)]
theorem cl_none {q : K2 → List ByteArray} {node : Int} : cl q node 0 = q := by
  funext k; unfold cl; rw [if_neg (by omega)]
theorem lk_nil_set {N : Nat} {q : K2 → List ByteArray} {a b : Int} (h : ¬ atR N a b < 0) : (lk N q).set (0 + (atR N a b).toNat * 1) (.sl [] true) = lk N (setQ q (a, b) []) ∧ 0 + (atR N a b).toNat * 1 + 1 ≤ (lk N q).length ∧ 0 ≤ atR N a b ∧ atR N a b < ((N * N : Nat) : Int) := by
  obtain ⟨hok, m, k, rfl, rfl, hm, hk, hne, hat, hbd⟩ := atR_pos h
  refine ⟨?_, by rw [lk_len, off_R hat]; omega, by omega, by omega⟩
  rw [off_R hat]
  exact lk_set (ts := []) hm hk hbd
theorem RefAt.setq {M : Mem} {y L N side : Nat} {q q' : K2 → List ByteArray} (h : RefAt M y L N side q) (hz : ∀ a b, okR N a b = false → q' (a, b) = []) (hql : ∀ k, (q' k).length ≤ 64) : RefAt (M.upd L (.cells (lk N q'))) y L N side q' :=
  ⟨(upd_other h.yL).trans h.hy, Mem.upd_self _ _ _, h.yL, h.n7, hz, hql, h.s63⟩
theorem RefAt.cl {M : Mem} {y L N side : Nat} {q : K2 → List ByteArray} (h : RefAt M y L N side q) (node : Int) (i : Nat) : RefAt (M.upd L (.cells (lk N (cl q node i)))) y L N side (cl q node i) :=
  h.setq (fun a b hk => by unfold C05.cl; split; rfl; exact h.hz a b hk) (fun k => by unfold C05.cl; split; simp; exact h.ql k)
set_option maxHeartbeats 4000000 in
set_option maxRecDepth 20000 in
theorem snd25 (y L N side : Nat) (q : K2 → List ByteArray) (M : Mem) (hR : RefAt M y L N side q) (node : Int) : SoundCall Try.prog 25 [ptr y, int node] M fun _ M' => M' = M.upd L (.cells (lk N (clearQ q node))) := by
  obtain ⟨hy, hL, yL, ⟨n1, n7⟩, hz, hql, hs63⟩ := id hR
  have Ly := yL.symm
  have hNN : N * N ≤ 7 * 7 := Nat.mul_le_mul (by omega) (by omega)
  refine SoundCall.go tk25 pl25 mixed Try.func25 cb25 rfl (Nat.le_of_ble_eq_true rfl) ?_
  refine s_seq ?_
  refine s_region ?_
  refine o_q (q_as (v_raw rfl)) rfl rfl rfl ?_
  refine o_nil ?_
  refine s_block ?_
  refine s_loop (fun m S => ∃ T, ∃ i : Nat, S = ⟨setT (setT (setT T 0 (ptr y)) 1 (int node)) 4 (int (i : Nat)), M.upd L (.cells (lk N (cl q node i)))⟩ ∧ i ≤ N ∧ m = N - i) N ?_ ?_
  · exact ⟨_, 0, mk_mem (St.mkT (kp (kp (kp rfl rfl) rfl) rfl).symm) (show M = M.upd L (.cells (lk N (cl q node 0))) by rw [cl_none]; exact (Mem.upd_same hL).symm), by omega, rfl⟩
  rintro m S ⟨T, i, rfl, hi, rfl⟩
  refine s_seq ?_
  refine s_seq ?_
  refine s_region ?_
  refine o_q (q_mv (v_raw rfl)) rfl rfl rfl ?_
  refine o_q (q_mv ((by first | exact v_raw rfl | exact v_sptr rfl))) rfl rfl rfl ?_
  refine o_q (q_nil rfl) rfl rfl rfl ?_
  refine o_q (q_fr fo54_0 rfl) rfl rfl rfl ?_
  refine o_q (q_ldm ag3 sz3 rfl (by repeat first | exact Mem.upd_self _ _ _ | assumption | refine Mem.upd_ne (by assumption) ?_) rfl (v_raw rfl)) rfl rfl rfl ?_
  refine o_q (q_lss rfl rfl) rfl rfl rfl ?_
  refine o_nil ?_
  refine s_cond rfl (fun h1 => ?_) (fun h1 => ?_)
  · have k1 := h1; try simp only [decide_eq_true_eq, decide_eq_false_iff_not, Bool.not_eq_true', Bool.not_eq_false', Bool.not_true, Bool.not_false, List.length_map, Decidable.not_not] at k1
    refine s_skip ?_
    refine s_seq ?_
    refine s_block ?_
    refine s_seq ?_
    refine s_region ?_
    refine o_q (q_mv ((by first | exact v_raw rfl | exact v_sptr rfl))) rfl rfl rfl ?_
    refine o_q (q_mv (v_raw rfl)) rfl rfl rfl ?_
    refine o_q (q_mv (v_raw rfl)) rfl rfl rfl ?_
    refine o_call ((snd30 y L N side _ _ (hR.cl node i) node i)) goes30 (ac ((by first | exact v_raw rfl | exact v_sptr rfl)) (ac (v_raw rfl) (ac (v_raw rfl) ac_nil))) rfl ?_
    refine o_q (q_as (v_raw rfl)) rfl rfl rfl ?_
    refine o_nil ?_
    refine s_seq ?_
    refine s_region ?_
    refine o_q (q_mv ((by first | exact v_raw rfl | exact v_sptr rfl))) rfl rfl rfl ?_
    refine o_q (q_mv (v_raw rfl)) rfl rfl rfl ?_
    refine o_q (q_mv (v_raw rfl)) rfl rfl rfl ?_
    refine o_call ((snd30 y L N side _ _ (hR.cl node i) i node)) goes30 (ac ((by first | exact v_raw rfl | exact v_sptr rfl)) (ac (v_raw rfl) (ac (v_raw rfl) ac_nil))) rfl ?_
    refine o_q (q_as (v_raw rfl)) rfl rfl rfl ?_
    refine o_nil ?_
    refine s_seq ?_
    refine s_seq ?_
    refine s_region ?_
    refine o_q (q_mv (v_raw rfl)) rfl rfl rfl ?_
    refine o_q (q_geq rfl rfl) rfl rfl rfl ?_
    refine o_nil ?_
    refine s_cond rfl (fun h2 => ?_) (fun h2 => ?_)
    · have k2 := h2; try simp only [decide_eq_true_eq, decide_eq_false_iff_not, Bool.not_eq_true', Bool.not_eq_false', Bool.not_true, Bool.not_false, List.length_map, Decidable.not_not] at k2
      have hp1 : ¬ atR N node i < 0 := by omega
      obtain ⟨-, -, hp3, hp4⟩ := lk_nil_set (q := q) hp1
      refine s_region ?_
      refine o_q (q_mv ((by first | exact v_raw rfl | exact v_sptr rfl))) rfl rfl rfl ?_
      refine o_q (q_nil rfl) rfl rfl rfl ?_
      refine o_q (q_fr fo54_1 rfl) rfl rfl rfl ?_
      refine o_q (q_ldm ag52 sz52 rfl (by repeat first | exact Mem.upd_self _ _ _ | assumption | refine Mem.upd_ne (by assumption) ?_) rfl ((by first | exact v_raw rfl | exact v_sl rfl))) rfl rfl rfl ?_
      refine o_q (q_mv (v_raw rfl)) rfl rfl rfl ?_
      refine o_q (q_idxr und52 sz40 rfl rfl (by omega) (by omega)) rfl rfl rfl ?_
      refine o_store_nil rfl (by repeat first | exact Mem.upd_self _ _ _ | assumption | refine Mem.upd_ne (by assumption) ?_) rfl sz40 (lk_nil_set hp1).2.1 ?_
      rw [(lk_nil_set hp1).1, Mem.upd_upd]
      refine o_nil ?_
      refine s_seq ?_
      refine s_region ?_
      refine o_q (q_mv (v_raw rfl)) rfl rfl rfl ?_
      refine o_q (q_geq rfl rfl) rfl rfl rfl ?_
      refine o_nil ?_
      refine s_cond rfl (fun h3 => ?_) (fun h3 => ?_)
      · have k3 := h3; try simp only [decide_eq_true_eq, decide_eq_false_iff_not, Bool.not_eq_true', Bool.not_eq_false', Bool.not_true, Bool.not_false, List.length_map, Decidable.not_not] at k3
        have hp2 : ¬ atR N i node < 0 := by omega
        obtain ⟨-, -, hp5, hp6⟩ := lk_nil_set (q := q) hp2
        refine s_region ?_
        refine o_q (q_mv ((by first | exact v_raw rfl | exact v_sptr rfl))) rfl rfl rfl ?_
        refine o_q (q_nil rfl) rfl rfl rfl ?_
        refine o_q (q_fr fo54_1 rfl) rfl rfl rfl ?_
        refine o_q (q_ldm ag52 sz52 rfl (by repeat first | exact Mem.upd_self _ _ _ | assumption | refine Mem.upd_ne (by assumption) ?_) rfl ((by first | exact v_raw rfl | exact v_sl rfl))) rfl rfl rfl ?_
        refine o_q (q_mv (v_raw rfl)) rfl rfl rfl ?_
        refine o_q (q_idxr und52 sz40 rfl rfl (by omega) (by omega)) rfl rfl rfl ?_
        refine o_store_nil rfl (by repeat first | exact Mem.upd_self _ _ _ | assumption | refine Mem.upd_ne (by assumption) ?_) rfl sz40 (lk_nil_set hp2).2.1 ?_
        rw [(lk_nil_set hp2).1, Mem.upd_upd]
        refine o_nil ?_
        refine s_blk_normal ?_
        refine s_region ?_
        refine o_q (q_mv (v_raw rfl)) rfl rfl rfl ?_
        refine o_q (q_add rfl rfl (wrap64 (by omega) (by omega))) rfl rfl rfl ?_
        refine o_q (q_as (v_raw rfl)) rfl rfl rfl ?_
        refine o_nil ?_
        refine s_inv ?_
        exact ⟨N - (i + 1), by omega, _, i + 1, mk_mem (St.mkT (kp (kp (kp rfl rfl) rfl) rfl).symm) (by rw [cl_step (c1 := setQ (cl q node i) (node, (i : Int)) []) (c2 := setQ (setQ (cl q node i) (node, (i : Int)) []) ((i : Int), node) []) (.inl rfl) (.inl rfl)]), by omega, rfl⟩
      · have k3 := h3; try simp only [decide_eq_true_eq, decide_eq_false_iff_not, Bool.not_eq_true', Bool.not_eq_false', Bool.not_true, Bool.not_false, List.length_map, Decidable.not_not] at k3
        have hp2 : atR N i node < 0 := by omega
        refine s_skip ?_
        refine s_blk_normal ?_
        refine s_region ?_
        refine o_q (q_mv (v_raw rfl)) rfl rfl rfl ?_
        refine o_q (q_add rfl rfl (wrap64 (by omega) (by omega))) rfl rfl rfl ?_
        refine o_q (q_as (v_raw rfl)) rfl rfl rfl ?_
        refine o_nil ?_
        refine s_inv ?_
        exact ⟨N - (i + 1), by omega, _, i + 1, mk_mem (St.mkT (kp (kp (kp rfl rfl) rfl) rfl).symm) (by rw [cl_step (c1 := setQ (cl q node i) (node, (i : Int)) []) (c2 := setQ (cl q node i) (node, (i : Int)) []) (.inl rfl) (.inr ⟨rfl, hz _ _ (atR_neg (by omega))⟩)]), by omega, rfl⟩
    · have k2 := h2; try simp only [decide_eq_true_eq, decide_eq_false_iff_not, Bool.not_eq_true', Bool.not_eq_false', Bool.not_true, Bool.not_false, List.length_map, Decidable.not_not] at k2
      have hp1 : atR N node i < 0 := by omega
      refine s_skip ?_
      refine s_seq ?_
      refine s_region ?_
      refine o_q (q_mv (v_raw rfl)) rfl rfl rfl ?_
      refine o_q (q_geq rfl rfl) rfl rfl rfl ?_
      refine o_nil ?_
      refine s_cond rfl (fun h4 => ?_) (fun h4 => ?_)
      · have k4 := h4; try simp only [decide_eq_true_eq, decide_eq_false_iff_not, Bool.not_eq_true', Bool.not_eq_false', Bool.not_true, Bool.not_false, List.length_map, Decidable.not_not] at k4
        have hp2 : ¬ atR N i node < 0 := by omega
        obtain ⟨-, -, hp5, hp6⟩ := lk_nil_set (q := q) hp2
        refine s_region ?_
        refine o_q (q_mv ((by first | exact v_raw rfl | exact v_sptr rfl))) rfl rfl rfl ?_
        refine o_q (q_nil rfl) rfl rfl rfl ?_
        refine o_q (q_fr fo54_1 rfl) rfl rfl rfl ?_
        refine o_q (q_ldm ag52 sz52 rfl (by repeat first | exact Mem.upd_self _ _ _ | assumption | refine Mem.upd_ne (by assumption) ?_) rfl ((by first | exact v_raw rfl | exact v_sl rfl))) rfl rfl rfl ?_
        refine o_q (q_mv (v_raw rfl)) rfl rfl rfl ?_
        refine o_q (q_idxr und52 sz40 rfl rfl (by omega) (by omega)) rfl rfl rfl ?_
        refine o_store_nil rfl (by repeat first | exact Mem.upd_self _ _ _ | assumption | refine Mem.upd_ne (by assumption) ?_) rfl sz40 (lk_nil_set hp2).2.1 ?_
        rw [(lk_nil_set hp2).1, Mem.upd_upd]
        refine o_nil ?_
        refine s_blk_normal ?_
        refine s_region ?_
        refine o_q (q_mv (v_raw rfl)) rfl rfl rfl ?_
        refine o_q (q_add rfl rfl (wrap64 (by omega) (by omega))) rfl rfl rfl ?_
        refine o_q (q_as (v_raw rfl)) rfl rfl rfl ?_
        refine o_nil ?_
        refine s_inv ?_
        exact ⟨N - (i + 1), by omega, _, i + 1, mk_mem (St.mkT (kp (kp (kp rfl rfl) rfl) rfl).symm) (by rw [cl_step (c1 := cl q node i) (c2 := setQ (cl q node i) ((i : Int), node) []) (.inr ⟨rfl, hz _ _ (atR_neg (by omega))⟩) (.inl rfl)]), by omega, rfl⟩
      · have k4 := h4; try simp only [decide_eq_true_eq, decide_eq_false_iff_not, Bool.not_eq_true', Bool.not_eq_false', Bool.not_true, Bool.not_false, List.length_map, Decidable.not_not] at k4
        have hp2 : atR N i node < 0 := by omega
        refine s_skip ?_
        refine s_blk_normal ?_
        refine s_region ?_
        refine o_q (q_mv (v_raw rfl)) rfl rfl rfl ?_
        refine o_q (q_add rfl rfl (wrap64 (by omega) (by omega))) rfl rfl rfl ?_
        refine o_q (q_as (v_raw rfl)) rfl rfl rfl ?_
        refine o_nil ?_
        refine s_inv ?_
        exact ⟨N - (i + 1), by omega, _, i + 1, mk_mem (St.mkT (kp (kp (kp rfl rfl) rfl) rfl).symm) (by rw [cl_step (c1 := cl q node i) (c2 := cl q node i) (.inr ⟨rfl, hz _ _ (atR_neg (by omega))⟩) (.inr ⟨rfl, hz _ _ (atR_neg (by omega))⟩)]), by omega, rfl⟩
  · have k1 := h1; try simp only [decide_eq_true_eq, decide_eq_false_iff_not, Bool.not_eq_true', Bool.not_eq_false', Bool.not_true, Bool.not_false, List.length_map, Decidable.not_not] at k1
    refine s_exit ?_
    refine s_code_exit ?_
    refine s_inv_exit ?_
    refine s_blk_here ?_
    refine s_end ?_
    have hiN : i = N := by omega
    subst hiN
    show M.upd L _ = _
    rw [cl_all]
end C05
