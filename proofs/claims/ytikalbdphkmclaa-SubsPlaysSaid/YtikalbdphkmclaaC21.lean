import Derived.Test.YtikalbdphkmclaaC20
/-! The document's answers of chapters 15 and 16, walked. -/
open Go Go.Proofs Go.Am
set_option linter.unusedVariables false
set_option linter.unusedSimpArgs false
set_option autoImplicit false
namespace C15

def tk9 : Nat → Nat → Option Nat := fun _ _ => none
def pl9 : Nat → List PStep
  | 46 => [.q 0, .q 1, .q 2, .q 3, .q 4, .q 5, .q 6, .q 7, .q 8, .q 9, .s 10 [6, 5, 4, 3, 2, 1, 0], .q 11, .q 12, .q 13, .q 14, .q 16, .s 15 [16, 12, 11, 9, 8, 7, 6, 5, 4, 3, 2, 1, 0], .s 17 [14, 12, 11, 9, 8, 7, 6, 5, 4, 3, 2, 1, 0], .q 18, .q 19]
  | _ => []
theorem cb9 : Try.f9.body.map (codeB Try.prog Try.f9.ntmps tk9 pl9) = some true := by kernel_rfl
theorem goes9 : goesB Try.prog 9 = true := by kernel_rfl
-- carillon/carillonlaw16.SubsPlays params ['string', 'int', 'int', 'subs.Sub', 'bool', '[]carillonlaw16.Deed'] results [['t', 12]] own [] names ['0:name', '1:many', '2:first', '3:from', '4:raw', '5:deeds', '6:name', '7:many', '8:first', '9:from', '10:raw', '11:deeds', '13:head', '14:t', '15:_', '16:y', '17:seq', '18:s', '19:a', '20:x', '21:b', '22:i', '23:d', '24:one', '25:two', '26:l', '27:m', '28:alike'] calls [12, 14, 18, 21, 22, 23, 24, 25, 26, 27, 28, 29, 30, 31, 32, 33, 34, 35, 36, 37, 38, 39] paths 12

theorem tame_pubK {v : Nat} {x : Tp} (h : Tame v x) (hv : v < 2 ^ 40) : pub x (bs 112) v emp emp = (px x (bs 112) v emp emp, (v : Int), (0 : Int)) ∧ Tame (v + 1) (px x (bs 112) v emp emp) := by
  have hen := h.en
  have hw : word (bs 112) = true := by kernel_rfl
  have hr : right (newR x (bs 112) v emp emp) = true := right_spec.2 ⟨by simp [newR]; omega, by simp [newR], by simp [newR]; omega, by simp [newR]; omega, by simp [newR]; decide, by simp [newR]; decide, by simp [newR]; decide⟩
  refine ⟨?_, h.nm, by show x.en + 1 = _; omega, ?_, fun r hr => ?_, ⟨h.low.1, by have := h.low.2; show x.low ≤ _; omega⟩, fun l hl => ?_, by have := h.len; simp; omega⟩
  · unfold pub
    rw [hw, hr]
    simp only [Bool.and_self, if_true]
    split
    · rename_i l hl
      have := h.last l hl
      rw [if_neg (by omega), if_neg (by omega)]
      exact congrArg (fun z => (px x (bs 112) v emp emp, z, (0 : Int))) h.en
    · exact congrArg (fun z => (px x (bs 112) v emp emp, z, (0 : Int))) h.en
  · refine List.pairwise_append.2 ⟨h.srt, List.pairwise_singleton .., fun a ha b hb => ?_⟩
    rw [List.mem_singleton.1 hb]
    have := (h.off a ha).2
    show a.off < x.en
    omega
  · rcases List.mem_append.1 hr with hr | hr
    · have := h.off r hr; omega
    · rw [List.mem_singleton.1 hr]; show 0 ≤ x.en ∧ x.en < _; omega
  · have hl' : kget (kput x.kvs (bs 112) ((v : Int), x.en, bs 112)) (bs 112) = some l := hl
    rw [kget_kput, if_pos rfl] at hl'
    obtain rfl := Option.some.inj hl'
    show (v : Int) < ((v + 1 : Nat) : Int); omega
theorem tame_trimA {v : Nat} {x : Tp} (h : Tame v x) (n : Int) : Tame v (trimT x n).1 := by
  have he := h.en
  have hl := h.low
  unfold trimT
  split
  · exact h
  · split
    · exact ⟨h.nm, h.en, sorted_sub h.srt (List.drop_sublist _ _), fun r hr => h.off r (List.mem_of_mem_drop hr), ⟨by show 0 ≤ n; omega, by show n ≤ v; omega⟩, h.last, by have := h.len; show (x.recs.drop _).length ≤ v; rw [List.length_drop]; omega⟩
    · exact h
def SbOk (s : Sb) : Prop := s.name.size < 2 ^ 63 ∧ s.topic.size < 2 ^ 63
theorem ok_att {s : Sb} (h : SbOk s) : SbOk (attS s) := h
theorem ok_ack {s : Sb} (h : SbOk s) (o : Int) : SbOk (ackS s o).1 := by unfold ackS; split <;> exact h
theorem ok_seek {s : Sb} (h : SbOk s) (x : Tp) (o : Int) : SbOk (seekS s x o).1 := by unfold seekS; split <;> exact h
theorem ok_poll {s : Sb} (h : SbOk s) (x : Tp) (o : Int) : SbOk (pollS s x o).1 ∧ (pollS s x o).2.1.length ≤ x.recs.length := by
  unfold pollS; split
  · exact ⟨h, (pollL_sub _ _ _).length_le⟩
  · exact ⟨h, Nat.zero_le _⟩
theorem ok_new {v : Nat} {x : Tp} (hT : Tame v x) {n : ByteArray} (hn : n.size < 2 ^ 63) (o : Int) : SbOk (newS n x o).1 := by
  unfold newS
  by_cases hc : (word n && decide ((if o < 0 then x.en else o) ≤ x.en)) = true
  · rw [if_pos hc]; exact ⟨hn, by show x.name.size < _; rw [hT.nm]; decide⟩
  · rw [if_neg hc]; exact ⟨by show emp.size < _; decide, by show emp.size < _; decide⟩
theorem pubK {v : Nat} {x : Tp} (t w : Nat) (M : Mem) (h : Tame v x) (hv : v < 2 ^ 40) (ht : M t = some (.cells (tpC w x))) (hw : M w = some (tpK x)) (htw : t ≠ w) : SoundCall Try.prog 14 [ptr t, str (bs 112), int v, str emp, str emp] M fun r M' => r = .tup [int v, int 0] ∧ M' = setTp M t w (px x (bs 112) v emp emp) :=
  pubE t w M (tame_pubK h hv).1 ht hw htw (by rw [h.en]; omega) (by have := h.len; omega)
set_option maxHeartbeats 4000000 in
set_option maxRecDepth 20000 in
theorem snd9 (name : ByteArray) (many first : Int) (fr : Sb) (raw : Bool) (l : List D2) (o : Bool) (M : Mem) (hnm : name.size < 2 ^ 63) (hmany : -2 ^ 63 ≤ many ∧ many < 2 ^ 63) (hfr : SbOk fr) (hl : l.length < 2 ^ 60) (hq : ∀ d ∈ l, okD2 d) : SoundCall Try.prog 9 [str name, int many, int first, encSb fr, bool raw, .sl (l.map encD2) o] M fun r M' => r = bool true ∧ M.le M' := by
  obtain ⟨n, hn, hn2⟩ := pickN many 201 (by decide)
  refine SoundCall.go tk9 pl9 mixed Try.func9 cb9 rfl (Nat.le_of_ble_eq_true rfl) ?_
  refine s_seq ?_
  refine s_region ?_
  refine o_box (by first | exact e_raw rfl | exact e_agg rfl | exact e_sl rfl) rfl rfl (fun B1 hB1 => ?_)
  have m1 : M B1 = none := by have h := hB1; repeat (first | exact h | exact Mem.none_of_le hle h | replace h := (Mem.upd_none h).2)
  refine o_q (q_as (v_raw rfl)) rfl rfl rfl ?_
  refine o_nil ?_
  refine s_seq ?_
  refine s_region ?_
  refine o_call (((snd21 _).det)) goes21 ac_nil rfl ?_
  refine o_q (q_as (v_raw rfl)) rfl rfl rfl ?_
  refine o_nil ?_
  refine s_seq ?_
  refine s_region ?_
  refine o_callx (newT (bs 116) _ (by kernel_rfl)) goes12 (ac (v_raw rfl) ac_nil) rfl ?_
  rintro r M' ⟨t, w, ht0, hw0, htw, rfl, rfl⟩
  have htw' := htw.symm
  have nt1 : B1 ≠ t := Mem.fresh_ne ht0 (by repeat first | exact Mem.upd_self _ _ _ | assumption | refine Mem.upd_ne (by assumption) ?_)
  have nt1' := nt1.symm
  have nw1 : B1 ≠ w := Mem.fresh_ne hw0 (by repeat first | exact Mem.upd_self _ _ _ | assumption | refine Mem.upd_ne (by assumption) ?_)
  have nw1' := nw1.symm
  have ht0' : M t = none := (Mem.upd_none ht0).2
  have hw0' : M w = none := (Mem.upd_none hw0).2
  refine o_q (q_mv (v_tup rfl)) rfl rfl rfl ?_
  refine o_q (q_ext rfl rfl ((by first | exact v_raw rfl | exact v_sptr rfl))) rfl rfl rfl ?_
  refine o_q (q_ext rfl rfl (v_raw rfl)) rfl rfl rfl ?_
  refine o_q (q_as ((by first | exact v_raw rfl | exact v_sptr rfl))) rfl rfl rfl ?_
  refine o_q (q_as (v_raw rfl)) rfl rfl rfl ?_
  refine o_nil ?_
  refine s_seq ?_
  refine s_region ?_
  refine o_callx (newY _) goes28 (ac (v_raw rfl) ac_nil) rfl ?_
  rintro r M' ⟨y, hy0, rfl, rfl⟩
  have ny1 : B1 ≠ y := Mem.fresh_ne hy0 (by repeat first | exact Mem.upd_self _ _ _ | assumption | refine Mem.upd_ne (by assumption) ?_)
  have ny1' := ny1.symm
  have nyt : t ≠ y := Mem.fresh_ne hy0 (by repeat first | exact Mem.upd_self _ _ _ | assumption | refine Mem.upd_ne (by assumption) ?_)
  have nyt' := nyt.symm
  have nyw : w ≠ y := Mem.fresh_ne hy0 (by repeat first | exact Mem.upd_self _ _ _ | assumption | refine Mem.upd_ne (by assumption) ?_)
  have nyw' := nyw.symm
  have hy0' : M y = none := by have h := hy0; repeat (first | exact h | replace h := (Mem.upd_none h).2)
  refine o_q (q_as ((by first | exact v_raw rfl | exact v_sptr rfl))) rfl rfl rfl ?_
  refine o_nil ?_
  refine s_seq ?_
  refine s_seq ?_
  refine s_region ?_
  refine o_q (q_mv ((by first | exact v_raw rfl | exact v_sptr rfl))) rfl rfl rfl ?_
  refine o_q (q_peql und24 rfl rfl) rfl rfl rfl ?_
  refine o_nil ?_
  refine s_else rfl rfl ?_
  refine s_skip ?_
  refine s_seq ?_
  refine s_region ?_
  refine o_q (q_as (v_raw rfl)) rfl rfl rfl ?_
  refine o_nil ?_
  refine s_seq ?_
  refine s_block ?_
  refine s_loop (fun m S => ∃ T, ∃ M' : Mem, ∃ x : Tp, ∃ v : Nat, S = ⟨setT (setT (setT (setT (setT (setT (setT (setT (setT (setT T 0 (str name)) 1 (int many)) 2 (int first)) 4 (bool raw)) 5 (.sl (l.map encD2) o)) 9 (ptr B1)) 13 (bool true)) 14 (ptr t)) 16 (ptr y)) 17 (int (v : Nat)), M'⟩ ∧ M.le M' ∧ M' t = some (.cells (tpC w (x))) ∧ M' w = some (tpK (x)) ∧ M' y = some (.cells (ryC (v) (x))) ∧ M' B1 = some (.cells (sbC fr)) ∧ Tame v x ∧ v ≤ n ∧ m = n - v) n ?_ ?_
  · exact ⟨_, _, ⟨bs 116, 0, 0, [], []⟩, 0, St.mkT (kp (kp (kp (kp (kp (kp (kp (kp (kp (kp rfl rfl) rfl) rfl) rfl) rfl) rfl) rfl) rfl) rfl) rfl).symm, (by repeat first | exact hle | exact Mem.le_refl M | assumption | exact Mem.none_of_le hle (by assumption) | refine Mem.le_upd ?_ ?_), (by repeat first | exact Mem.upd_self _ _ _ | assumption | refine Mem.upd_ne (by assumption) ?_), (by repeat first | exact Mem.upd_self _ _ _ | assumption | refine Mem.upd_ne (by assumption) ?_), (by repeat first | exact Mem.upd_self _ _ _ | assumption | refine Mem.upd_ne (by assumption) ?_), (by repeat first | exact Mem.upd_self _ _ _ | assumption | refine Mem.upd_ne (by assumption) ?_), tame_new, by omega, rfl⟩
  rintro m S ⟨T, M', x, v, rfl, hle, ht, hw, hy, hBf, hT, hvn, rfl⟩
  have hen := hT.en
  have hlen := hT.len
  refine s_seq ?_
  refine s_seq ?_
  refine s_region ?_
  refine o_q (q_mv (v_raw rfl)) rfl rfl rfl ?_
  refine o_q (q_mv (v_raw rfl)) rfl rfl rfl ?_
  refine o_call ((pickE _ hn (by decide) (by decide) hmany)) goes22 (ac (v_raw rfl) (ac (v_raw rfl) ac_nil)) rfl ?_
  refine o_q (q_lss rfl rfl) rfl rfl rfl ?_
  refine o_nil ?_
  refine s_cond rfl (fun h1 => ?_) (fun h1 => ?_)
  · have k1 := h1; try simp only [decide_eq_true_eq, decide_eq_false_iff_not, Bool.not_eq_true', Bool.not_eq_false', Bool.not_true, Bool.not_false, List.length_map, Decidable.not_not] at k1
    refine s_skip ?_
    refine s_block ?_
    refine s_seq ?_
    refine s_region ?_
    refine o_q (q_mv ((by first | exact v_raw rfl | exact v_sptr rfl))) rfl rfl rfl ?_
    refine o_q (q_mv (v_raw rfl)) rfl rfl rfl ?_
    refine o_callx ((pubK t w _ hT (by omega) (by repeat first | exact Mem.upd_self _ _ _ | assumption | refine Mem.upd_ne (by assumption) ?_) (by repeat first | exact Mem.upd_self _ _ _ | assumption | refine Mem.upd_ne (by assumption) ?_) htw)) goes14 (ac ((by first | exact v_raw rfl | exact v_sptr rfl)) (ac (v_raw rfl) (ac (v_raw rfl) (ac (v_raw rfl) (ac (v_raw rfl) ac_nil))))) rfl ?_
    rintro r M' ⟨rfl, rfl⟩
    refine o_nil ?_
    refine s_seq ?_
    refine s_region ?_
    refine o_q (q_mv ((by first | exact v_raw rfl | exact v_sptr rfl))) rfl rfl rfl ?_
    refine o_q (q_mv (v_raw rfl)) rfl rfl rfl ?_
    refine o_callx ((pubY v y x _ (by repeat first | exact Mem.upd_self _ _ _ | assumption | refine Mem.upd_ne (by assumption) ?_) hen (by omega) (by omega))) goes29 (ac ((by first | exact v_raw rfl | exact v_sptr rfl)) (ac (v_raw rfl) (ac (v_raw rfl) (ac (v_raw rfl) (ac (v_raw rfl) ac_nil))))) rfl ?_
    rintro r M' ⟨rfl, rfl⟩
    refine o_nil ?_
    refine s_region ?_
    refine o_q (q_mv (v_raw rfl)) rfl rfl rfl ?_
    refine o_q (q_add rfl rfl (wrap64 (by omega) (by omega))) rfl rfl rfl ?_
    refine o_q (q_as (v_raw rfl)) rfl rfl rfl ?_
    refine o_nil ?_
    refine s_blk_normal ?_
    refine s_inv ?_
    exact ⟨n - (v + 1), by omega, _, _, _, v + 1, St.mkT (kp (kp (kp (kp (kp (kp (kp (kp (kp (kp rfl rfl) rfl) rfl) rfl) rfl) rfl) rfl) rfl) rfl) rfl).symm, (by repeat first | exact hle | exact Mem.le_refl M | assumption | exact Mem.none_of_le hle (by assumption) | refine Mem.le_upd ?_ ?_), (by repeat first | exact Mem.upd_self _ _ _ | assumption | refine Mem.upd_ne (by assumption) ?_), (by repeat first | exact Mem.upd_self _ _ _ | assumption | refine Mem.upd_ne (by assumption) ?_), (by repeat first | exact Mem.upd_self _ _ _ | assumption | refine Mem.upd_ne (by assumption) ?_), (by repeat first | exact Mem.upd_self _ _ _ | assumption | refine Mem.upd_ne (by assumption) ?_), (tame_pubK hT (by omega)).2, by omega, rfl⟩
  · have k1 := h1; try simp only [decide_eq_true_eq, decide_eq_false_iff_not, Bool.not_eq_true', Bool.not_eq_false', Bool.not_true, Bool.not_false, List.length_map, Decidable.not_not] at k1
    obtain rfl : n = v := by omega
    refine s_exit ?_
    refine s_code_exit ?_
    refine s_inv_exit ?_
    refine s_blk_here ?_
    refine s_seq ?_
    refine s_region ?_
    refine o_q (q_mv (v_raw rfl)) rfl rfl rfl ?_
    refine o_q (q_mv ((by first | exact v_raw rfl | exact v_sptr rfl))) rfl rfl rfl ?_
    refine o_q (q_mv (v_raw rfl)) rfl rfl rfl ?_
    refine o_call (((snd23 name t w x first _ (by repeat first | exact Mem.upd_self _ _ _ | assumption | refine Mem.upd_ne (by assumption) ?_) (by repeat first | exact Mem.upd_self _ _ _ | assumption | refine Mem.upd_ne (by assumption) ?_) htw).det)) goes23 (ac (v_raw rfl) (ac ((by first | exact v_raw rfl | exact v_sptr rfl)) (ac (v_raw rfl) ac_nil))) rfl ?_
    refine o_q (q_mv (v_tup rfl)) rfl rfl rfl ?_
    refine o_q (q_ext rfl rfl (v_agg rfl)) rfl rfl rfl ?_
    refine o_q (q_ext rfl rfl (v_raw rfl)) rfl rfl rfl ?_
    refine o_alloc zc45 (fun B2 hB2 => ?_)
    have nt2 : t ≠ B2 := Mem.fresh_ne hB2 (by repeat first | exact Mem.upd_self _ _ _ | assumption | refine Mem.upd_ne (by assumption) ?_)
    have nt2' := nt2.symm
    have nw2 : w ≠ B2 := Mem.fresh_ne hB2 (by repeat first | exact Mem.upd_self _ _ _ | assumption | refine Mem.upd_ne (by assumption) ?_)
    have nw2' := nw2.symm
    have ny2 : y ≠ B2 := Mem.fresh_ne hB2 (by repeat first | exact Mem.upd_self _ _ _ | assumption | refine Mem.upd_ne (by assumption) ?_)
    have ny2' := ny2.symm
    have f1_2 : B1 ≠ B2 := Mem.fresh_ne hB2 (by repeat first | exact Mem.upd_self _ _ _ | assumption | refine Mem.upd_ne (by assumption) ?_)
    have g2_1 : B2 ≠ B1 := f1_2.symm
    have m2 : M B2 = none := by have h := hB2; repeat (first | exact h | exact Mem.none_of_le hle h | replace h := (Mem.upd_none h).2)
    refine o_storew rfl (by repeat first | exact Mem.upd_self _ _ _ | assumption | refine Mem.upd_ne (by assumption) ?_) (by first | exact e_agg rfl | rfl) rfl sz45 rfl rfl rfl rfl ?_
    refine o_q (q_as (v_raw rfl)) rfl rfl rfl ?_
    refine o_nil ?_
    refine s_seq ?_
    refine s_region ?_
    refine o_q (q_mv (v_raw rfl)) rfl rfl rfl ?_
    refine o_q (q_mv ((by first | exact v_raw rfl | exact v_sptr rfl))) rfl rfl rfl ?_
    refine o_q (q_mv (v_raw rfl)) rfl rfl rfl ?_
    refine o_call (((snd30 name y n x first _ (by repeat first | exact Mem.upd_self _ _ _ | assumption | refine Mem.upd_ne (by assumption) ?_) hnm).det)) goes30 (ac (v_raw rfl) (ac ((by first | exact v_raw rfl | exact v_sptr rfl)) (ac (v_raw rfl) ac_nil))) rfl ?_
    refine o_q (q_mv (v_tup rfl)) rfl rfl rfl ?_
    refine o_q (q_ext rfl rfl (v_agg rfl)) rfl rfl rfl ?_
    refine o_q (q_ext rfl rfl (v_raw rfl)) rfl rfl rfl ?_
    refine o_alloc zc61 (fun B3 hB3 => ?_)
    have nt3 : t ≠ B3 := Mem.fresh_ne hB3 (by repeat first | exact Mem.upd_self _ _ _ | assumption | refine Mem.upd_ne (by assumption) ?_)
    have nt3' := nt3.symm
    have nw3 : w ≠ B3 := Mem.fresh_ne hB3 (by repeat first | exact Mem.upd_self _ _ _ | assumption | refine Mem.upd_ne (by assumption) ?_)
    have nw3' := nw3.symm
    have ny3 : y ≠ B3 := Mem.fresh_ne hB3 (by repeat first | exact Mem.upd_self _ _ _ | assumption | refine Mem.upd_ne (by assumption) ?_)
    have ny3' := ny3.symm
    have f1_3 : B1 ≠ B3 := Mem.fresh_ne hB3 (by repeat first | exact Mem.upd_self _ _ _ | assumption | refine Mem.upd_ne (by assumption) ?_)
    have g3_1 : B3 ≠ B1 := f1_3.symm
    have f2_3 : B2 ≠ B3 := Mem.fresh_ne hB3 (by repeat first | exact Mem.upd_self _ _ _ | assumption | refine Mem.upd_ne (by assumption) ?_)
    have g3_2 : B3 ≠ B2 := f2_3.symm
    have m3 : M B3 = none := by have h := hB3; repeat (first | exact h | exact Mem.none_of_le hle h | replace h := (Mem.upd_none h).2)
    refine o_storew rfl (by repeat first | exact Mem.upd_self _ _ _ | assumption | refine Mem.upd_ne (by assumption) ?_) (by first | exact e_agg rfl | rfl) rfl sz61 rfl rfl rfl rfl ?_
    refine o_q (q_as (v_raw rfl)) rfl rfl rfl ?_
    refine o_nil ?_
    refine s_seq ?_
    refine s_seq ?_
    refine s_region ?_
    refine o_q (q_mv (v_raw rfl)) rfl rfl rfl ?_
    refine o_q (q_mv (v_raw rfl)) rfl rfl rfl ?_
    refine o_q (q_neq rfl rfl) rfl rfl rfl ?_
    refine o_q (q_mv (v_raw rfl)) rfl rfl rfl ?_
    refine o_cases (want := false) (j := 3) rfl rfl (fun h2 => ?_) (fun h2 => ?_)
    · have k2 := h2; try simp only [decide_eq_true_eq, decide_eq_false_iff_not, Bool.not_eq_true', Bool.not_eq_false', Bool.not_true, Bool.not_false, List.length_map, Decidable.not_not] at k2
      refine o_yes rfl rfl rfl h2 ?_
      refine o_q (q_ldmw ag45 sz45 rfl (by repeat first | exact Mem.upd_self _ _ _ | assumption | refine Mem.upd_ne (by assumption) ?_) rfl rfl) rfl rfl rfl ?_
      refine o_yes rfl rfl rfl h2 ?_
      refine o_q (q_ldmw ag61 sz61 rfl (by repeat first | exact Mem.upd_self _ _ _ | assumption | refine Mem.upd_ne (by assumption) ?_) rfl rfl) rfl rfl rfl ?_
      refine o_yes rfl rfl rfl h2 ?_
      refine o_call (((snd31 (newS name x first).1 _).det)) goes31 (ac (v_agg rfl) (ac (v_agg rfl) ac_nil)) rfl ?_
      refine o_yes rfl rfl rfl h2 ?_
      refine o_q (q_not rfl) rfl rfl rfl ?_
      refine o_q (q_pick_c (t := false) rfl h2 (v_raw rfl)) rfl rfl rfl ?_
      refine o_nil ?_
      refine s_cond rfl (fun h3 => ?_) (fun h3 => ?_)
      · have k3 := h3; try simp only [decide_eq_true_eq, decide_eq_false_iff_not, Bool.not_eq_true', Bool.not_eq_false', Bool.not_true, Bool.not_false, List.length_map, Decidable.not_not] at k3
        cases h3
      · have k3 := h3; try simp only [decide_eq_true_eq, decide_eq_false_iff_not, Bool.not_eq_true', Bool.not_eq_false', Bool.not_true, Bool.not_false, List.length_map, Decidable.not_not] at k3
        refine s_skip ?_
        refine s_seq ?_
        refine s_seq ?_
        refine s_region ?_
        refine o_q (q_mv (v_raw rfl)) rfl rfl rfl ?_
        refine o_nil ?_
        refine s_cut (fun S => ∃ T, ∃ M' : Mem, ∃ s : Sb, S = ⟨setT (setT (setT (setT (setT (setT (setT T 5 (.sl (l.map encD2) o)) 13 (bool true)) 14 (ptr t)) 16 (ptr y)) 17 (int (n : Nat))) 18 (ptr B2)) 20 (ptr B3), M'⟩ ∧ M.le M' ∧ M' t = some (.cells (tpC w (x))) ∧ M' w = some (tpK (x)) ∧ M' y = some (.cells (ryC (n) (x))) ∧ M' B2 = some (.cells (sbC (s))) ∧ M' B3 = some (.cells (sbC (s))) ∧ SbOk s) ?_ ?_
        · skip
          refine s_cond rfl (fun h4 => ?_) (fun h4 => ?_)
          · have k4 := h4; try simp only [decide_eq_true_eq, decide_eq_false_iff_not, Bool.not_eq_true', Bool.not_eq_false', Bool.not_true, Bool.not_false, List.length_map, Decidable.not_not] at k4
            refine s_seq ?_
            refine s_region ?_
            refine o_q (q_ldmw ag45 sz45 rfl (by repeat first | exact Mem.upd_self _ _ _ | assumption | refine Mem.upd_ne (by assumption) ?_) rfl rfl) rfl rfl rfl ?_
            refine o_storew rfl (by repeat first | exact Mem.upd_self _ _ _ | assumption | refine Mem.upd_ne (by assumption) ?_) (by first | exact e_agg rfl | rfl) rfl sz45 rfl rfl rfl rfl ?_
            refine o_nil ?_
            refine s_region ?_
            refine o_q (q_fr fo45_0 rfl) rfl rfl rfl ?_
            refine o_q (q_ldm ag9 sz9 rfl (by repeat first | exact Mem.upd_self _ _ _ | assumption | refine Mem.upd_ne (by assumption) ?_) rfl (v_raw rfl)) rfl rfl rfl ?_
            refine o_q (q_fr fo45_1 rfl) rfl rfl rfl ?_
            refine o_q (q_ldm ag9 sz9 rfl (by repeat first | exact Mem.upd_self _ _ _ | assumption | refine Mem.upd_ne (by assumption) ?_) rfl (v_raw rfl)) rfl rfl rfl ?_
            refine o_q (q_fr fo45_2 rfl) rfl rfl rfl ?_
            refine o_q (q_ldm ag3 sz3 rfl (by repeat first | exact Mem.upd_self _ _ _ | assumption | refine Mem.upd_ne (by assumption) ?_) rfl (v_raw rfl)) rfl rfl rfl ?_
            refine o_q (q_fr fo45_3 rfl) rfl rfl rfl ?_
            refine o_q (q_ldm ag3 sz3 rfl (by repeat first | exact Mem.upd_self _ _ _ | assumption | refine Mem.upd_ne (by assumption) ?_) rfl (v_raw rfl)) rfl rfl rfl ?_
            refine o_q (q_b (cs := [_, _, _, _]) bz61 bp61 (bf fo61_0 (e_raw rfl) rfl rfl (Nat.le_of_ble_eq_true rfl) rfl (bf fo61_1 (e_raw rfl) rfl rfl (Nat.le_of_ble_eq_true rfl) rfl (bf fo61_2 (e_raw rfl) rfl rfl (Nat.le_of_ble_eq_true rfl) rfl (bf fo61_3 (e_raw rfl) rfl rfl (Nat.le_of_ble_eq_true rfl) rfl bf_nil))))) rfl rfl rfl ?_
            refine o_storew rfl (by repeat first | exact Mem.upd_self _ _ _ | assumption | refine Mem.upd_ne (by assumption) ?_) (by first | exact e_agg rfl | rfl) rfl sz61 rfl rfl rfl rfl ?_
            refine o_nil ?_
            refine s_inv ?_
            exact ⟨_, _, fr, St.mkT (kp (kp (kp (kp (kp (kp (kp rfl rfl) rfl) rfl) rfl) rfl) rfl) rfl).symm, (by repeat first | exact hle | exact Mem.le_refl M | assumption | exact Mem.none_of_le hle (by assumption) | refine Mem.le_upd ?_ ?_), (by repeat first | exact Mem.upd_self _ _ _ | assumption | refine Mem.upd_ne (by assumption) ?_), (by repeat first | exact Mem.upd_self _ _ _ | assumption | refine Mem.upd_ne (by assumption) ?_), (by repeat first | exact Mem.upd_self _ _ _ | assumption | refine Mem.upd_ne (by assumption) ?_), (by repeat first | exact Mem.upd_self _ _ _ | assumption | refine Mem.upd_ne (by assumption) ?_), (by repeat first | exact Mem.upd_self _ _ _ | assumption | refine Mem.upd_ne (by assumption) ?_), hfr⟩
          · have k4 := h4; try simp only [decide_eq_true_eq, decide_eq_false_iff_not, Bool.not_eq_true', Bool.not_eq_false', Bool.not_true, Bool.not_false, List.length_map, Decidable.not_not] at k4
            refine s_skip ?_
            refine s_inv ?_
            exact ⟨_, _, (newS name x first).1, St.mkT (kp (kp (kp (kp (kp (kp (kp rfl rfl) rfl) rfl) rfl) rfl) rfl) rfl).symm, (by repeat first | exact hle | exact Mem.le_refl M | assumption | exact Mem.none_of_le hle (by assumption) | refine Mem.le_upd ?_ ?_), (by repeat first | exact Mem.upd_self _ _ _ | assumption | refine Mem.upd_ne (by assumption) ?_), (by repeat first | exact Mem.upd_self _ _ _ | assumption | refine Mem.upd_ne (by assumption) ?_), (by repeat first | exact Mem.upd_self _ _ _ | assumption | refine Mem.upd_ne (by assumption) ?_), (by repeat first | exact Mem.upd_self _ _ _ | assumption | refine Mem.upd_ne (by assumption) ?_), (by repeat first | exact Mem.upd_self _ _ _ | assumption | refine Mem.upd_ne (by assumption) ?_), ok_new hT hnm first⟩
        rintro S ⟨T, M', s, rfl, hle, ht, hw, hy, hB2, hB3, hok⟩
        refine s_seq ?_
        refine s_seq ?_
        refine s_region ?_
        refine o_q (q_as (v_raw rfl)) rfl rfl rfl ?_
        refine o_nil ?_
        refine s_block ?_
        refine s_loop (fun m S => ∃ T, ∃ M' : Mem, ∃ x : Tp, ∃ v i : Nat, ∃ s : Sb, S = ⟨setT (setT (setT (setT (setT (setT (setT (setT T 5 (.sl (l.map encD2) o)) 13 (bool true)) 14 (ptr t)) 16 (ptr y)) 17 (int (v : Nat))) 18 (ptr B2)) 20 (ptr B3)) 22 (int (i : Nat)), M'⟩ ∧ M.le M' ∧ M' t = some (.cells (tpC w (x))) ∧ M' w = some (tpK (x)) ∧ M' y = some (.cells (ryC (v) (x))) ∧ M' B2 = some (.cells (sbC (s))) ∧ M' B3 = some (.cells (sbC (s))) ∧ Tame v x ∧ SbOk s ∧ v ≤ 300 + i ∧ i ≤ 100 ∧ i ≤ l.length ∧ m = l.length - i) l.length ?_ ?_
        · exact ⟨_, _, x, n, 0, s, St.mkT (kp (kp (kp (kp (kp (kp (kp (kp rfl rfl) rfl) rfl) rfl) rfl) rfl) rfl) rfl).symm, hle, ht, hw, hy, hB2, hB3, hT, hok, by omega, by omega, by omega, rfl⟩
        rintro m S ⟨T, M', x, v, i, s, rfl, hle, ht, hw, hy, hB2, hB3, hT, hok, hvi, hi100, hi, rfl⟩
        refine s_seq ?_
        refine s_seq ?_
        refine s_region ?_
        refine o_q (q_mv (v_raw rfl)) rfl rfl rfl ?_
        refine o_q (q_mv (v_sl rfl)) rfl rfl rfl ?_
        refine o_q (q_len rfl und53 rfl) rfl rfl rfl ?_
        refine o_q (q_lss rfl rfl) rfl rfl rfl ?_
        refine o_q (q_mv (v_raw rfl)) rfl rfl rfl ?_
        refine o_cases (want := true) (j := 4) rfl rfl (fun h5 => ?_) (fun h5 => ?_)
        · have k5 := h5; try simp only [decide_eq_true_eq, decide_eq_false_iff_not, Bool.not_eq_true', Bool.not_eq_false', Bool.not_true, Bool.not_false, List.length_map, Decidable.not_not] at k5
          refine o_yes rfl rfl rfl h5 ?_
          refine o_q (q_mv (v_raw rfl)) rfl rfl rfl ?_
          refine o_yes rfl rfl rfl h5 ?_
          refine o_q (q_lss rfl rfl) rfl rfl rfl ?_
          refine o_q (q_pick_c (t := true) rfl h5 (v_raw rfl)) rfl rfl rfl ?_
          refine o_nil ?_
          refine s_cond rfl (fun h6 => ?_) (fun h6 => ?_)
          · have k6 := h6; try simp only [decide_eq_true_eq, decide_eq_false_iff_not, Bool.not_eq_true', Bool.not_eq_false', Bool.not_true, Bool.not_false, List.length_map, Decidable.not_not] at k6
            have hqi := hq l[i] (List.getElem_mem _)
            obtain ⟨e6, he6, he62⟩ := pickN l[i].kind 6 (by decide)
            have hlen := hT.len
            have hen := hT.en
            have hpo := ok_poll hok x l[i].n
            refine s_skip ?_
            refine s_seq ?_
            refine s_block ?_
            refine s_seq ?_
            refine s_region ?_
            refine o_q (q_mv (v_sl rfl)) rfl rfl rfl ?_
            refine o_q (q_mv (v_raw rfl)) rfl rfl rfl ?_
            refine o_q (q_idx und53 sz55 rfl rfl (by omega) (gm i (by first | omega | simp)) rfl) rfl rfl rfl ?_
            refine o_q (q_lde ag55 sz55 rfl (gm i (by first | omega | simp)) rfl rfl) rfl rfl rfl ?_
            refine o_alloc zc55 (fun B4 hB4 => ?_)
            have nt4 : t ≠ B4 := Mem.fresh_ne hB4 (by repeat first | exact Mem.upd_self _ _ _ | assumption | refine Mem.upd_ne (by assumption) ?_)
            have nt4' := nt4.symm
            have nw4 : w ≠ B4 := Mem.fresh_ne hB4 (by repeat first | exact Mem.upd_self _ _ _ | assumption | refine Mem.upd_ne (by assumption) ?_)
            have nw4' := nw4.symm
            have ny4 : y ≠ B4 := Mem.fresh_ne hB4 (by repeat first | exact Mem.upd_self _ _ _ | assumption | refine Mem.upd_ne (by assumption) ?_)
            have ny4' := ny4.symm
            have f2_4 : B2 ≠ B4 := Mem.fresh_ne hB4 (by repeat first | exact Mem.upd_self _ _ _ | assumption | refine Mem.upd_ne (by assumption) ?_)
            have g4_2 : B4 ≠ B2 := f2_4.symm
            have f3_4 : B3 ≠ B4 := Mem.fresh_ne hB4 (by repeat first | exact Mem.upd_self _ _ _ | assumption | refine Mem.upd_ne (by assumption) ?_)
            have g4_3 : B4 ≠ B3 := f3_4.symm
            have m4 : M B4 = none := by have h := hB4; repeat (first | exact h | exact Mem.none_of_le hle h | replace h := (Mem.upd_none h).2)
            refine o_storew rfl (by repeat first | exact Mem.upd_self _ _ _ | assumption | refine Mem.upd_ne (by assumption) ?_) (by first | exact e_agg rfl | rfl) rfl sz55 rfl rfl rfl rfl ?_
            refine o_nil ?_
            refine s_seq ?_
            refine s_region ?_
            refine o_q (q_as (v_raw rfl)) rfl rfl rfl ?_
            refine o_nil ?_
            refine s_seq ?_
            refine s_region ?_
            refine o_q (q_as (v_raw rfl)) rfl rfl rfl ?_
            refine o_nil ?_
            refine s_seq ?_
            refine s_region ?_
            refine o_q (q_as (v_sl rfl)) rfl rfl rfl ?_
            refine o_nil ?_
            refine s_seq ?_
            refine s_region ?_
            refine o_q (q_as (v_sl rfl)) rfl rfl rfl ?_
            refine o_nil ?_
            refine s_seq ?_
            refine s_seq ?_
            refine s_region ?_
            refine o_q (q_fr fo55_0 rfl) rfl rfl rfl ?_
            refine o_q (q_ldm ag3 sz3 rfl (by repeat first | exact Mem.upd_self _ _ _ | assumption | refine Mem.upd_ne (by assumption) ?_) rfl (v_raw rfl)) rfl rfl rfl ?_
            refine o_call ((pickE _ he6 (by decide) (by decide) hqi.1)) goes22 (ac (v_raw rfl) (ac (v_raw rfl) ac_nil)) rfl ?_
            refine o_nil ?_
            refine s_cut (fun S => ∃ T, ∃ M' : Mem, ∃ x' : Tp, ∃ v' : Nat, ∃ s' : Sb, ∃ c : Int, ∃ L : List Rec, S = ⟨setT (setT (setT (setT (setT (setT (setT (setT (setT (setT (setT (setT T 5 (.sl (l.map encD2) o)) 13 (bool true)) 14 (ptr t)) 16 (ptr y)) 17 (int (v' : Nat))) 18 (ptr B2)) 20 (ptr B3)) 22 (int (i : Nat))) 24 (int c)) 25 (int c)) 26 (.sl (L.map enc) false)) 27 (.sl (L.map enc) false), M'⟩ ∧ M.le M' ∧ M' t = some (.cells (tpC w (x'))) ∧ M' w = some (tpK (x')) ∧ M' y = some (.cells (ryC (v') (x'))) ∧ M' B2 = some (.cells (sbC (s'))) ∧ M' B3 = some (.cells (sbC (s'))) ∧ Tame v' x' ∧ SbOk s' ∧ L.length < 2 ^ 40 ∧ v' ≤ v + 1) ?_ ?_
            · skip
              refine s_block ?_
              refine s_seq ?_
              refine s_region ?_
              refine o_q (q_eql rfl rfl) rfl rfl rfl ?_
              refine o_q (q_as (v_raw rfl)) rfl rfl rfl ?_
              refine o_nil ?_
              refine s_cond rfl (fun h7 => ?_) (fun h7 => ?_)
              · have k7 := h7; try simp only [decide_eq_true_eq, decide_eq_false_iff_not, Bool.not_eq_true', Bool.not_eq_false', Bool.not_true, Bool.not_false, List.length_map, Decidable.not_not] at k7
                refine s_seq ?_
                refine s_region ?_
                refine o_q (q_mv ((by first | exact v_raw rfl | exact v_sptr rfl))) rfl rfl rfl ?_
                refine o_q (q_mv (v_raw rfl)) rfl rfl rfl ?_
                refine o_callx ((pubK t w _ hT (by omega) (by repeat first | exact Mem.upd_self _ _ _ | assumption | refine Mem.upd_ne (by assumption) ?_) (by repeat first | exact Mem.upd_self _ _ _ | assumption | refine Mem.upd_ne (by assumption) ?_) htw)) goes14 (ac ((by first | exact v_raw rfl | exact v_sptr rfl)) (ac (v_raw rfl) (ac (v_raw rfl) (ac (v_raw rfl) (ac (v_raw rfl) ac_nil))))) rfl ?_
                rintro r M' ⟨rfl, rfl⟩
                refine o_nil ?_
                refine s_seq ?_
                refine s_region ?_
                refine o_q (q_mv ((by first | exact v_raw rfl | exact v_sptr rfl))) rfl rfl rfl ?_
                refine o_q (q_mv (v_raw rfl)) rfl rfl rfl ?_
                refine o_callx ((pubY v y x _ (by repeat first | exact Mem.upd_self _ _ _ | assumption | refine Mem.upd_ne (by assumption) ?_) hen (by omega) (by omega))) goes29 (ac ((by first | exact v_raw rfl | exact v_sptr rfl)) (ac (v_raw rfl) (ac (v_raw rfl) (ac (v_raw rfl) (ac (v_raw rfl) ac_nil))))) rfl ?_
                rintro r M' ⟨rfl, rfl⟩
                refine o_nil ?_
                refine s_region ?_
                refine o_q (q_mv (v_raw rfl)) rfl rfl rfl ?_
                refine o_q (q_add rfl rfl (wrap64 (by omega) (by omega))) rfl rfl rfl ?_
                refine o_q (q_as (v_raw rfl)) rfl rfl rfl ?_
                refine o_nil ?_
                refine s_blk_normal ?_
                refine s_inv ?_
                exact ⟨_, _, _, v + 1, s, 0, [], St.mkT (kp (kp (kp (kp (kp (kp (kp (kp (kp (kp (kp (kp rfl rfl) rfl) rfl) rfl) rfl) rfl) rfl) rfl) rfl) rfl) rfl) rfl).symm, (by repeat first | exact hle | exact Mem.le_refl M | assumption | exact Mem.none_of_le hle (by assumption) | refine Mem.le_upd ?_ ?_), (by repeat first | exact Mem.upd_self _ _ _ | assumption | refine Mem.upd_ne (by assumption) ?_), (by repeat first | exact Mem.upd_self _ _ _ | assumption | refine Mem.upd_ne (by assumption) ?_), (by repeat first | exact Mem.upd_self _ _ _ | assumption | refine Mem.upd_ne (by assumption) ?_), (by repeat first | exact Mem.upd_self _ _ _ | assumption | refine Mem.upd_ne (by assumption) ?_), (by repeat first | exact Mem.upd_self _ _ _ | assumption | refine Mem.upd_ne (by assumption) ?_), (tame_pubK hT (by omega)).2, hok, (by show 0 < _; decide), by omega⟩
              · have k7 := h7; try simp only [decide_eq_true_eq, decide_eq_false_iff_not, Bool.not_eq_true', Bool.not_eq_false', Bool.not_true, Bool.not_false, List.length_map, Decidable.not_not] at k7
                refine s_seq ?_
                refine s_region ?_
                refine o_q (q_eql rfl rfl) rfl rfl rfl ?_
                refine o_q (q_as (v_raw rfl)) rfl rfl rfl ?_
                refine o_nil ?_
                refine s_cond rfl (fun h8 => ?_) (fun h8 => ?_)
                · have k8 := h8; try simp only [decide_eq_true_eq, decide_eq_false_iff_not, Bool.not_eq_true', Bool.not_eq_false', Bool.not_true, Bool.not_false, List.length_map, Decidable.not_not] at k8
                  refine s_seq ?_
                  refine s_region ?_
                  refine o_q (q_ldmw ag45 sz45 rfl (by repeat first | exact Mem.upd_self _ _ _ | assumption | refine Mem.upd_ne (by assumption) ?_) rfl rfl) rfl rfl rfl ?_
                  refine o_call (((snd26 s _).det)) goes26 (ac (v_agg rfl) ac_nil) rfl ?_
                  refine o_storew rfl (by repeat first | exact Mem.upd_self _ _ _ | assumption | refine Mem.upd_ne (by assumption) ?_) (by first | exact e_agg rfl | rfl) rfl sz45 rfl rfl rfl rfl ?_
                  refine o_nil ?_
                  refine s_region ?_
                  refine o_q (q_ldmw ag61 sz61 rfl (by repeat first | exact Mem.upd_self _ _ _ | assumption | refine Mem.upd_ne (by assumption) ?_) rfl rfl) rfl rfl rfl ?_
                  refine o_call (((snd32 s _).det)) goes32 (ac (v_agg rfl) ac_nil) rfl ?_
                  refine o_storew rfl (by repeat first | exact Mem.upd_self _ _ _ | assumption | refine Mem.upd_ne (by assumption) ?_) (by first | exact e_agg rfl | rfl) rfl sz61 rfl rfl rfl rfl ?_
                  refine o_nil ?_
                  refine s_blk_normal ?_
                  refine s_inv ?_
                  exact ⟨_, _, x, v, (attS s), 0, [], St.mkT (kp (kp (kp (kp (kp (kp (kp (kp (kp (kp (kp (kp rfl rfl) rfl) rfl) rfl) rfl) rfl) rfl) rfl) rfl) rfl) rfl) rfl).symm, (by repeat first | exact hle | exact Mem.le_refl M | assumption | exact Mem.none_of_le hle (by assumption) | refine Mem.le_upd ?_ ?_), (by repeat first | exact Mem.upd_self _ _ _ | assumption | refine Mem.upd_ne (by assumption) ?_), (by repeat first | exact Mem.upd_self _ _ _ | assumption | refine Mem.upd_ne (by assumption) ?_), (by repeat first | exact Mem.upd_self _ _ _ | assumption | refine Mem.upd_ne (by assumption) ?_), (by repeat first | exact Mem.upd_self _ _ _ | assumption | refine Mem.upd_ne (by assumption) ?_), (by repeat first | exact Mem.upd_self _ _ _ | assumption | refine Mem.upd_ne (by assumption) ?_), hT, hok, (by show 0 < _; decide), by omega⟩
                · have k8 := h8; try simp only [decide_eq_true_eq, decide_eq_false_iff_not, Bool.not_eq_true', Bool.not_eq_false', Bool.not_true, Bool.not_false, List.length_map, Decidable.not_not] at k8
                  refine s_seq ?_
                  refine s_region ?_
                  refine o_q (q_eql rfl rfl) rfl rfl rfl ?_
                  refine o_q (q_as (v_raw rfl)) rfl rfl rfl ?_
                  refine o_nil ?_
                  refine s_cond rfl (fun h9 => ?_) (fun h9 => ?_)
                  · have k9 := h9; try simp only [decide_eq_true_eq, decide_eq_false_iff_not, Bool.not_eq_true', Bool.not_eq_false', Bool.not_true, Bool.not_false, List.length_map, Decidable.not_not] at k9
                    refine s_seq ?_
                    refine s_region ?_
                    refine o_q (q_ldmw ag45 sz45 rfl (by repeat first | exact Mem.upd_self _ _ _ | assumption | refine Mem.upd_ne (by assumption) ?_) rfl rfl) rfl rfl rfl ?_
                    refine o_q (q_mv ((by first | exact v_raw rfl | exact v_sptr rfl))) rfl rfl rfl ?_
                    refine o_q (q_fr fo55_1 rfl) rfl rfl rfl ?_
                    refine o_q (q_ldm ag3 sz3 rfl (by repeat first | exact Mem.upd_self _ _ _ | assumption | refine Mem.upd_ne (by assumption) ?_) rfl (v_raw rfl)) rfl rfl rfl ?_
                    refine o_call (((snd24 s t w x l[i].n _ (by repeat first | exact Mem.upd_self _ _ _ | assumption | refine Mem.upd_ne (by assumption) ?_) (by repeat first | exact Mem.upd_self _ _ _ | assumption | refine Mem.upd_ne (by assumption) ?_) htw hT.srt (by omega) (fun r hr => by have := hT.off r hr; omega) (by have := hT.low; omega)).det)) goes24 (ac (v_agg rfl) (ac ((by first | exact v_raw rfl | exact v_sptr rfl)) (ac (v_raw rfl) ac_nil))) rfl ?_
                    refine o_q (q_mv (v_tup rfl)) rfl rfl rfl ?_
                    refine o_q (q_ext rfl rfl (v_agg rfl)) rfl rfl rfl ?_
                    refine o_q (q_ext rfl rfl (v_sl rfl)) rfl rfl rfl ?_
                    refine o_q (q_ext rfl rfl (v_raw rfl)) rfl rfl rfl ?_
                    refine o_storew rfl (by repeat first | exact Mem.upd_self _ _ _ | assumption | refine Mem.upd_ne (by assumption) ?_) (by first | exact e_agg rfl | rfl) rfl sz45 rfl rfl rfl rfl ?_
                    refine o_q (q_as (v_sl rfl)) rfl rfl rfl ?_
                    refine o_q (q_as (v_raw rfl)) rfl rfl rfl ?_
                    refine o_nil ?_
                    refine s_region ?_
                    refine o_q (q_ldmw ag61 sz61 rfl (by repeat first | exact Mem.upd_self _ _ _ | assumption | refine Mem.upd_ne (by assumption) ?_) rfl rfl) rfl rfl rfl ?_
                    refine o_q (q_mv ((by first | exact v_raw rfl | exact v_sptr rfl))) rfl rfl rfl ?_
                    refine o_q (q_fr fo55_1 rfl) rfl rfl rfl ?_
                    refine o_q (q_ldm ag3 sz3 rfl (by repeat first | exact Mem.upd_self _ _ _ | assumption | refine Mem.upd_ne (by assumption) ?_) rfl (v_raw rfl)) rfl rfl rfl ?_
                    refine o_call (((snd33 s y v x l[i].n _ (by repeat first | exact Mem.upd_self _ _ _ | assumption | refine Mem.upd_ne (by assumption) ?_) hok.1 hok.2 hT.srt (by omega) (fun r hr => by have := hT.off r hr; omega) (by have := hT.low; omega)).det)) goes33 (ac (v_agg rfl) (ac ((by first | exact v_raw rfl | exact v_sptr rfl)) (ac (v_raw rfl) ac_nil))) rfl ?_
                    refine o_q (q_mv (v_tup rfl)) rfl rfl rfl ?_
                    refine o_q (q_ext rfl rfl (v_agg rfl)) rfl rfl rfl ?_
                    refine o_q (q_ext rfl rfl (v_sl rfl)) rfl rfl rfl ?_
                    refine o_q (q_ext rfl rfl (v_raw rfl)) rfl rfl rfl ?_
                    refine o_storew rfl (by repeat first | exact Mem.upd_self _ _ _ | assumption | refine Mem.upd_ne (by assumption) ?_) (by first | exact e_agg rfl | rfl) rfl sz61 rfl rfl rfl rfl ?_
                    refine o_q (q_as (v_sl rfl)) rfl rfl rfl ?_
                    refine o_q (q_as (v_raw rfl)) rfl rfl rfl ?_
                    refine o_nil ?_
                    refine s_blk_normal ?_
                    refine s_inv ?_
                    exact ⟨_, _, x, v, (pollS s x l[i].n).1, (pollS s x l[i].n).2.2, (pollS s x l[i].n).2.1, St.mkT (kp (kp (kp (kp (kp (kp (kp (kp (kp (kp (kp (kp rfl rfl) rfl) rfl) rfl) rfl) rfl) rfl) rfl) rfl) rfl) rfl) rfl).symm, (by repeat first | exact hle | exact Mem.le_refl M | assumption | exact Mem.none_of_le hle (by assumption) | refine Mem.le_upd ?_ ?_), (by repeat first | exact Mem.upd_self _ _ _ | assumption | refine Mem.upd_ne (by assumption) ?_), (by repeat first | exact Mem.upd_self _ _ _ | assumption | refine Mem.upd_ne (by assumption) ?_), (by repeat first | exact Mem.upd_self _ _ _ | assumption | refine Mem.upd_ne (by assumption) ?_), (by repeat first | exact Mem.upd_self _ _ _ | assumption | refine Mem.upd_ne (by assumption) ?_), (by repeat first | exact Mem.upd_self _ _ _ | assumption | refine Mem.upd_ne (by assumption) ?_), hT, hpo.1, (by omega), by omega⟩
                  · have k9 := h9; try simp only [decide_eq_true_eq, decide_eq_false_iff_not, Bool.not_eq_true', Bool.not_eq_false', Bool.not_true, Bool.not_false, List.length_map, Decidable.not_not] at k9
                    refine s_seq ?_
                    refine s_region ?_
                    refine o_q (q_eql rfl rfl) rfl rfl rfl ?_
                    refine o_q (q_as (v_raw rfl)) rfl rfl rfl ?_
                    refine o_nil ?_
                    refine s_cond rfl (fun h10 => ?_) (fun h10 => ?_)
                    · have k10 := h10; try simp only [decide_eq_true_eq, decide_eq_false_iff_not, Bool.not_eq_true', Bool.not_eq_false', Bool.not_true, Bool.not_false, List.length_map, Decidable.not_not] at k10
                      refine s_seq ?_
                      refine s_region ?_
                      refine o_q (q_ldmw ag45 sz45 rfl (by repeat first | exact Mem.upd_self _ _ _ | assumption | refine Mem.upd_ne (by assumption) ?_) rfl rfl) rfl rfl rfl ?_
                      refine o_q (q_fr fo55_1 rfl) rfl rfl rfl ?_
                      refine o_q (q_ldm ag3 sz3 rfl (by repeat first | exact Mem.upd_self _ _ _ | assumption | refine Mem.upd_ne (by assumption) ?_) rfl (v_raw rfl)) rfl rfl rfl ?_
                      refine o_call (((snd25 s l[i].n _).det)) goes25 (ac (v_agg rfl) (ac (v_raw rfl) ac_nil)) rfl ?_
                      refine o_q (q_mv (v_tup rfl)) rfl rfl rfl ?_
                      refine o_q (q_ext rfl rfl (v_agg rfl)) rfl rfl rfl ?_
                      refine o_q (q_ext rfl rfl (v_raw rfl)) rfl rfl rfl ?_
                      refine o_storew rfl (by repeat first | exact Mem.upd_self _ _ _ | assumption | refine Mem.upd_ne (by assumption) ?_) (by first | exact e_agg rfl | rfl) rfl sz45 rfl rfl rfl rfl ?_
                      refine o_q (q_as (v_raw rfl)) rfl rfl rfl ?_
                      refine o_nil ?_
                      refine s_region ?_
                      refine o_q (q_ldmw ag61 sz61 rfl (by repeat first | exact Mem.upd_self _ _ _ | assumption | refine Mem.upd_ne (by assumption) ?_) rfl rfl) rfl rfl rfl ?_
                      refine o_q (q_fr fo55_1 rfl) rfl rfl rfl ?_
                      refine o_q (q_ldm ag3 sz3 rfl (by repeat first | exact Mem.upd_self _ _ _ | assumption | refine Mem.upd_ne (by assumption) ?_) rfl (v_raw rfl)) rfl rfl rfl ?_
                      refine o_call (((snd34 s l[i].n _ hok.1 hok.2).det)) goes34 (ac (v_agg rfl) (ac (v_raw rfl) ac_nil)) rfl ?_
                      refine o_q (q_mv (v_tup rfl)) rfl rfl rfl ?_
                      refine o_q (q_ext rfl rfl (v_agg rfl)) rfl rfl rfl ?_
                      refine o_q (q_ext rfl rfl (v_raw rfl)) rfl rfl rfl ?_
                      refine o_storew rfl (by repeat first | exact Mem.upd_self _ _ _ | assumption | refine Mem.upd_ne (by assumption) ?_) (by first | exact e_agg rfl | rfl) rfl sz61 rfl rfl rfl rfl ?_
                      refine o_q (q_as (v_raw rfl)) rfl rfl rfl ?_
                      refine o_nil ?_
                      refine s_blk_normal ?_
                      refine s_inv ?_
                      exact ⟨_, _, x, v, (ackS s l[i].n).1, (ackS s l[i].n).2, [], St.mkT (kp (kp (kp (kp (kp (kp (kp (kp (kp (kp (kp (kp rfl rfl) rfl) rfl) rfl) rfl) rfl) rfl) rfl) rfl) rfl) rfl) rfl).symm, (by repeat first | exact hle | exact Mem.le_refl M | assumption | exact Mem.none_of_le hle (by assumption) | refine Mem.le_upd ?_ ?_), (by repeat first | exact Mem.upd_self _ _ _ | assumption | refine Mem.upd_ne (by assumption) ?_), (by repeat first | exact Mem.upd_self _ _ _ | assumption | refine Mem.upd_ne (by assumption) ?_), (by repeat first | exact Mem.upd_self _ _ _ | assumption | refine Mem.upd_ne (by assumption) ?_), (by repeat first | exact Mem.upd_self _ _ _ | assumption | refine Mem.upd_ne (by assumption) ?_), (by repeat first | exact Mem.upd_self _ _ _ | assumption | refine Mem.upd_ne (by assumption) ?_), hT, (ok_ack hok _), (by show 0 < _; decide), by omega⟩
                    · have k10 := h10; try simp only [decide_eq_true_eq, decide_eq_false_iff_not, Bool.not_eq_true', Bool.not_eq_false', Bool.not_true, Bool.not_false, List.length_map, Decidable.not_not] at k10
                      refine s_seq ?_
                      refine s_region ?_
                      refine o_q (q_eql rfl rfl) rfl rfl rfl ?_
                      refine o_q (q_as (v_raw rfl)) rfl rfl rfl ?_
                      refine o_nil ?_
                      refine s_cond rfl (fun h11 => ?_) (fun h11 => ?_)
                      · have k11 := h11; try simp only [decide_eq_true_eq, decide_eq_false_iff_not, Bool.not_eq_true', Bool.not_eq_false', Bool.not_true, Bool.not_false, List.length_map, Decidable.not_not] at k11
                        refine s_seq ?_
                        refine s_region ?_
                        refine o_q (q_ldmw ag45 sz45 rfl (by repeat first | exact Mem.upd_self _ _ _ | assumption | refine Mem.upd_ne (by assumption) ?_) rfl rfl) rfl rfl rfl ?_
                        refine o_q (q_mv ((by first | exact v_raw rfl | exact v_sptr rfl))) rfl rfl rfl ?_
                        refine o_q (q_fr fo55_1 rfl) rfl rfl rfl ?_
                        refine o_q (q_ldm ag3 sz3 rfl (by repeat first | exact Mem.upd_self _ _ _ | assumption | refine Mem.upd_ne (by assumption) ?_) rfl (v_raw rfl)) rfl rfl rfl ?_
                        refine o_call (((snd27 s t w x l[i].n _ (by repeat first | exact Mem.upd_self _ _ _ | assumption | refine Mem.upd_ne (by assumption) ?_) (by repeat first | exact Mem.upd_self _ _ _ | assumption | refine Mem.upd_ne (by assumption) ?_) htw).det)) goes27 (ac (v_agg rfl) (ac ((by first | exact v_raw rfl | exact v_sptr rfl)) (ac (v_raw rfl) ac_nil))) rfl ?_
                        refine o_q (q_mv (v_tup rfl)) rfl rfl rfl ?_
                        refine o_q (q_ext rfl rfl (v_agg rfl)) rfl rfl rfl ?_
                        refine o_q (q_ext rfl rfl (v_raw rfl)) rfl rfl rfl ?_
                        refine o_storew rfl (by repeat first | exact Mem.upd_self _ _ _ | assumption | refine Mem.upd_ne (by assumption) ?_) (by first | exact e_agg rfl | rfl) rfl sz45 rfl rfl rfl rfl ?_
                        refine o_q (q_as (v_raw rfl)) rfl rfl rfl ?_
                        refine o_nil ?_
                        refine s_region ?_
                        refine o_q (q_ldmw ag61 sz61 rfl (by repeat first | exact Mem.upd_self _ _ _ | assumption | refine Mem.upd_ne (by assumption) ?_) rfl rfl) rfl rfl rfl ?_
                        refine o_q (q_mv ((by first | exact v_raw rfl | exact v_sptr rfl))) rfl rfl rfl ?_
                        refine o_q (q_fr fo55_1 rfl) rfl rfl rfl ?_
                        refine o_q (q_ldm ag3 sz3 rfl (by repeat first | exact Mem.upd_self _ _ _ | assumption | refine Mem.upd_ne (by assumption) ?_) rfl (v_raw rfl)) rfl rfl rfl ?_
                        refine o_call (((snd35 s y v x l[i].n _ (by repeat first | exact Mem.upd_self _ _ _ | assumption | refine Mem.upd_ne (by assumption) ?_) hok.1 hok.2).det)) goes35 (ac (v_agg rfl) (ac ((by first | exact v_raw rfl | exact v_sptr rfl)) (ac (v_raw rfl) ac_nil))) rfl ?_
                        refine o_q (q_mv (v_tup rfl)) rfl rfl rfl ?_
                        refine o_q (q_ext rfl rfl (v_agg rfl)) rfl rfl rfl ?_
                        refine o_q (q_ext rfl rfl (v_raw rfl)) rfl rfl rfl ?_
                        refine o_storew rfl (by repeat first | exact Mem.upd_self _ _ _ | assumption | refine Mem.upd_ne (by assumption) ?_) (by first | exact e_agg rfl | rfl) rfl sz61 rfl rfl rfl rfl ?_
                        refine o_q (q_as (v_raw rfl)) rfl rfl rfl ?_
                        refine o_nil ?_
                        refine s_blk_normal ?_
                        refine s_inv ?_
                        exact ⟨_, _, x, v, (seekS s x l[i].n).1, (seekS s x l[i].n).2, [], St.mkT (kp (kp (kp (kp (kp (kp (kp (kp (kp (kp (kp (kp rfl rfl) rfl) rfl) rfl) rfl) rfl) rfl) rfl) rfl) rfl) rfl) rfl).symm, (by repeat first | exact hle | exact Mem.le_refl M | assumption | exact Mem.none_of_le hle (by assumption) | refine Mem.le_upd ?_ ?_), (by repeat first | exact Mem.upd_self _ _ _ | assumption | refine Mem.upd_ne (by assumption) ?_), (by repeat first | exact Mem.upd_self _ _ _ | assumption | refine Mem.upd_ne (by assumption) ?_), (by repeat first | exact Mem.upd_self _ _ _ | assumption | refine Mem.upd_ne (by assumption) ?_), (by repeat first | exact Mem.upd_self _ _ _ | assumption | refine Mem.upd_ne (by assumption) ?_), (by repeat first | exact Mem.upd_self _ _ _ | assumption | refine Mem.upd_ne (by assumption) ?_), hT, (ok_seek hok _ _), (by show 0 < _; decide), by omega⟩
                      · have k11 := h11; try simp only [decide_eq_true_eq, decide_eq_false_iff_not, Bool.not_eq_true', Bool.not_eq_false', Bool.not_true, Bool.not_false, List.length_map, Decidable.not_not] at k11
                        refine s_seq ?_
                        refine s_region ?_
                        refine o_q (q_mv ((by first | exact v_raw rfl | exact v_sptr rfl))) rfl rfl rfl ?_
                        refine o_q (q_fr fo55_1 rfl) rfl rfl rfl ?_
                        refine o_q (q_ldm ag3 sz3 rfl (by repeat first | exact Mem.upd_self _ _ _ | assumption | refine Mem.upd_ne (by assumption) ?_) rfl (v_raw rfl)) rfl rfl rfl ?_
                        refine o_callx ((trimE (y := (trimT x l[i].n).1) (a := (trimT x l[i].n).2) t w _ rfl (by repeat first | exact Mem.upd_self _ _ _ | assumption | refine Mem.upd_ne (by assumption) ?_) (by repeat first | exact Mem.upd_self _ _ _ | assumption | refine Mem.upd_ne (by assumption) ?_) htw hT.srt (by omega))) goes18 (ac ((by first | exact v_raw rfl | exact v_sptr rfl)) (ac (v_raw rfl) ac_nil)) rfl ?_
                        rintro r M' ⟨rfl, rfl⟩
                        refine o_q (q_as (v_raw rfl)) rfl rfl rfl ?_
                        refine o_nil ?_
                        refine s_region ?_
                        refine o_q (q_mv ((by first | exact v_raw rfl | exact v_sptr rfl))) rfl rfl rfl ?_
                        refine o_q (q_fr fo55_1 rfl) rfl rfl rfl ?_
                        refine o_q (q_ldm ag3 sz3 rfl (by repeat first | exact Mem.upd_self _ _ _ | assumption | refine Mem.upd_ne (by assumption) ?_) rfl (v_raw rfl)) rfl rfl rfl ?_
                        refine o_callx (((snd36 y v x l[i].n _ (by repeat first | exact Mem.upd_self _ _ _ | assumption | refine Mem.upd_ne (by assumption) ?_) hT.srt (by omega)).leaves)) goes36 (ac ((by first | exact v_raw rfl | exact v_sptr rfl)) (ac (v_raw rfl) ac_nil)) rfl ?_
                        rintro r M' ⟨rfl, rfl⟩
                        refine o_q (q_as (v_raw rfl)) rfl rfl rfl ?_
                        refine o_nil ?_
                        refine s_blk_normal ?_
                        refine s_inv ?_
                        exact ⟨_, _, (trimT x l[i].n).1, v, s, (trimT x l[i].n).2, [], St.mkT (kp (kp (kp (kp (kp (kp (kp (kp (kp (kp (kp (kp rfl rfl) rfl) rfl) rfl) rfl) rfl) rfl) rfl) rfl) rfl) rfl) rfl).symm, (by repeat first | exact hle | exact Mem.le_refl M | assumption | exact Mem.none_of_le hle (by assumption) | refine Mem.le_upd ?_ ?_), (by repeat first | exact Mem.upd_self _ _ _ | assumption | refine Mem.upd_ne (by assumption) ?_), (by repeat first | exact Mem.upd_self _ _ _ | assumption | refine Mem.upd_ne (by assumption) ?_), (by repeat first | exact Mem.upd_self _ _ _ | assumption | refine Mem.upd_ne (by assumption) ?_), (by repeat first | exact Mem.upd_self _ _ _ | assumption | refine Mem.upd_ne (by assumption) ?_), (by repeat first | exact Mem.upd_self _ _ _ | assumption | refine Mem.upd_ne (by assumption) ?_), (tame_trimA hT _), hok, (by show 0 < _; decide), by omega⟩
            rintro S ⟨T, M', x', v', s', c, L, rfl, hle, ht, hw, hy, hB2, hB3, hT', hok', hLl, hvv⟩
            refine s_seq ?_
            refine s_region ?_
            refine o_q (q_mv (v_sl rfl)) rfl rfl rfl ?_
            refine o_q (q_mv (v_sl rfl)) rfl rfl rfl ?_
            refine o_call ((snd37 L L _ _ _ (by omega))) goes37 (ac (v_sl rfl) (ac (v_sl rfl) ac_nil)) rfl ?_
            refine o_q (q_as (v_raw rfl)) rfl rfl rfl ?_
            refine o_nil ?_
            refine s_seq ?_
            refine s_draw rfl ?_
            refine d_q rfl (q_mv (v_raw rfl)) rfl rfl rfl ?_
            refine d_q rfl (q_mv (v_raw rfl)) rfl rfl rfl ?_
            refine d_q rfl (q_neq rfl rfl) rfl rfl rfl ?_
            refine d_q rfl (q_mv (v_raw rfl)) rfl rfl rfl ?_
            refine d_cases (want := false) (j := 3) rfl rfl (fun h12 => ?_) (fun h12 => ?_)
            · have k12 := h12; try simp only [decide_eq_true_eq, decide_eq_false_iff_not, Bool.not_eq_true', Bool.not_eq_false', Bool.not_true, Bool.not_false, List.length_map, Decidable.not_not] at k12
              refine d_yes rfl (q_mv (v_raw rfl)) rfl rfl rfl h12 rfl rfl ?_
              refine d_yes rfl (q_not rfl) rfl rfl rfl h12 rfl rfl ?_
              refine d_q rfl (q_pick_c (t := false) rfl h12 (v_raw rfl)) rfl rfl rfl ?_
              refine d_q rfl (q_mv (v_raw rfl)) rfl rfl rfl ?_
              refine d_yes rfl (q_ldmw ag45 sz45 rfl (by repeat first | exact Mem.upd_self _ _ _ | assumption | refine Mem.upd_ne (by assumption) ?_) rfl rfl) rfl rfl rfl (by simp) rfl rfl ?_
              refine d_yes rfl (q_ldmw ag61 sz61 rfl (by repeat first | exact Mem.upd_self _ _ _ | assumption | refine Mem.upd_ne (by assumption) ?_) rfl rfl) rfl rfl rfl (by simp) rfl rfl ?_
              refine d_s rfl ?_
              refine o_yes rfl rfl rfl (by simp) ?_
              refine o_call (((snd31 s' _).det)) goes31 (ac (v_agg rfl) (ac (v_agg rfl) ac_nil)) rfl ?_
              refine o_nil ⟨(by simp [Mem.upd, *]), ?_⟩
              refine d_yes rfl (q_not rfl) rfl rfl rfl (by simp) rfl rfl ?_
              refine d_q rfl (q_pick_c (t := false) rfl (by simp) (v_raw rfl)) rfl rfl rfl ?_
              refine d_q rfl (q_mv (v_raw rfl)) rfl rfl rfl ?_
              refine d_yes rfl (q_ldmw ag45 sz45 rfl (by repeat first | exact Mem.upd_self _ _ _ | assumption | refine Mem.upd_ne (by assumption) ?_) rfl rfl) rfl rfl rfl rfl rfl rfl ?_
              refine d_yes rfl (q_ldmw ag61 sz61 rfl (by repeat first | exact Mem.upd_self _ _ _ | assumption | refine Mem.upd_ne (by assumption) ?_) rfl rfl) rfl rfl rfl rfl rfl rfl ?_
              refine d_s rfl ?_
              refine o_yes rfl rfl rfl rfl ?_
              refine o_call (((snd38 s' _).det)) goes38 (ac (v_agg rfl) ac_nil) rfl ?_
              refine o_nil ⟨(by simp [Mem.upd, *]), ?_⟩
              refine d_s rfl ?_
              refine o_yes rfl rfl rfl rfl ?_
              refine o_call (((snd39 s' _ hok'.1 hok'.2).det)) goes39 (ac (v_agg rfl) ac_nil) rfl ?_
              refine o_nil ⟨(by simp [Mem.upd, *]), ?_⟩
              refine d_yes rfl (q_bneq und4 rfl rfl) rfl rfl rfl rfl rfl rfl ?_
              refine d_q rfl (q_pick_c (t := false) rfl rfl (v_raw rfl)) rfl rfl rfl ?_
              refine d_nil ?_
              refine s_cond rfl (fun h13 => ?_) (fun h13 => ?_)
              · have k13 := h13; try simp only [decide_eq_true_eq, decide_eq_false_iff_not, Bool.not_eq_true', Bool.not_eq_false', Bool.not_true, Bool.not_false, List.length_map, Decidable.not_not] at k13
                simp at h13
              · have k13 := h13; try simp only [decide_eq_true_eq, decide_eq_false_iff_not, Bool.not_eq_true', Bool.not_eq_false', Bool.not_true, Bool.not_false, List.length_map, Decidable.not_not] at k13
                refine s_skip ?_
                refine s_blk_normal ?_
                refine s_region ?_
                refine o_q (q_mv (v_raw rfl)) rfl rfl rfl ?_
                refine o_q (q_add rfl rfl (wrap64 (by omega) (by omega))) rfl rfl rfl ?_
                refine o_q (q_as (v_raw rfl)) rfl rfl rfl ?_
                refine o_nil ?_
                refine s_inv ?_
                exact ⟨l.length - (i + 1), by omega, _, _, x', v', i + 1, s', St.mkT (kp (kp (kp (kp (kp (kp (kp (kp rfl rfl) rfl) rfl) rfl) rfl) rfl) rfl) rfl).symm, hle, ht, hw, hy, hB2, hB3, hT', hok', by omega, by omega, by omega, rfl⟩
            · have k12 := h12; try simp only [decide_eq_true_eq, decide_eq_false_iff_not, Bool.not_eq_true', Bool.not_eq_false', Bool.not_true, Bool.not_false, List.length_map, Decidable.not_not] at k12
              simp at h12
          · have k6 := h6; try simp only [decide_eq_true_eq, decide_eq_false_iff_not, Bool.not_eq_true', Bool.not_eq_false', Bool.not_true, Bool.not_false, List.length_map, Decidable.not_not] at k6
            refine s_exit ?_
            refine s_code_exit ?_
            refine s_inv_exit ?_
            refine s_blk_here ?_
            refine s_seq ?_
            refine s_region ?_
            refine o_q (q_mv (v_raw rfl)) rfl rfl rfl ?_
            refine o_q (q_as (v_raw rfl)) rfl rfl rfl ?_
            refine o_nil ?_
            refine s_ret ?_
            refine s_end ?_
            exact ⟨rfl, (by repeat first | exact hle | exact Mem.le_refl M | assumption | exact Mem.none_of_le hle (by assumption) | refine Mem.le_upd ?_ ?_)⟩
        · have k5 := h5; try simp only [decide_eq_true_eq, decide_eq_false_iff_not, Bool.not_eq_true', Bool.not_eq_false', Bool.not_true, Bool.not_false, List.length_map, Decidable.not_not] at k5
          refine o_no rfl rfl rfl rfl h5 ?_
          refine o_no rfl rfl rfl rfl h5 ?_
          refine o_q (q_pick_c (t := false) rfl h5 (v_raw rfl)) rfl rfl rfl ?_
          refine o_nil ?_
          refine s_else rfl rfl ?_
          refine s_exit ?_
          refine s_code_exit ?_
          refine s_inv_exit ?_
          refine s_blk_here ?_
          refine s_seq ?_
          refine s_region ?_
          refine o_q (q_mv (v_raw rfl)) rfl rfl rfl ?_
          refine o_q (q_as (v_raw rfl)) rfl rfl rfl ?_
          refine o_nil ?_
          refine s_ret ?_
          refine s_end ?_
          exact ⟨rfl, (by repeat first | exact hle | exact Mem.le_refl M | assumption | exact Mem.none_of_le hle (by assumption) | refine Mem.le_upd ?_ ?_)⟩
    · have k2 := h2; try simp only [decide_eq_true_eq, decide_eq_false_iff_not, Bool.not_eq_true', Bool.not_eq_false', Bool.not_true, Bool.not_false, List.length_map, Decidable.not_not] at k2
      simp at h2
end C15
