import Derived.Test.YtikalbdphkmclaaC17
/-! The laws of chapters 15 and 16, walked. -/
open Go Go.Proofs Go.Am
set_option linter.unusedVariables false
set_option linter.unusedSimpArgs false
set_option autoImplicit false
namespace C15

def tk4 : Nat → Nat → Option Nat := fun _ _ => none
def pl4 : Nat → List PStep
  | 8 => [.q 0, .q 1, .q 2, .q 3, .q 4, .q 5, .q 6, .q 7, .q 8, .q 9, .q 10, .q 11, .q 12, .q 13, .q 14, .q 15, .q 16, .q 17, .q 18, .q 19, .q 20, .s 21 [19, 18, 17, 16, 14, 13, 12, 11, 9, 8, 7, 6, 4, 3, 2, 1]]
  | 23 => [.q 0, .q 1, .q 2, .q 3, .q 4, .q 5, .q 6, .q 7, .q 8, .q 9, .q 10, .q 11, .q 12, .q 13, .q 14, .q 15, .q 16, .q 17, .q 18, .q 19, .q 20, .q 21, .q 22]
  | 25 => [.q 0, .q 1, .q 2, .q 3, .q 4, .q 5, .q 6, .q 7, .q 8, .q 9, .q 10, .q 11, .q 12, .q 13, .q 14]
  | _ => []
theorem cb4 : Try.f4.body.map (codeB Try.prog Try.f4.ntmps tk4 pl4) = some true := by kernel_rfl
theorem goes4 : goesB Try.prog 4 = true := by kernel_rfl
-- carillon/carillonlaw15.TopicTrims params ['[]carillonlaw15.Deed', 'int', 'int'] results [['t', 6]] own [] names ['0:deeds', '1:low', '2:upto', '3:deeds', '4:low', '5:upto', '7:head', '8:t', '9:_', '10:i', '11:all', '12:end', '13:l', '14:at', '15:i', '16:later', '17:k', '18:n', '19:code'] calls [11, 12, 13, 14, 15, 17, 18, 19, 20] paths 14

def laterB (l : List Rec) (i k : Nat) : Bool := (List.range k).any fun j => decide (i < j ∧ (l.getD j default).key = (l.getD i default).key)
theorem laterB_succ {l : List Rec} {i k : Nat} (hi : i < l.length) (hk : k < l.length) (hik : i < k) : laterB l i (k + 1) = (laterB l i k || decide (l[k].key = l[i].key)) := by
  unfold laterB
  rw [List.range_succ, List.any_append]
  simp only [List.any_cons, List.any_nil, Bool.or_false, getD_lt hi, getD_lt hk, hik, true_and]
theorem laterB_zero (l : List Rec) (i : Nat) : laterB l i (i + 1) = false := by
  unfold laterB
  rw [List.any_eq_false]
  intro j hj
  have := List.mem_range.1 hj
  simp only [decide_eq_true_eq]
  rintro ⟨h, -⟩
  omega
theorem superB_later {l : List Rec} {i : Nat} (hi : i < l.length) : superB l i = (decide (l[i].key ≠ emp) && laterB l i l.length) := by
  rw [Bool.eq_iff_iff, superB_iff hi]
  simp only [Bool.and_eq_true, decide_eq_true_eq, laterB, List.any_eq_true, List.mem_range, getD_lt hi]
  constructor
  · rintro ⟨h1, j, hj, h2, h3⟩
    exact ⟨h1, j, hj, h2, by rw [getD_lt hj]; exact h3⟩
  · rintro ⟨h1, j, hj, h2, h3⟩
    exact ⟨h1, j, hj, h2, by rw [getD_lt hj] at h3; exact h3⟩
theorem keepN_prefix (l : List Rec) (upto : Int) {i n : Nat} (h : i ≤ n) (hn : n ≤ l.length) : ∃ r, keepN l upto n = keepN l upto i ++ r := by
  induction n with
  | zero => exact ⟨[], by rw [List.append_nil, show i = 0 by omega]⟩
  | succ n ih =>
    rcases Nat.lt_or_ge n i with h1 | h1
    · exact ⟨[], by rw [List.append_nil, show i = n + 1 by omega]⟩
    · obtain ⟨r, hr⟩ := ih h1 (by omega)
      rw [keepN_succ l upto (by omega), hr]
      exact ⟨_, List.append_assoc ..⟩
theorem kept_get {l : List Rec} {upto : Int} {i : Nat} (hi : i < l.length) (hk : (superB l i && decide (l[i].off < upto)) = false) : ((keepN l upto l.length).map enc)[(keepN l upto i).length]? = some (enc l[i]) ∧ (keepN l upto (i + 1)).length = (keepN l upto i).length + 1 ∧ (keepN l upto i).length < (keepN l upto l.length).length := by
  have h1 : keepN l upto (i + 1) = keepN l upto i ++ [l[i]] := by
    rw [keepN_succ l upto hi, if_pos]
    rw [Bool.and_eq_false_iff] at hk
    rw [Bool.or_eq_true, Bool.not_eq_true']
    rcases hk with hk | hk
    · exact .inl hk
    · right; simp at hk; simpa using hk
  obtain ⟨r, hr⟩ := keepN_prefix l upto (i := i + 1) (n := l.length) hi (Nat.le_refl _)
  rw [hr, h1]
  refine ⟨by simp, by simp, by simp⟩
theorem gone_len {l : List Rec} {upto : Int} {i : Nat} (hi : i < l.length) (hk : (superB l i && decide (l[i].off < upto)) = true) : keepN l upto (i + 1) = keepN l upto i := by
  rw [keepN_succ l upto hi, if_neg, List.append_nil]
  rw [Bool.and_eq_true, decide_eq_true_eq] at hk
  rw [hk.1]
  simp only [Bool.not_true, Bool.false_or, decide_eq_true_eq]
  omega

theorem getD_drop {l : List Rec} {lo i : Nat} (h : lo ≤ i) : (l.drop lo).getD (i - lo) default = l.getD i default := by
  simp only [List.getD, List.getElem?_drop]
  rw [show lo + (i - lo) = i by omega]
theorem superB_drop {l : List Rec} {lo i : Nat} (h : lo ≤ i) : superB (l.drop lo) (i - lo) = superB l i := by
  unfold superB
  rw [getD_drop h, List.drop_drop, show lo + (i - lo + 1) = i + 1 by omega]
theorem trim_once {x : Tp} (h : Once x) (hz : x.low = 0) {lo : Nat} (hl : lo ≤ x.recs.length) : trimT x lo = (⟨x.name, lo, x.en, x.kvs, x.recs.drop lo⟩, 0) := by
  have he := h.en
  unfold trimT
  rw [if_neg (by omega)]
  split
  · rw [atN_once h, show min x.recs.length (max (lo : Int) 0).toNat = lo by omega]
  · have : lo = 0 := by omega
    subst this
    cases x
    simp only at hz
    subst hz
    simp
theorem pub_low {x y : Tp} {p : ByteArray} {seq : Int} {k v : ByteArray} {n c : Int} (h : pub x p seq k v = (y, n, c)) : y.low = x.low := by
  unfold pub at h
  split at h
  · split at h
    · split at h
      · cases h; rfl
      · split at h <;> (cases h; rfl)
    · cases h; rfl
  · cases h; rfl
theorem pub_told {x z y : Tp} {p : ByteArray} {seq : Int} {k v : ByteArray} {n c : Int} (hO : Once x) (hk : z.kvs = x.kvs) (he : z.en = x.en) (h : pub z p seq k v = (y, n, c)) : c ≠ 0 ∨ n ≤ x.en := by
  unfold pub at h
  split at h
  · split at h
    · rename_i l hl
      rw [hk] at hl
      obtain ⟨i, hi, h1, -⟩ := hO.some p l hl
      have := hO.en
      split at h
      · cases h; exact .inl (by decide)
      · split at h
        · cases h; right; omega
        · cases h; right; omega
    · cases h; right; omega
  · cases h; exact .inl (by decide)
theorem keepN_mem {l : List Rec} {upto : Int} {n : Nat} (hn : n ≤ l.length) {r : Rec} (h : r ∈ keepN l upto n) : r ∈ l := by
  unfold keepN at h
  obtain ⟨i, hi, rfl⟩ := List.mem_map.1 h
  have := List.mem_range.1 (List.mem_filter.1 hi).1
  rw [getD_lt (by omega)]
  exact List.getElem_mem _
theorem keepN_sorted {l : List Rec} {upto : Int} (h : Sorted l) : ∀ n, n ≤ l.length → Sorted (keepN l upto n) ∧ ∀ r ∈ keepN l upto n, ∀ j, ∀ hj : j < l.length, n ≤ j → r.off < l[j].off
  | 0, _ => ⟨List.Pairwise.nil, fun r hr => by simp [keepN] at hr⟩
  | n + 1, hn => by
    obtain ⟨h1, h2⟩ := keepN_sorted (upto := upto) h n (by omega)
    rw [keepN_succ l upto (by omega)]
    have hlt : ∀ j, ∀ hj : j < l.length, n + 1 ≤ j → l[n].off < l[j].off := fun j hj hnj => List.pairwise_iff_getElem.1 h n j (by omega) hj (by omega)
    split
    · refine ⟨List.pairwise_append.2 ⟨h1, List.pairwise_singleton .., fun a ha b hb => ?_⟩, fun r hr j hj hnj => ?_⟩
      · rw [List.mem_singleton.1 hb]; exact h2 a ha n (by omega) (Nat.le_refl _)
      · rcases List.mem_append.1 hr with hr | hr
        · exact h2 r hr j hj (by omega)
        · rw [List.mem_singleton.1 hr]; exact hlt j hj hnj
    · rw [List.append_nil]
      exact ⟨h1, fun r hr j hj hnj => h2 r hr j hj (by omega)⟩
theorem drop_get {l : List Rec} {lo i : Nat} (h : lo ≤ i) (hi : i < l.length) : (l.drop lo)[i - lo]'(by rw [List.length_drop]; omega) = l[i] := by
  rw [List.getElem_drop]
  congr 1; omega
set_option maxHeartbeats 4000000 in
set_option maxRecDepth 20000 in
theorem snd4 (l : List De) (o : Bool) (low upto : Int) (M : Mem) (hl : l.length < 2 ^ 60) (hlw : -2 ^ 63 ≤ low ∧ low < 2 ^ 63) : SoundCall Try.prog 4 [.sl (l.map encDe) o, int low, int upto] M fun r M' => r = bool true ∧ M.le M' := by
  have hnew : Once ⟨bs 116, 0, 0, [], []⟩ := once_new _
  refine SoundCall.go tk4 pl4 mixed Try.func4 cb4 rfl (Nat.le_of_ble_eq_true rfl) ?_
  refine s_seq ?_
  refine s_region ?_
  refine o_q (q_as (v_raw rfl)) rfl rfl rfl ?_
  refine o_nil ?_
  refine s_seq ?_
  refine s_region ?_
  refine o_callx (snd11 _) goes11 ac_nil rfl ?_
  rintro r M0 ⟨rfl, hle⟩
  refine o_q (q_as (v_raw rfl)) rfl rfl rfl ?_
  refine o_nil ?_
  refine s_seq ?_
  refine s_region ?_
  refine o_callx (newT (bs 116) _ (by kernel_rfl)) goes12 (ac (v_raw rfl) ac_nil) rfl ?_
  rintro r M' ⟨t, w, ht0, hw0, htw, rfl, rfl⟩
  have htw' := htw.symm
  have ht0' := Mem.none_of_le hle ht0
  have hw0' := Mem.none_of_le hle hw0
  refine o_q (q_mv (v_tup rfl)) rfl rfl rfl ?_
  refine o_q (q_ext rfl rfl ((by first | exact v_raw rfl | exact v_sptr rfl))) rfl rfl rfl ?_
  refine o_q (q_ext rfl rfl (v_raw rfl)) rfl rfl rfl ?_
  refine o_q (q_as ((by first | exact v_raw rfl | exact v_sptr rfl))) rfl rfl rfl ?_
  refine o_q (q_as (v_raw rfl)) rfl rfl rfl ?_
  refine o_nil ?_
  refine s_seq ?_
  refine s_seq ?_
  refine s_region ?_
  refine o_q (q_mv ((by first | exact v_raw rfl | exact v_sptr rfl))) rfl rfl rfl ?_
  refine o_q (q_peql und24 rfl rfl) rfl rfl rfl ?_
  refine o_nil ?_
  refine s_else rfl rfl ?_
  refine s_skip ?_
  refine s_seq ?_
  refine s_seq ?_
  refine s_region ?_
  refine o_q (q_as (v_raw rfl)) rfl rfl rfl ?_
  refine o_nil ?_
  refine s_cut (fun S => ∃ T, ∃ M' : Mem, ∃ x : Tp, S = ⟨setT (setT (setT (setT T 1 (int low)) 2 (int upto)) 7 (bool true)) 8 (ptr t), M'⟩ ∧ M.le M' ∧ M' t = some (.cells (tpC w x)) ∧ M' w = some (tpK x) ∧ Once x ∧ x.low = 0 ∧ x.recs.length ≤ 60) ?_ ?_
  · skip
    refine s_block ?_
    refine s_loop (fun m S => ∃ T, ∃ M' : Mem, ∃ x : Tp, ∃ i : Nat, S = ⟨setT (setT (setT (setT (setT (setT T 0 (.sl (l.map encDe) o)) 1 (int low)) 2 (int upto)) 7 (bool true)) 8 (ptr t)) 10 (int (i : Nat)), M'⟩ ∧ M.le M' ∧ M' t = some (.cells (tpC w x)) ∧ M' w = some (tpK x) ∧ Once x ∧ x.low = 0 ∧ x.recs.length ≤ i ∧ i ≤ 60 ∧ i ≤ l.length ∧ m = l.length - i) l.length ?_ ?_
    · exact ⟨_, _, ⟨bs 116, 0, 0, [], []⟩, 0, St.mkT (kp (kp (kp (kp (kp (kp rfl rfl) rfl) rfl) rfl) rfl) rfl).symm, (by repeat first | exact hle | exact Mem.le_refl M | assumption | exact Mem.none_of_le hle (by assumption) | refine Mem.le_upd ?_ ?_), (by repeat first | exact Mem.upd_self _ _ _ | assumption | refine Mem.upd_ne (by assumption) ?_), (by repeat first | exact Mem.upd_self _ _ _ | assumption | refine Mem.upd_ne (by assumption) ?_), hnew, rfl, by simp, by omega, by omega, rfl⟩
    rintro m S ⟨T, M', x, i, rfl, hle, ht, hw, hO, hx0, hri, hi60, hil, rfl⟩
    refine s_seq ?_
    refine s_seq ?_
    refine s_region ?_
    refine o_q (q_mv (v_raw rfl)) rfl rfl rfl ?_
    refine o_q (q_mv (v_sl rfl)) rfl rfl rfl ?_
    refine o_q (q_len rfl und22 rfl) rfl rfl rfl ?_
    refine o_q (q_lss rfl rfl) rfl rfl rfl ?_
    refine o_q (q_mv (v_raw rfl)) rfl rfl rfl ?_
    refine o_cases (want := true) (j := 4) rfl rfl (fun h1 => ?_) (fun h1 => ?_)
    · have k1 := h1; try simp only [decide_eq_true_eq, decide_eq_false_iff_not, Bool.not_eq_true', Bool.not_eq_false', Bool.not_true, Bool.not_false, List.length_map, Decidable.not_not] at k1
      refine o_yes rfl rfl rfl h1 ?_
      refine o_q (q_mv (v_raw rfl)) rfl rfl rfl ?_
      refine o_yes rfl rfl rfl h1 ?_
      refine o_q (q_lss rfl rfl) rfl rfl rfl ?_
      refine o_q (q_pick_c (t := true) rfl h1 (v_raw rfl)) rfl rfl rfl ?_
      refine o_nil ?_
      refine s_cond rfl (fun h2 => ?_) (fun h2 => ?_)
      · have k2 := h2; try simp only [decide_eq_true_eq, decide_eq_false_iff_not, Bool.not_eq_true', Bool.not_eq_false', Bool.not_true, Bool.not_false, List.length_map, Decidable.not_not] at k2
        obtain ⟨y, n, c, hy⟩ : ∃ y n c, pub x l[i].prod l[i].seq l[i].key l[i].val = (y, n, c) := ⟨_, _, _, rfl⟩
        have hP := once_pub hO hy
        have hxe := hO.en
        have hylow := pub_low hy
        have hyl : y.recs.length ≤ x.recs.length + 1 := by
          rcases hP.2 with ⟨-, a, -⟩ | ⟨-, a, -⟩ | ⟨-, a, -⟩ <;> rw [a] <;> simp
        refine s_skip ?_
        refine s_seq ?_
        refine s_block ?_
        refine s_draw rfl ?_
        refine d_q rfl (q_mv ((by first | exact v_raw rfl | exact v_sptr rfl))) rfl rfl rfl ?_
        refine d_q rfl (q_mv (v_sl rfl)) rfl rfl rfl ?_
        refine d_q rfl (q_mv (v_raw rfl)) rfl rfl rfl ?_
        refine d_q rfl (q_idx und22 sz30 rfl rfl (by omega) (gm i (by first | omega | simp)) rfl) rfl rfl rfl ?_
        refine d_q rfl (q_f fo30_1 rfl) rfl rfl rfl ?_
        refine d_q rfl (q_ld ag9 sz9 rfl (gm i (by first | omega | simp)) rfl (v_raw rfl)) rfl rfl rfl ?_
        refine d_q rfl (q_mv (v_sl rfl)) rfl rfl rfl ?_
        refine d_q rfl (q_mv (v_raw rfl)) rfl rfl rfl ?_
        refine d_q rfl (q_idx und22 sz30 rfl rfl (by omega) (gm i (by first | omega | simp)) rfl) rfl rfl rfl ?_
        refine d_q rfl (q_f fo30_2 rfl) rfl rfl rfl ?_
        refine d_q rfl (q_ld ag3 sz3 rfl (gm i (by first | omega | simp)) rfl (v_raw rfl)) rfl rfl rfl ?_
        refine d_q rfl (q_mv (v_sl rfl)) rfl rfl rfl ?_
        refine d_q rfl (q_mv (v_raw rfl)) rfl rfl rfl ?_
        refine d_q rfl (q_idx und22 sz30 rfl rfl (by omega) (gm i (by first | omega | simp)) rfl) rfl rfl rfl ?_
        refine d_q rfl (q_f fo30_3 rfl) rfl rfl rfl ?_
        refine d_q rfl (q_ld ag9 sz9 rfl (gm i (by first | omega | simp)) rfl (v_raw rfl)) rfl rfl rfl ?_
        refine d_q rfl (q_mv (v_sl rfl)) rfl rfl rfl ?_
        refine d_q rfl (q_mv (v_raw rfl)) rfl rfl rfl ?_
        refine d_q rfl (q_idx und22 sz30 rfl rfl (by omega) (gm i (by first | omega | simp)) rfl) rfl rfl rfl ?_
        refine d_q rfl (q_f fo30_4 rfl) rfl rfl rfl ?_
        refine d_q rfl (q_ld ag9 sz9 rfl (gm i (by first | omega | simp)) rfl (v_raw rfl)) rfl rfl rfl ?_
        refine d_s rfl ?_
        refine o_callx ((pubE t w _ hy (by repeat first | exact Mem.upd_self _ _ _ | assumption | refine Mem.upd_ne (by assumption) ?_) (by repeat first | exact Mem.upd_self _ _ _ | assumption | refine Mem.upd_ne (by assumption) ?_) htw (by omega) (by omega))) goes14 (ac ((by first | exact v_raw rfl | exact v_sptr rfl)) (ac (v_raw rfl) (ac (v_raw rfl) (ac (v_raw rfl) (ac (v_raw rfl) ac_nil))))) rfl ?_
        rintro r M' ⟨rfl, rfl⟩
        refine o_nil ⟨(by simp [Mem.upd, *]), ?_⟩
        refine d_nil ?_
        refine s_blk_normal ?_
        refine s_region ?_
        refine o_q (q_mv (v_raw rfl)) rfl rfl rfl ?_
        refine o_q (q_add rfl rfl (wrap64 (by omega) (by omega))) rfl rfl rfl ?_
        refine o_q (q_as (v_raw rfl)) rfl rfl rfl ?_
        refine o_nil ?_
        refine s_inv ?_
        exact ⟨l.length - (i + 1), by omega, _, _, y, i + 1, St.mkT (kp (kp (kp (kp (kp (kp rfl rfl) rfl) rfl) rfl) rfl) rfl).symm, (by repeat first | exact hle | exact Mem.le_refl M | assumption | exact Mem.none_of_le hle (by assumption) | refine Mem.le_upd ?_ ?_), (by repeat first | exact Mem.upd_self _ _ _ | assumption | refine Mem.upd_ne (by assumption) ?_), (by repeat first | exact Mem.upd_self _ _ _ | assumption | refine Mem.upd_ne (by assumption) ?_), hP.1, by omega, by omega, by omega, by omega, rfl⟩
      · have k2 := h2; try simp only [decide_eq_true_eq, decide_eq_false_iff_not, Bool.not_eq_true', Bool.not_eq_false', Bool.not_true, Bool.not_false, List.length_map, Decidable.not_not] at k2
        refine s_exit ?_
        refine s_code_exit ?_
        refine s_inv_exit ?_
        refine s_blk_here ?_
        refine s_inv ?_
        exact ⟨_, _, x, St.mkT (kp (kp (kp (kp rfl rfl) rfl) rfl) rfl).symm, hle, ht, hw, hO, hx0, by omega⟩
    · have k1 := h1; try simp only [decide_eq_true_eq, decide_eq_false_iff_not, Bool.not_eq_true', Bool.not_eq_false', Bool.not_true, Bool.not_false, List.length_map, Decidable.not_not] at k1
      refine o_no rfl rfl rfl rfl h1 ?_
      refine o_no rfl rfl rfl rfl h1 ?_
      refine o_q (q_pick_c (t := false) rfl h1 (v_raw rfl)) rfl rfl rfl ?_
      refine o_nil ?_
      refine s_else rfl rfl ?_
      refine s_exit ?_
      refine s_code_exit ?_
      refine s_inv_exit ?_
      refine s_blk_here ?_
      refine s_inv ?_
      exact ⟨_, _, x, St.mkT (kp (kp (kp (kp rfl rfl) rfl) rfl) rfl).symm, hle, ht, hw, hO, hx0, by omega⟩
  rintro S ⟨T, M', x, rfl, hle, ht, hw, hO, hx0, hr60⟩
  have hxe := hO.en
  obtain ⟨lo, hlo, hlo2⟩ := pickN low (x.recs.length + 1) (by omega)
  have hlo' : pick low (x.en + 1) = lo := by rw [show x.en + 1 = ((x.recs.length + 1 : Nat) : Int) by omega]; exact hlo
  have hdl : (x.recs.drop lo).length = x.recs.length - lo := List.length_drop
  have hkl := keepN_len (x.recs.drop lo) upto (x.recs.drop lo).length
  have hds : Sorted (x.recs.drop lo) := sorted_sub (once_sorted hO) (List.drop_sublist _ _)
  have hks : Sorted (keepN (x.recs.drop lo) upto (x.recs.drop lo).length) := (keepN_sorted hds _ (Nat.le_refl _)).1
  have hko : ∀ r ∈ (keepN (x.recs.drop lo) upto (x.recs.drop lo).length), 0 ≤ r.off := fun r hr => once_off hO r (List.mem_of_mem_drop (keepN_mem (Nat.le_refl _) hr))
  refine s_seq ?_
  refine s_region ?_
  refine o_q (q_mv ((by first | exact v_raw rfl | exact v_sptr rfl))) rfl rfl rfl ?_
  refine o_call ((readE (l := x.recs) t w _ (readL_all (once_off hO) (by omega)) (by repeat first | exact Mem.upd_self _ _ _ | assumption | refine Mem.upd_ne (by assumption) ?_) (once_sorted hO) (by omega))) goes15 (ac ((by first | exact v_raw rfl | exact v_sptr rfl)) (ac (v_raw rfl) (ac (v_raw rfl) ac_nil))) rfl ?_
  refine o_q (q_as (v_sl rfl)) rfl rfl rfl ?_
  refine o_nil ?_
  refine s_seq ?_
  refine s_region ?_
  refine o_q (q_mv ((by first | exact v_raw rfl | exact v_sptr rfl))) rfl rfl rfl ?_
  refine o_call (((snd13 t w x _ (by repeat first | exact Mem.upd_self _ _ _ | assumption | refine Mem.upd_ne (by assumption) ?_) (by repeat first | exact Mem.upd_self _ _ _ | assumption | refine Mem.upd_ne (by assumption) ?_) htw).det)) goes13 (ac ((by first | exact v_raw rfl | exact v_sptr rfl)) ac_nil) rfl ?_
  refine o_q (q_as (v_raw rfl)) rfl rfl rfl ?_
  refine o_nil ?_
  refine s_seq ?_
  refine s_region ?_
  refine o_q (q_mv (v_raw rfl)) rfl rfl rfl ?_
  refine o_q (q_mv (v_raw rfl)) rfl rfl rfl ?_
  refine o_q (q_add rfl rfl (wrap64 (by omega) (by omega))) rfl rfl rfl ?_
  refine o_call ((pickE17 _ hlo' (by omega) (by omega) hlw)) goes17 (ac (v_raw rfl) (ac (v_raw rfl) ac_nil)) rfl ?_
  refine o_q (q_as (v_raw rfl)) rfl rfl rfl ?_
  refine o_nil ?_
  refine s_seq ?_
  refine s_seq ?_
  refine s_region ?_
  refine o_q (q_mv ((by first | exact v_raw rfl | exact v_sptr rfl))) rfl rfl rfl ?_
  refine o_q (q_mv (v_raw rfl)) rfl rfl rfl ?_
  refine o_callx ((trimE t w _ (trim_once hO hx0 (by omega)) (by repeat first | exact Mem.upd_self _ _ _ | assumption | refine Mem.upd_ne (by assumption) ?_) (by repeat first | exact Mem.upd_self _ _ _ | assumption | refine Mem.upd_ne (by assumption) ?_) htw (once_sorted hO) (by omega))) goes18 (ac ((by first | exact v_raw rfl | exact v_sptr rfl)) (ac (v_raw rfl) ac_nil)) rfl ?_
  rintro r M' ⟨rfl, rfl⟩
  refine o_q (q_neq rfl rfl) rfl rfl rfl ?_
  refine o_q (q_mv (v_raw rfl)) rfl rfl rfl ?_
  refine o_yes rfl rfl rfl (by decide) ?_
  refine o_q (q_mv ((by first | exact v_raw rfl | exact v_sptr rfl))) rfl rfl rfl ?_
  refine o_yes rfl rfl rfl (by decide) ?_
  refine o_q (q_mv (v_raw rfl)) rfl rfl rfl ?_
  refine o_yes rfl rfl rfl (by decide) ?_
  refine o_callx ((compE (x := ⟨x.name, lo, x.en, x.kvs, (x.recs.drop lo)⟩) (y := ⟨x.name, lo, x.en, x.kvs, (keepN (x.recs.drop lo) upto (x.recs.drop lo).length)⟩) t w _ rfl (by repeat first | exact Mem.upd_self _ _ _ | assumption | refine Mem.upd_ne (by assumption) ?_) (by repeat first | exact Mem.upd_self _ _ _ | assumption | refine Mem.upd_ne (by assumption) ?_) htw (by show (x.recs.drop lo).length < _; omega))) goes19 (ac ((by first | exact v_raw rfl | exact v_sptr rfl)) (ac (v_raw rfl) ac_nil)) rfl ?_
  rintro r M' ⟨rfl, rfl⟩
  refine o_yes rfl rfl rfl (by decide) ?_
  refine o_q (q_neq rfl rfl) rfl rfl rfl ?_
  refine o_q (q_pick_c (t := false) rfl (by decide) (v_raw rfl)) rfl rfl rfl ?_
  refine o_q (q_mv (v_raw rfl)) rfl rfl rfl ?_
  refine o_yes rfl rfl rfl (by decide) ?_
  refine o_q (q_mv ((by first | exact v_raw rfl | exact v_sptr rfl))) rfl rfl rfl ?_
  refine o_yes rfl rfl rfl (by decide) ?_
  refine o_call (((snd20 t w ⟨x.name, lo, x.en, x.kvs, (keepN (x.recs.drop lo) upto (x.recs.drop lo).length)⟩ _ (by repeat first | exact Mem.upd_self _ _ _ | assumption | refine Mem.upd_ne (by assumption) ?_) (by repeat first | exact Mem.upd_self _ _ _ | assumption | refine Mem.upd_ne (by assumption) ?_) htw).det)) goes20 (ac ((by first | exact v_raw rfl | exact v_sptr rfl)) ac_nil) rfl ?_
  refine o_yes rfl rfl rfl (by decide) ?_
  refine o_q (q_mv (v_raw rfl)) rfl rfl rfl ?_
  refine o_yes rfl rfl rfl (by decide) ?_
  refine o_q (q_neq rfl rfl) rfl rfl rfl ?_
  refine o_q (q_pick_c (t := false) rfl (by decide) (v_raw rfl)) rfl rfl rfl ?_
  refine o_q (q_mv (v_raw rfl)) rfl rfl rfl ?_
  refine o_cases (want := false) (j := 16) rfl rfl (fun h3 => ?_) (fun h3 => ?_)
  · have k3 := h3; try simp only [decide_eq_true_eq, decide_eq_false_iff_not, Bool.not_eq_true', Bool.not_eq_false', Bool.not_true, Bool.not_false, List.length_map, Decidable.not_not] at k3
    refine o_yes rfl rfl rfl h3 ?_
    refine o_q (q_mv ((by first | exact v_raw rfl | exact v_sptr rfl))) rfl rfl rfl ?_
    refine o_yes rfl rfl rfl h3 ?_
    refine o_call (((snd13 t w ⟨x.name, lo, x.en, x.kvs, (keepN (x.recs.drop lo) upto (x.recs.drop lo).length)⟩ _ (by repeat first | exact Mem.upd_self _ _ _ | assumption | refine Mem.upd_ne (by assumption) ?_) (by repeat first | exact Mem.upd_self _ _ _ | assumption | refine Mem.upd_ne (by assumption) ?_) htw).det)) goes13 (ac ((by first | exact v_raw rfl | exact v_sptr rfl)) ac_nil) rfl ?_
    refine o_yes rfl rfl rfl h3 ?_
    refine o_q (q_mv (v_raw rfl)) rfl rfl rfl ?_
    refine o_yes rfl rfl rfl h3 ?_
    refine o_q (q_neq rfl rfl) rfl rfl rfl ?_
    refine o_q (q_pick_c (t := false) rfl h3 (v_raw rfl)) rfl rfl rfl ?_
    refine o_nil ?_
    refine s_cond rfl (fun h4 => ?_) (fun h4 => ?_)
    · have k4 := h4; try simp only [decide_eq_true_eq, decide_eq_false_iff_not, Bool.not_eq_true', Bool.not_eq_false', Bool.not_true, Bool.not_false, List.length_map, Decidable.not_not] at k4
      first | exact absurd rfl k4 | exact absurd trivial k4
    · have k4 := h4; try simp only [decide_eq_true_eq, decide_eq_false_iff_not, Bool.not_eq_true', Bool.not_eq_false', Bool.not_true, Bool.not_false, List.length_map, Decidable.not_not] at k4
      refine s_skip ?_
      refine s_seq ?_
      refine s_region ?_
      refine o_q (q_mv ((by first | exact v_raw rfl | exact v_sptr rfl))) rfl rfl rfl ?_
      refine o_call ((readE (x := ⟨x.name, lo, x.en, x.kvs, (keepN (x.recs.drop lo) upto (x.recs.drop lo).length)⟩) (l := (keepN (x.recs.drop lo) upto (x.recs.drop lo).length)) t w _ (readL_all (l := (keepN (x.recs.drop lo) upto (x.recs.drop lo).length)) hko (by omega)) (by repeat first | exact Mem.upd_self _ _ _ | assumption | refine Mem.upd_ne (by assumption) ?_) hks (by show (keepN (x.recs.drop lo) upto (x.recs.drop lo).length).length < _; omega))) goes15 (ac ((by first | exact v_raw rfl | exact v_sptr rfl)) (ac (v_raw rfl) (ac (v_raw rfl) ac_nil))) rfl ?_
      refine o_q (q_as (v_sl rfl)) rfl rfl rfl ?_
      refine o_nil ?_
      refine s_seq ?_
      refine s_region ?_
      refine o_q (q_as (v_raw rfl)) rfl rfl rfl ?_
      refine o_nil ?_
      refine s_seq ?_
      refine s_seq ?_
      refine s_region ?_
      refine o_q (q_as (v_raw rfl)) rfl rfl rfl ?_
      refine o_nil ?_
      refine s_block ?_
      refine s_loop (fun m S => ∃ T, ∃ M' : Mem, ∃ i : Nat, S = ⟨setT (setT (setT (setT (setT (setT (setT (setT (setT T 1 (int (lo : Nat))) 2 (int upto)) 7 (bool true)) 8 (ptr t)) 11 (.sl (x.recs.map enc) false)) 12 (int x.en)) 13 (.sl ((keepN (x.recs.drop lo) upto (x.recs.drop lo).length).map enc) false)) 14 (int ((keepN (x.recs.drop lo) upto (i - lo)).length : Nat))) 15 (int (i : Nat)), M'⟩ ∧ M.le M' ∧ M' t = some (.cells (tpC w (⟨x.name, lo, x.en, x.kvs, (keepN (x.recs.drop lo) upto (x.recs.drop lo).length)⟩))) ∧ M' w = some (tpK (⟨x.name, lo, x.en, x.kvs, (keepN (x.recs.drop lo) upto (x.recs.drop lo).length)⟩)) ∧ i ≤ x.recs.length ∧ m = x.recs.length - i) x.recs.length ?_ ?_
      · exact ⟨_, _, 0, St.mkT (kp (kp (kp (kp (kp (kp (kp (kp (kp rfl rfl) rfl) rfl) rfl) rfl) rfl) rfl) (by rw [Nat.zero_sub]; rfl)) rfl).symm, (by repeat first | exact hle | exact Mem.le_refl M | assumption | exact Mem.none_of_le hle (by assumption) | refine Mem.le_upd ?_ ?_), (by repeat first | exact Mem.upd_self _ _ _ | assumption | refine Mem.upd_ne (by assumption) ?_), (by repeat first | exact Mem.upd_self _ _ _ | assumption | refine Mem.upd_ne (by assumption) ?_), by omega, rfl⟩
      rintro m S ⟨T, M', i, rfl, hle, ht, hw, hi, rfl⟩
      have hatl := keepN_len (x.recs.drop lo) upto (i - lo)
      refine s_seq ?_
      refine s_seq ?_
      refine s_region ?_
      refine o_q (q_mv (v_raw rfl)) rfl rfl rfl ?_
      refine o_q (q_mv (v_sl rfl)) rfl rfl rfl ?_
      refine o_q (q_len rfl und28 rfl) rfl rfl rfl ?_
      refine o_q (q_lss rfl rfl) rfl rfl rfl ?_
      refine o_nil ?_
      refine s_cond rfl (fun h5 => ?_) (fun h5 => ?_)
      · have k5 := h5; try simp only [decide_eq_true_eq, decide_eq_false_iff_not, Bool.not_eq_true', Bool.not_eq_false', Bool.not_true, Bool.not_false, List.length_map, Decidable.not_not] at k5
        have hio := hO.off i (by omega)
        refine s_skip ?_
        refine s_seq ?_
        refine s_block ?_
        refine s_seq ?_
        refine s_region ?_
        refine o_q (q_as (v_raw rfl)) rfl rfl rfl ?_
        refine o_nil ?_
        refine s_seq ?_
        refine s_seq ?_
        refine s_region ?_
        refine o_q (q_mv (v_raw rfl)) rfl rfl rfl ?_
        refine o_q (q_add rfl rfl (wrap64 (by omega) (by omega))) rfl rfl rfl ?_
        refine o_q (q_as (v_raw rfl)) rfl rfl rfl ?_
        refine o_nil ?_
        refine s_cut (fun S => ∃ T, ∃ M' : Mem, S = ⟨setT (setT (setT (setT (setT (setT (setT (setT (setT (setT T 1 (int (lo : Nat))) 2 (int upto)) 7 (bool true)) 8 (ptr t)) 11 (.sl (x.recs.map enc) false)) 12 (int x.en)) 13 (.sl ((keepN (x.recs.drop lo) upto (x.recs.drop lo).length).map enc) false)) 14 (int ((keepN (x.recs.drop lo) upto (i - lo)).length : Nat))) 15 (int (i : Nat))) 16 (bool (superB x.recs i)), M'⟩ ∧ M.le M' ∧ M' t = some (.cells (tpC w (⟨x.name, lo, x.en, x.kvs, (keepN (x.recs.drop lo) upto (x.recs.drop lo).length)⟩))) ∧ M' w = some (tpK (⟨x.name, lo, x.en, x.kvs, (keepN (x.recs.drop lo) upto (x.recs.drop lo).length)⟩))) ?_ ?_
        · skip
          refine s_block ?_
          refine s_loop (fun m S => ∃ T, ∃ M' : Mem, ∃ k : Nat, S = ⟨setT (setT (setT (setT (setT (setT (setT (setT (setT (setT (setT T 1 (int (lo : Nat))) 2 (int upto)) 7 (bool true)) 8 (ptr t)) 11 (.sl (x.recs.map enc) false)) 12 (int x.en)) 13 (.sl ((keepN (x.recs.drop lo) upto (x.recs.drop lo).length).map enc) false)) 14 (int ((keepN (x.recs.drop lo) upto (i - lo)).length : Nat))) 15 (int (i : Nat))) 16 (bool (laterB x.recs i k && decide (x.recs[i].key ≠ emp)))) 17 (int (k : Nat)), M'⟩ ∧ M.le M' ∧ M' t = some (.cells (tpC w (⟨x.name, lo, x.en, x.kvs, (keepN (x.recs.drop lo) upto (x.recs.drop lo).length)⟩))) ∧ M' w = some (tpK (⟨x.name, lo, x.en, x.kvs, (keepN (x.recs.drop lo) upto (x.recs.drop lo).length)⟩)) ∧ i < k ∧ k ≤ x.recs.length ∧ m = x.recs.length - k) (x.recs.length - (i + 1)) ?_ ?_
          · exact ⟨_, _, i + 1, St.mkT (kp (kp (kp (kp (kp (kp (kp (kp (kp (kp (kp rfl rfl) rfl) rfl) rfl) rfl) rfl) rfl) rfl) rfl) (by rw [laterB_zero]; rfl)) rfl).symm, hle, ht, hw, by omega, by omega, rfl⟩
          rintro m S ⟨T, M', k, rfl, hle, ht, hw, hik, hk, rfl⟩
          refine s_seq ?_
          refine s_seq ?_
          refine s_region ?_
          refine o_q (q_mv (v_raw rfl)) rfl rfl rfl ?_
          refine o_q (q_mv (v_sl rfl)) rfl rfl rfl ?_
          refine o_q (q_len rfl und28 rfl) rfl rfl rfl ?_
          refine o_q (q_lss rfl rfl) rfl rfl rfl ?_
          refine o_nil ?_
          refine s_cond rfl (fun h6 => ?_) (fun h6 => ?_)
          · have k6 := h6; try simp only [decide_eq_true_eq, decide_eq_false_iff_not, Bool.not_eq_true', Bool.not_eq_false', Bool.not_true, Bool.not_false, List.length_map, Decidable.not_not] at k6
            refine s_skip ?_
            refine s_seq ?_
            refine s_block ?_
            refine s_draw rfl ?_
            refine d_q rfl (q_mv (v_raw rfl)) rfl rfl rfl ?_
            refine d_q rfl (q_mv (v_raw rfl)) rfl rfl rfl ?_
            refine d_cases (want := false) (j := 1) rfl rfl (fun h7 => ?_) (fun h7 => ?_)
            · have k7 := h7; try simp only [decide_eq_true_eq, decide_eq_false_iff_not, Bool.not_eq_true', Bool.not_eq_false', Bool.not_true, Bool.not_false, List.length_map, Decidable.not_not] at k7
              refine d_yes rfl (q_mv (v_sl rfl)) rfl rfl rfl h7 rfl rfl ?_
              refine d_yes rfl (q_mv (v_raw rfl)) rfl rfl rfl h7 rfl rfl ?_
              refine d_yes rfl (q_idx und28 sz35 rfl rfl (by omega) (gm k (by first | omega | simp)) rfl) rfl rfl rfl h7 rfl rfl ?_
              refine d_yes rfl (q_f fo35_3 rfl) rfl rfl rfl h7 rfl rfl ?_
              refine d_yes rfl (q_ld ag9 sz9 rfl (gm k (by first | omega | simp)) rfl (v_raw rfl)) rfl rfl rfl h7 rfl rfl ?_
              refine d_yes rfl (q_mv (v_sl rfl)) rfl rfl rfl h7 rfl rfl ?_
              refine d_yes rfl (q_mv (v_raw rfl)) rfl rfl rfl h7 rfl rfl ?_
              refine d_yes rfl (q_idx und28 sz35 rfl rfl (by omega) (gm i (by first | omega | simp)) rfl) rfl rfl rfl h7 rfl rfl ?_
              refine d_yes rfl (q_f fo35_3 rfl) rfl rfl rfl h7 rfl rfl ?_
              refine d_yes rfl (q_ld ag9 sz9 rfl (gm i (by first | omega | simp)) rfl (v_raw rfl)) rfl rfl rfl h7 rfl rfl ?_
              refine d_yes rfl (q_seql rfl rfl) rfl rfl rfl h7 rfl rfl ?_
              refine d_yes rfl (q_mv (v_raw rfl)) rfl rfl rfl h7 rfl rfl ?_
              refine d_cases (want := true) (j := 13) rfl rfl (fun h8 => ?_) (fun h8 => ?_)
              · have k8 := h8; try simp only [decide_eq_true_eq, decide_eq_false_iff_not, Bool.not_eq_true', Bool.not_eq_false', Bool.not_true, Bool.not_false, List.length_map, Decidable.not_not] at k8
                refine d_yes rfl (q_mv (v_sl rfl)) rfl rfl rfl h8 rfl rfl ?_
                refine d_yes rfl (q_mv (v_raw rfl)) rfl rfl rfl h8 rfl rfl ?_
                refine d_yes rfl (q_idx und28 sz35 rfl rfl (by omega) (gm i (by first | omega | simp)) rfl) rfl rfl rfl h8 rfl rfl ?_
                refine d_yes rfl (q_f fo35_3 rfl) rfl rfl rfl h8 rfl rfl ?_
                refine d_yes rfl (q_ld ag9 sz9 rfl (gm i (by first | omega | simp)) rfl (v_raw rfl)) rfl rfl rfl h8 rfl rfl ?_
                refine d_yes rfl (q_sneq rfl rfl) rfl rfl rfl h8 rfl rfl ?_
                refine d_yes rfl (q_pick_c (t := true) rfl h8 (v_raw rfl)) rfl rfl rfl h7 rfl rfl ?_
                refine d_q rfl (q_pick_c (t := false) rfl h7 (v_raw rfl)) rfl rfl rfl ?_
                refine d_q rfl (q_as (v_raw rfl)) rfl rfl rfl ?_
                refine d_nil ?_
                refine s_blk_normal ?_
                refine s_region ?_
                refine o_q (q_mv (v_raw rfl)) rfl rfl rfl ?_
                refine o_q (q_add rfl rfl (wrap64 (by omega) (by omega))) rfl rfl rfl ?_
                refine o_q (q_as (v_raw rfl)) rfl rfl rfl ?_
                refine o_nil ?_
                refine s_inv ?_
                exact ⟨x.recs.length - (k + 1), by omega, _, _, k + 1, St.mkT (kp (kp (kp (kp (kp (kp (kp (kp (kp (kp (kp rfl rfl) rfl) rfl) rfl) rfl) rfl) rfl) rfl) rfl) (congrArg bool (by rw [laterB_succ (by omega) (by omega) hik, decide_eq_true k8, Bool.or_true, Bool.true_and]; by_cases hke : x.recs[i].key = emp <;> (first | exact decide_not.symm | (simp [hke]; done))))) rfl).symm, hle, ht, hw, by omega, by omega, rfl⟩
              · have k8 := h8; try simp only [decide_eq_true_eq, decide_eq_false_iff_not, Bool.not_eq_true', Bool.not_eq_false', Bool.not_true, Bool.not_false, List.length_map, Decidable.not_not] at k8
                refine d_no rfl rfl rfl rfl h8 rfl ?_
                refine d_no rfl rfl rfl rfl h8 rfl ?_
                refine d_no rfl rfl rfl rfl h8 rfl ?_
                refine d_no rfl rfl rfl rfl h8 rfl ?_
                refine d_no rfl rfl rfl rfl h8 rfl ?_
                refine d_no rfl rfl rfl rfl h8 rfl ?_
                refine d_yes rfl (q_pick_c (t := false) rfl h8 (v_raw rfl)) rfl rfl rfl h7 rfl rfl ?_
                refine d_q rfl (q_pick_c (t := false) rfl h7 (v_raw rfl)) rfl rfl rfl ?_
                refine d_q rfl (q_as (v_raw rfl)) rfl rfl rfl ?_
                refine d_nil ?_
                refine s_blk_normal ?_
                refine s_region ?_
                refine o_q (q_mv (v_raw rfl)) rfl rfl rfl ?_
                refine o_q (q_add rfl rfl (wrap64 (by omega) (by omega))) rfl rfl rfl ?_
                refine o_q (q_as (v_raw rfl)) rfl rfl rfl ?_
                refine o_nil ?_
                refine s_inv ?_
                exact ⟨x.recs.length - (k + 1), by omega, _, _, k + 1, St.mkT (kp (kp (kp (kp (kp (kp (kp (kp (kp (kp (kp rfl rfl) rfl) rfl) rfl) rfl) rfl) rfl) rfl) rfl) (congrArg bool (by rw [laterB_succ (by omega) (by omega) hik]; simp_all [emp]))) rfl).symm, hle, ht, hw, by omega, by omega, rfl⟩
            · have k7 := h7; try simp only [decide_eq_true_eq, decide_eq_false_iff_not, Bool.not_eq_true', Bool.not_eq_false', Bool.not_true, Bool.not_false, List.length_map, Decidable.not_not] at k7
              refine d_no rfl rfl rfl rfl h7 rfl ?_
              refine d_no rfl rfl rfl rfl h7 rfl ?_
              refine d_no rfl rfl rfl rfl h7 rfl ?_
              refine d_no rfl rfl rfl rfl h7 rfl ?_
              refine d_no rfl rfl rfl rfl h7 rfl ?_
              refine d_no rfl rfl rfl rfl h7 rfl ?_
              refine d_no rfl rfl rfl rfl h7 rfl ?_
              refine d_no rfl rfl rfl rfl h7 rfl ?_
              refine d_no rfl rfl rfl rfl h7 rfl ?_
              refine d_no rfl rfl rfl rfl h7 rfl ?_
              refine d_no rfl rfl rfl rfl h7 rfl ?_
              refine d_no rfl rfl rfl rfl h7 rfl ?_
              refine d_skip rfl rfl rfl rfl rfl ?_
              refine d_skip rfl rfl rfl rfl rfl ?_
              refine d_skip rfl rfl rfl rfl rfl ?_
              refine d_skip rfl rfl rfl rfl rfl ?_
              refine d_skip rfl rfl rfl rfl rfl ?_
              refine d_skip rfl rfl rfl rfl rfl ?_
              refine d_no rfl rfl rfl rfl h7 rfl ?_
              refine d_q rfl (q_pick_c (t := true) rfl h7 (v_raw rfl)) rfl rfl rfl ?_
              refine d_q rfl (q_as (v_raw rfl)) rfl rfl rfl ?_
              refine d_nil ?_
              refine s_blk_normal ?_
              refine s_region ?_
              refine o_q (q_mv (v_raw rfl)) rfl rfl rfl ?_
              refine o_q (q_add rfl rfl (wrap64 (by omega) (by omega))) rfl rfl rfl ?_
              refine o_q (q_as (v_raw rfl)) rfl rfl rfl ?_
              refine o_nil ?_
              refine s_inv ?_
              exact ⟨x.recs.length - (k + 1), by omega, _, _, k + 1, St.mkT (kp (kp (kp (kp (kp (kp (kp (kp (kp (kp (kp rfl rfl) rfl) rfl) rfl) rfl) rfl) rfl) rfl) rfl) (congrArg bool (by rw [laterB_succ (by omega) (by omega) hik]; simp_all [emp]))) rfl).symm, hle, ht, hw, by omega, by omega, rfl⟩
          · have k6 := h6; try simp only [decide_eq_true_eq, decide_eq_false_iff_not, Bool.not_eq_true', Bool.not_eq_false', Bool.not_true, Bool.not_false, List.length_map, Decidable.not_not] at k6
            refine s_exit ?_
            refine s_code_exit ?_
            refine s_inv_exit ?_
            refine s_blk_here ?_
            refine s_inv ?_
            obtain rfl : k = x.recs.length := by omega
            exact ⟨_, _, St.mkT (kp (kp (kp (kp (kp (kp (kp (kp (kp (kp rfl rfl) rfl) rfl) rfl) rfl) rfl) rfl) rfl) rfl) (congrArg bool (by rw [superB_later (by omega), Bool.and_comm]))).symm, hle, ht, hw⟩
        rintro S ⟨T, M', rfl, hle, ht, hw⟩
        refine s_seq ?_
        refine s_seq ?_
        refine s_region ?_
        refine o_q (q_mv (v_sl rfl)) rfl rfl rfl ?_
        refine o_q (q_mv (v_raw rfl)) rfl rfl rfl ?_
        refine o_q (q_idx und28 sz35 rfl rfl (by omega) (gm i (by first | omega | simp)) rfl) rfl rfl rfl ?_
        refine o_q (q_f fo35_0 rfl) rfl rfl rfl ?_
        refine o_q (q_ld ag3 sz3 rfl (gm i (by first | omega | simp)) rfl (v_raw rfl)) rfl rfl rfl ?_
        refine o_q (q_mv (v_raw rfl)) rfl rfl rfl ?_
        refine o_q (q_lss rfl rfl) rfl rfl rfl ?_
        refine o_q (q_mv (v_raw rfl)) rfl rfl rfl ?_
        refine o_cases (want := false) (j := 7) rfl rfl (fun h9 => ?_) (fun h9 => ?_)
        · have k9 := h9; try simp only [decide_eq_true_eq, decide_eq_false_iff_not, Bool.not_eq_true', Bool.not_eq_false', Bool.not_true, Bool.not_false, List.length_map, Decidable.not_not] at k9
          have hilo : lo ≤ i := by omega
          refine o_yes rfl rfl rfl h9 ?_
          refine o_q (q_mv (v_raw rfl)) rfl rfl rfl ?_
          refine o_yes rfl rfl rfl h9 ?_
          refine o_q (q_mv (v_raw rfl)) rfl rfl rfl ?_
          refine o_cases (want := true) (j := 9) rfl rfl (fun h10 => ?_) (fun h10 => ?_)
          · have k10 := h10; try simp only [decide_eq_true_eq, decide_eq_false_iff_not, Bool.not_eq_true', Bool.not_eq_false', Bool.not_true, Bool.not_false, List.length_map, Decidable.not_not] at k10
            refine o_yes rfl rfl rfl h10 ?_
            refine o_q (q_mv (v_sl rfl)) rfl rfl rfl ?_
            refine o_yes rfl rfl rfl h10 ?_
            refine o_q (q_mv (v_raw rfl)) rfl rfl rfl ?_
            refine o_yes rfl rfl rfl h10 ?_
            refine o_q (q_idx und28 sz35 rfl rfl (by omega) (gm i (by first | omega | simp)) rfl) rfl rfl rfl ?_
            refine o_yes rfl rfl rfl h10 ?_
            refine o_q (q_f fo35_0 rfl) rfl rfl rfl ?_
            refine o_yes rfl rfl rfl h10 ?_
            refine o_q (q_ld ag3 sz3 rfl (gm i (by first | omega | simp)) rfl (v_raw rfl)) rfl rfl rfl ?_
            refine o_yes rfl rfl rfl h10 ?_
            refine o_q (q_mv (v_raw rfl)) rfl rfl rfl ?_
            refine o_yes rfl rfl rfl h10 ?_
            refine o_q (q_lss rfl rfl) rfl rfl rfl ?_
            refine o_yes rfl rfl rfl h9 ?_
            refine o_q (q_pick_c (t := true) rfl h10 (v_raw rfl)) rfl rfl rfl ?_
            refine o_q (q_pick_c (t := false) rfl h9 (v_raw rfl)) rfl rfl rfl ?_
            refine o_nil ?_
            refine s_cond rfl (fun h11 => ?_) (fun h11 => ?_)
            · have k11 := h11; try simp only [decide_eq_true_eq, decide_eq_false_iff_not, Bool.not_eq_true', Bool.not_eq_false', Bool.not_true, Bool.not_false, List.length_map, Decidable.not_not] at k11
              refine s_exit ?_
              refine s_code_exit ?_
              refine s_blk_here ?_
              refine s_region ?_
              refine o_q (q_mv (v_raw rfl)) rfl rfl rfl ?_
              refine o_q (q_add rfl rfl (wrap64 (by omega) (by omega))) rfl rfl rfl ?_
              refine o_q (q_as (v_raw rfl)) rfl rfl rfl ?_
              refine o_nil ?_
              refine s_inv ?_
              exact ⟨x.recs.length - (i + 1), by omega, _, _, i + 1, St.mkT (kp (kp (kp (kp (kp (kp (kp (kp (kp rfl rfl) rfl) rfl) rfl) rfl) rfl) rfl) (by rw [show i + 1 - lo = (i - lo) + 1 by omega, gone_len (by omega) (by rw [superB_drop hilo, drop_get hilo (by omega), h10, decide_eq_true k11]; rfl)]; rfl)) rfl).symm, hle, ht, hw, by omega, rfl⟩
            · have k11 := h11; try simp only [decide_eq_true_eq, decide_eq_false_iff_not, Bool.not_eq_true', Bool.not_eq_false', Bool.not_true, Bool.not_false, List.length_map, Decidable.not_not] at k11
              have kg := kept_get (l := (x.recs.drop lo)) (upto := upto) (i := i - lo) (by omega) (by rw [drop_get hilo (by omega), decide_eq_false k11, Bool.and_false])
              refine s_skip ?_
              refine s_seq ?_
              refine s_seq ?_
              refine s_draw rfl ?_
              refine d_q rfl (q_mv (v_raw rfl)) rfl rfl rfl ?_
              refine d_q rfl (q_mv (v_sl rfl)) rfl rfl rfl ?_
              refine d_q rfl (q_len rfl und28 rfl) rfl rfl rfl ?_
              refine d_q rfl (q_eql rfl rfl) rfl rfl rfl ?_
              refine d_q rfl (q_mv (v_raw rfl)) rfl rfl rfl ?_
              refine d_cases (want := false) (j := 4) rfl rfl (fun h12 => ?_) (fun h12 => ?_)
              · have k12 := h12; try simp only [decide_eq_true_eq, decide_eq_false_iff_not, Bool.not_eq_true', Bool.not_eq_false', Bool.not_true, Bool.not_false, List.length_map, Decidable.not_not] at k12
                refine d_yes rfl (q_mv (v_sl rfl)) rfl rfl rfl h12 rfl rfl ?_
                refine d_yes rfl (q_mv (v_raw rfl)) rfl rfl rfl h12 rfl rfl ?_
                refine d_yes rfl (q_idx und28 sz35 rfl rfl (by omega) kg.1 rfl) rfl rfl rfl h12 rfl rfl ?_
                refine d_yes rfl (q_lde ag35 sz35 rfl kg.1 rfl rfl) rfl rfl rfl h12 rfl rfl ?_
                refine d_yes rfl (q_mv (v_sl rfl)) rfl rfl rfl h12 rfl rfl ?_
                refine d_yes rfl (q_mv (v_raw rfl)) rfl rfl rfl h12 rfl rfl ?_
                refine d_yes rfl (q_idx und28 sz35 rfl rfl (by omega) (gm i (by first | omega | simp)) rfl) rfl rfl rfl h12 rfl rfl ?_
                refine d_yes rfl (q_lde ag35 sz35 rfl (gm i (by first | omega | simp)) rfl rfl) rfl rfl rfl h12 rfl rfl ?_
                refine d_yes rfl (q_bin' rfl rfl (binNeq _ _ _ _)) rfl rfl rfl h12 rfl rfl ?_
                refine d_q rfl (q_pick_c (t := false) rfl h12 (v_raw rfl)) rfl rfl rfl ?_
                refine d_nil ?_
                refine s_cond rfl (fun h13 => ?_) (fun h13 => ?_)
                · have k13 := h13; try simp only [decide_eq_true_eq, decide_eq_false_iff_not, Bool.not_eq_true', Bool.not_eq_false', Bool.not_true, Bool.not_false, List.length_map, Decidable.not_not] at k13
                  exact absurd (drop_get hilo (by omega)) k13
                · have k13 := h13; try simp only [decide_eq_true_eq, decide_eq_false_iff_not, Bool.not_eq_true', Bool.not_eq_false', Bool.not_true, Bool.not_false, List.length_map, Decidable.not_not] at k13
                  refine s_skip ?_
                  refine s_region ?_
                  refine o_q (q_mv (v_raw rfl)) rfl rfl rfl ?_
                  refine o_q (q_add rfl rfl (wrap64 (by omega) (by omega))) rfl rfl rfl ?_
                  refine o_q (q_as (v_raw rfl)) rfl rfl rfl ?_
                  refine o_nil ?_
                  refine s_blk_normal ?_
                  refine s_region ?_
                  refine o_q (q_mv (v_raw rfl)) rfl rfl rfl ?_
                  refine o_q (q_add rfl rfl (wrap64 (by omega) (by omega))) rfl rfl rfl ?_
                  refine o_q (q_as (v_raw rfl)) rfl rfl rfl ?_
                  refine o_nil ?_
                  refine s_inv ?_
                  exact ⟨x.recs.length - (i + 1), by omega, _, _, i + 1, St.mkT (kp (kp (kp (kp (kp (kp (kp (kp (kp rfl rfl) rfl) rfl) rfl) rfl) rfl) rfl) (by rw [show i + 1 - lo = (i - lo) + 1 by omega, kg.2.1]; rfl)) rfl).symm, hle, ht, hw, by omega, rfl⟩
              · have k12 := h12; try simp only [decide_eq_true_eq, decide_eq_false_iff_not, Bool.not_eq_true', Bool.not_eq_false', Bool.not_true, Bool.not_false, List.length_map, Decidable.not_not] at k12
                exfalso; have := kg.2.2; omega
          · have k10 := h10; try simp only [decide_eq_true_eq, decide_eq_false_iff_not, Bool.not_eq_true', Bool.not_eq_false', Bool.not_true, Bool.not_false, List.length_map, Decidable.not_not] at k10
            have kg := kept_get (l := (x.recs.drop lo)) (upto := upto) (i := i - lo) (by omega) (by rw [superB_drop hilo, h10]; rfl)
            refine o_no rfl rfl rfl rfl h10 ?_
            refine o_no rfl rfl rfl rfl h10 ?_
            refine o_no rfl rfl rfl rfl h10 ?_
            refine o_no rfl rfl rfl rfl h10 ?_
            refine o_no rfl rfl rfl rfl h10 ?_
            refine o_no rfl rfl rfl rfl h10 ?_
            refine o_no rfl rfl rfl rfl h10 ?_
            refine o_yes rfl rfl rfl h9 ?_
            refine o_q (q_pick_c (t := false) rfl h10 (v_raw rfl)) rfl rfl rfl ?_
            refine o_q (q_pick_c (t := false) rfl h9 (v_raw rfl)) rfl rfl rfl ?_
            refine o_nil ?_
            refine s_else rfl rfl ?_
            refine s_skip ?_
            refine s_seq ?_
            refine s_seq ?_
            refine s_draw rfl ?_
            refine d_q rfl (q_mv (v_raw rfl)) rfl rfl rfl ?_
            refine d_q rfl (q_mv (v_sl rfl)) rfl rfl rfl ?_
            refine d_q rfl (q_len rfl und28 rfl) rfl rfl rfl ?_
            refine d_q rfl (q_eql rfl rfl) rfl rfl rfl ?_
            refine d_q rfl (q_mv (v_raw rfl)) rfl rfl rfl ?_
            refine d_cases (want := false) (j := 4) rfl rfl (fun h14 => ?_) (fun h14 => ?_)
            · have k14 := h14; try simp only [decide_eq_true_eq, decide_eq_false_iff_not, Bool.not_eq_true', Bool.not_eq_false', Bool.not_true, Bool.not_false, List.length_map, Decidable.not_not] at k14
              refine d_yes rfl (q_mv (v_sl rfl)) rfl rfl rfl h14 rfl rfl ?_
              refine d_yes rfl (q_mv (v_raw rfl)) rfl rfl rfl h14 rfl rfl ?_
              refine d_yes rfl (q_idx und28 sz35 rfl rfl (by omega) kg.1 rfl) rfl rfl rfl h14 rfl rfl ?_
              refine d_yes rfl (q_lde ag35 sz35 rfl kg.1 rfl rfl) rfl rfl rfl h14 rfl rfl ?_
              refine d_yes rfl (q_mv (v_sl rfl)) rfl rfl rfl h14 rfl rfl ?_
              refine d_yes rfl (q_mv (v_raw rfl)) rfl rfl rfl h14 rfl rfl ?_
              refine d_yes rfl (q_idx und28 sz35 rfl rfl (by omega) (gm i (by first | omega | simp)) rfl) rfl rfl rfl h14 rfl rfl ?_
              refine d_yes rfl (q_lde ag35 sz35 rfl (gm i (by first | omega | simp)) rfl rfl) rfl rfl rfl h14 rfl rfl ?_
              refine d_yes rfl (q_bin' rfl rfl (binNeq _ _ _ _)) rfl rfl rfl h14 rfl rfl ?_
              refine d_q rfl (q_pick_c (t := false) rfl h14 (v_raw rfl)) rfl rfl rfl ?_
              refine d_nil ?_
              refine s_cond rfl (fun h15 => ?_) (fun h15 => ?_)
              · have k15 := h15; try simp only [decide_eq_true_eq, decide_eq_false_iff_not, Bool.not_eq_true', Bool.not_eq_false', Bool.not_true, Bool.not_false, List.length_map, Decidable.not_not] at k15
                exact absurd (drop_get hilo (by omega)) k15
              · have k15 := h15; try simp only [decide_eq_true_eq, decide_eq_false_iff_not, Bool.not_eq_true', Bool.not_eq_false', Bool.not_true, Bool.not_false, List.length_map, Decidable.not_not] at k15
                refine s_skip ?_
                refine s_region ?_
                refine o_q (q_mv (v_raw rfl)) rfl rfl rfl ?_
                refine o_q (q_add rfl rfl (wrap64 (by omega) (by omega))) rfl rfl rfl ?_
                refine o_q (q_as (v_raw rfl)) rfl rfl rfl ?_
                refine o_nil ?_
                refine s_blk_normal ?_
                refine s_region ?_
                refine o_q (q_mv (v_raw rfl)) rfl rfl rfl ?_
                refine o_q (q_add rfl rfl (wrap64 (by omega) (by omega))) rfl rfl rfl ?_
                refine o_q (q_as (v_raw rfl)) rfl rfl rfl ?_
                refine o_nil ?_
                refine s_inv ?_
                exact ⟨x.recs.length - (i + 1), by omega, _, _, i + 1, St.mkT (kp (kp (kp (kp (kp (kp (kp (kp (kp rfl rfl) rfl) rfl) rfl) rfl) rfl) rfl) (by rw [show i + 1 - lo = (i - lo) + 1 by omega, kg.2.1]; rfl)) rfl).symm, hle, ht, hw, by omega, rfl⟩
            · have k14 := h14; try simp only [decide_eq_true_eq, decide_eq_false_iff_not, Bool.not_eq_true', Bool.not_eq_false', Bool.not_true, Bool.not_false, List.length_map, Decidable.not_not] at k14
              exfalso; have := kg.2.2; omega
        · have k9 := h9; try simp only [decide_eq_true_eq, decide_eq_false_iff_not, Bool.not_eq_true', Bool.not_eq_false', Bool.not_true, Bool.not_false, List.length_map, Decidable.not_not] at k9
          refine o_no rfl rfl rfl rfl h9 ?_
          refine o_no rfl rfl rfl rfl h9 ?_
          refine o_skip rfl rfl rfl rfl ?_
          refine o_skip rfl rfl rfl rfl ?_
          refine o_skip rfl rfl rfl rfl ?_
          refine o_skip rfl rfl rfl rfl ?_
          refine o_skip rfl rfl rfl rfl ?_
          refine o_skip rfl rfl rfl rfl ?_
          refine o_skip rfl rfl rfl rfl ?_
          refine o_no rfl rfl rfl rfl h9 ?_
          refine o_q (q_pick_c (t := true) rfl h9 (v_raw rfl)) rfl rfl rfl ?_
          refine o_nil ?_
          refine s_then rfl rfl ?_
          refine s_exit ?_
          refine s_code_exit ?_
          refine s_blk_here ?_
          refine s_region ?_
          refine o_q (q_mv (v_raw rfl)) rfl rfl rfl ?_
          refine o_q (q_add rfl rfl (wrap64 (by omega) (by omega))) rfl rfl rfl ?_
          refine o_q (q_as (v_raw rfl)) rfl rfl rfl ?_
          refine o_nil ?_
          refine s_inv ?_
          exact ⟨x.recs.length - (i + 1), by omega, _, _, i + 1, St.mkT (kp (kp (kp (kp (kp (kp (kp (kp (kp rfl rfl) rfl) rfl) rfl) rfl) rfl) rfl) (by rw [show i + 1 - lo = i - lo by omega]; rfl)) rfl).symm, hle, ht, hw, by omega, rfl⟩
      · have k5 := h5; try simp only [decide_eq_true_eq, decide_eq_false_iff_not, Bool.not_eq_true', Bool.not_eq_false', Bool.not_true, Bool.not_false, List.length_map, Decidable.not_not] at k5
        obtain rfl : i = x.recs.length := by omega
        have hfin : (keepN (x.recs.drop lo) upto (x.recs.length - lo)).length = (keepN (x.recs.drop lo) upto (x.recs.drop lo).length).length := by rw [hdl]
        obtain ⟨y, n, c, hy⟩ : ∃ y n c, pub ⟨x.name, lo, x.en, x.kvs, (keepN (x.recs.drop lo) upto (x.recs.drop lo).length)⟩ { data := #[111, 116, 104, 101, 114, 48, 112, 114, 111, 100, 117, 99, 101, 114, 48, 110, 97, 109, 101, 48] } 0 emp emp = (y, n, c) := ⟨_, _, _, rfl⟩
        have hpt := pub_told (x := x) (z := ⟨x.name, lo, x.en, x.kvs, (keepN (x.recs.drop lo) upto (x.recs.drop lo).length)⟩) hO rfl rfl hy
        refine s_exit ?_
        refine s_code_exit ?_
        refine s_inv_exit ?_
        refine s_blk_here ?_
        refine s_seq ?_
        refine s_region ?_
        refine o_q (q_mv ((by first | exact v_raw rfl | exact v_sptr rfl))) rfl rfl rfl ?_
        refine o_callx ((pubE t w _ hy (by repeat first | exact Mem.upd_self _ _ _ | assumption | refine Mem.upd_ne (by assumption) ?_) (by repeat first | exact Mem.upd_self _ _ _ | assumption | refine Mem.upd_ne (by assumption) ?_) htw (by show 0 ≤ x.en ∧ x.en < _; omega) (by show (keepN (x.recs.drop lo) upto (x.recs.drop lo).length).length < _; omega))) goes14 (ac ((by first | exact v_raw rfl | exact v_sptr rfl)) (ac (v_raw rfl) (ac (v_raw rfl) (ac (v_raw rfl) (ac (v_raw rfl) ac_nil))))) rfl ?_
        rintro r M' ⟨rfl, rfl⟩
        refine o_q (q_mv (v_tup rfl)) rfl rfl rfl ?_
        refine o_q (q_ext rfl rfl (v_raw rfl)) rfl rfl rfl ?_
        refine o_q (q_ext rfl rfl (v_raw rfl)) rfl rfl rfl ?_
        refine o_q (q_as (v_raw rfl)) rfl rfl rfl ?_
        refine o_q (q_as (v_raw rfl)) rfl rfl rfl ?_
        refine o_nil ?_
        refine s_seq ?_
        refine s_region ?_
        refine o_q (q_mv (v_raw rfl)) rfl rfl rfl ?_
        refine o_q (q_mv (v_raw rfl)) rfl rfl rfl ?_
        refine o_yes rfl rfl rfl rfl ?_
        refine o_q (q_mv (v_raw rfl)) rfl rfl rfl ?_
        refine o_yes rfl rfl rfl rfl ?_
        refine o_q (q_mv (v_sl rfl)) rfl rfl rfl ?_
        refine o_yes rfl rfl rfl rfl ?_
        refine o_q (q_len rfl und28 rfl) rfl rfl rfl ?_
        refine o_yes rfl rfl rfl rfl ?_
        refine o_q (q_eql rfl rfl) rfl rfl rfl ?_
        refine o_q (q_pick_c (t := true) rfl rfl (v_raw rfl)) rfl rfl rfl ?_
        refine o_q (q_mv (v_raw rfl)) rfl rfl rfl ?_
        refine o_cases (want := true) (j := 7) rfl rfl (fun h16 => ?_) (fun h16 => ?_)
        · have k16 := h16; try simp only [decide_eq_true_eq, decide_eq_false_iff_not, Bool.not_eq_true', Bool.not_eq_false', Bool.not_true, Bool.not_false, List.length_map, Decidable.not_not] at k16
          refine o_yes rfl rfl rfl h16 ?_
          refine o_q (q_mv (v_raw rfl)) rfl rfl rfl ?_
          refine o_yes rfl rfl rfl h16 ?_
          refine o_q (q_neq rfl rfl) rfl rfl rfl ?_
          refine o_yes rfl rfl rfl h16 ?_
          refine o_q (q_mv (v_raw rfl)) rfl rfl rfl ?_
          refine o_cases (want := false) (j := 10) rfl rfl (fun h17 => ?_) (fun h17 => ?_)
          · have k17 := h17; try simp only [decide_eq_true_eq, decide_eq_false_iff_not, Bool.not_eq_true', Bool.not_eq_false', Bool.not_true, Bool.not_false, List.length_map, Decidable.not_not] at k17
            refine o_yes rfl rfl rfl h17 ?_
            refine o_q (q_mv (v_raw rfl)) rfl rfl rfl ?_
            refine o_yes rfl rfl rfl h17 ?_
            refine o_q (q_mv (v_raw rfl)) rfl rfl rfl ?_
            refine o_yes rfl rfl rfl h17 ?_
            refine o_q (q_eql rfl rfl) rfl rfl rfl ?_
            refine o_yes rfl rfl rfl h16 ?_
            refine o_q (q_pick_c (t := false) rfl h17 (v_raw rfl)) rfl rfl rfl ?_
            refine o_yes rfl rfl rfl h16 ?_
            refine o_q (q_mv (v_raw rfl)) rfl rfl rfl ?_
            refine o_cases (want := false) (j := 15) rfl rfl (fun h18 => ?_) (fun h18 => ?_)
            · have k18 := h18; try simp only [decide_eq_true_eq, decide_eq_false_iff_not, Bool.not_eq_true', Bool.not_eq_false', Bool.not_true, Bool.not_false, List.length_map, Decidable.not_not] at k18
              refine o_yes rfl rfl rfl h18 ?_
              refine o_q (q_mv (v_raw rfl)) rfl rfl rfl ?_
              refine o_yes rfl rfl rfl h18 ?_
              refine o_q (q_mv (v_raw rfl)) rfl rfl rfl ?_
              refine o_yes rfl rfl rfl h18 ?_
              refine o_q (q_lss rfl rfl) rfl rfl rfl ?_
              refine o_yes rfl rfl rfl h16 ?_
              refine o_q (q_pick_c (t := false) rfl h18 (v_raw rfl)) rfl rfl rfl ?_
              refine o_q (q_pick_c (t := true) rfl h16 (v_raw rfl)) rfl rfl rfl ?_
              refine o_q (q_as (v_raw rfl)) rfl rfl rfl ?_
              refine o_nil ?_
              refine s_ret ?_
              refine s_end ?_
              first | exact ⟨rfl, (by repeat first | exact hle | exact Mem.le_refl M | assumption | exact Mem.none_of_le hle (by assumption) | refine Mem.le_upd ?_ ?_)⟩ | exact ⟨congrArg (fun b => AVal.raw (.bool b)) (decide_eq_true (by omega)), (by repeat first | exact hle | exact Mem.le_refl M | assumption | exact Mem.none_of_le hle (by assumption) | refine Mem.le_upd ?_ ?_)⟩
            · have k18 := h18; try simp only [decide_eq_true_eq, decide_eq_false_iff_not, Bool.not_eq_true', Bool.not_eq_false', Bool.not_true, Bool.not_false, List.length_map, Decidable.not_not] at k18
              refine o_no rfl rfl rfl rfl h18 ?_
              refine o_no rfl rfl rfl rfl h18 ?_
              refine o_no rfl rfl rfl rfl h18 ?_
              refine o_yes rfl rfl rfl h16 ?_
              refine o_q (q_pick_c (t := true) rfl h18 (v_raw rfl)) rfl rfl rfl ?_
              refine o_q (q_pick_c (t := true) rfl h16 (v_raw rfl)) rfl rfl rfl ?_
              refine o_q (q_as (v_raw rfl)) rfl rfl rfl ?_
              refine o_nil ?_
              refine s_ret ?_
              refine s_end ?_
              first | exact ⟨rfl, (by repeat first | exact hle | exact Mem.le_refl M | assumption | exact Mem.none_of_le hle (by assumption) | refine Mem.le_upd ?_ ?_)⟩ | exact ⟨congrArg (fun b => AVal.raw (.bool b)) (decide_eq_true (by omega)), (by repeat first | exact hle | exact Mem.le_refl M | assumption | exact Mem.none_of_le hle (by assumption) | refine Mem.le_upd ?_ ?_)⟩
          · have k17 := h17; try simp only [decide_eq_true_eq, decide_eq_false_iff_not, Bool.not_eq_true', Bool.not_eq_false', Bool.not_true, Bool.not_false, List.length_map, Decidable.not_not] at k17
            refine o_no rfl rfl rfl rfl h17 ?_
            refine o_no rfl rfl rfl rfl h17 ?_
            refine o_no rfl rfl rfl rfl h17 ?_
            refine o_yes rfl rfl rfl h16 ?_
            refine o_q (q_pick_c (t := true) rfl h17 (v_raw rfl)) rfl rfl rfl ?_
            refine o_yes rfl rfl rfl h16 ?_
            refine o_q (q_mv (v_raw rfl)) rfl rfl rfl ?_
            refine o_no rfl rfl rfl rfl rfl ?_
            refine o_no rfl rfl rfl rfl rfl ?_
            refine o_no rfl rfl rfl rfl rfl ?_
            refine o_yes rfl rfl rfl h16 ?_
            refine o_q (q_pick_c (t := true) rfl rfl (v_raw rfl)) rfl rfl rfl ?_
            refine o_q (q_pick_c (t := true) rfl h16 (v_raw rfl)) rfl rfl rfl ?_
            refine o_q (q_as (v_raw rfl)) rfl rfl rfl ?_
            refine o_nil ?_
            refine s_ret ?_
            refine s_end ?_
            first | exact ⟨rfl, (by repeat first | exact hle | exact Mem.le_refl M | assumption | exact Mem.none_of_le hle (by assumption) | refine Mem.le_upd ?_ ?_)⟩ | exact ⟨congrArg (fun b => AVal.raw (.bool b)) (decide_eq_true (by omega)), (by repeat first | exact hle | exact Mem.le_refl M | assumption | exact Mem.none_of_le hle (by assumption) | refine Mem.le_upd ?_ ?_)⟩
        · have k16 := h16; try simp only [decide_eq_true_eq, decide_eq_false_iff_not, Bool.not_eq_true', Bool.not_eq_false', Bool.not_true, Bool.not_false, List.length_map, Decidable.not_not] at k16
          exfalso; apply k16; rw [hfin]
  · have k3 := h3; try simp only [decide_eq_true_eq, decide_eq_false_iff_not, Bool.not_eq_true', Bool.not_eq_false', Bool.not_true, Bool.not_false, List.length_map, Decidable.not_not] at k3
    first | exact absurd rfl k3 | exact absurd trivial k3
end C15
