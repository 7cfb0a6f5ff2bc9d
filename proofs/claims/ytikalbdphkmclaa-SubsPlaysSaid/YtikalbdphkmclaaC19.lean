import Derived.Test.YtikalbdphkmclaaC18
/-! The laws of chapters 15 and 16, walked. -/
open Go Go.Proofs Go.Am
set_option linter.unusedVariables false
set_option linter.unusedSimpArgs false
set_option autoImplicit false
namespace C15
theorem ag55 : aggT Try.prog 55 = some true := by kernel_rfl
theorem slt73 : SlT Try.prog 73 9 1 16 := ⟨by kernel_rfl, by kernel_rfl, by kernel_rfl, by kernel_rfl, by decide⟩
theorem und73 : Try.prog.underlying 73 = some (.slice 9) := by kernel_rfl
theorem zc55 : zeroCellsT Try.prog 55 = some [.raw (.int .i64 0), .raw (.int .i64 0)] := by kernel_rfl

def tk10 : Nat → Nat → Option Nat := fun _ _ => none
def pl10 : Nat → List PStep
  | 28 => [.q 0, .q 1, .q 2, .q 3, .s 4 [2, 1, 0], .q 5, .s 6 [3, 2], .q 7, .q 8, .q 9, .q 10, .s 11 [10, 9], .q 12, .q 13]
  | 34 => [.q 0, .q 1, .q 2, .q 3, .q 4, .q 5, .q 6, .q 7, .q 8, .q 9, .q 10, .q 11, .q 12, .q 13, .q 14, .q 15, .q 16, .q 17]
  | 45 => [.q 0, .q 1, .q 2, .q 3, .s 4 [2, 1, 0], .q 5, .s 6 [3, 1, 0], .s 7 [5, 3, 2, 1]]
  | _ => []
theorem cb10 : Try.f10.body.map (codeB Try.prog Try.f10.ntmps tk10 pl10) = some true := by kernel_rfl
theorem goes10 : goesB Try.prog 10 = true := by kernel_rfl
-- carillon/carillonlaw16.SubsRise params ['int', 'int', '[]carillonlaw16.Deed'] results [['t', 6]] own [] names ['0:many', '1:first', '2:deeds', '3:many', '4:first', '5:deeds', '7:head', '8:t', '9:_', '10:seq', '11:s', '12:code', '13:last', '14:i', '15:d', '16:before', '17:l', '18:k', '19:ok'] calls [12, 13, 14, 15, 18, 19, 21, 22, 23, 24, 25, 26, 27, 38] paths 13

theorem q_rem3 {T : Nat → AVal} {M : Mem} {x y : Operand} {dst : Option Nat} {ty t₁ t₂ : TypeId} {pos : String} {af : Array Edge} {g : Option (Nat × Bool)} {k : IntKind} (v : Nat) (hx : ev T x = .raw (.int k v)) (hy : ev T y = .raw (.int k 3)) : qstep Try.prog none (mkO dst (.binOp .rem t₁ x y t₂) ty pos af g) T M = some (⟨none, .raw (.int k ((v % 3 : Nat) : Int))⟩, []) := by
  have h := q_rem (P := Try.prog) (M := M) (dst := dst) (ty := ty) (pos := pos) (af := af) (g := g) (ty₁ := t₁) (ty' := t₂) hx hy (by decide)
  rw [Int.tmod_eq_emod_of_nonneg (by omega)] at h
  exact h
def keyS (v : Nat) : ByteArray := if v % 3 = 0 then emp else if v % 3 = 1 then bs 107 else bs 108
theorem keyW (v : Nat) : ([str emp, str (bs 107), str (bs 108)] : List AVal)[((v % 3 : Nat) : Int).toNat]? = some (str (keyS v)) := by
  unfold keyS
  rw [Int.toNat_natCast]
  have : v % 3 = 0 ∨ v % 3 = 1 ∨ v % 3 = 2 := by omega
  rcases this with h | h | h <;> rw [h] <;> rfl
structure Tame (v : Nat) (x : Tp) : Prop where
  nm : x.name = bs 116
  en : x.en = v
  srt : Sorted x.recs
  off : ∀ r ∈ x.recs, 0 ≤ r.off ∧ r.off < v
  low : 0 ≤ x.low ∧ x.low ≤ v
  last : ∀ l, kget x.kvs (bs 112) = some l → l.1 < v
  len : x.recs.length ≤ v
theorem tame_new : Tame 0 ⟨bs 116, 0, 0, [], []⟩ := ⟨rfl, rfl, List.Pairwise.nil, (fun r h => absurd h List.not_mem_nil), ⟨Int.le_refl _, Int.le_refl _⟩, (fun l h => nomatch h), Nat.le_refl _⟩
theorem tame_pub {v : Nat} {x : Tp} (h : Tame v x) (hv : v < 2 ^ 40) : pub x (bs 112) v (keyS v) emp = (px x (bs 112) v (keyS v) emp, (v : Int), (0 : Int)) ∧ Tame (v + 1) (px x (bs 112) v (keyS v) emp) := by
  have hen := h.en
  have hw : word (bs 112) = true := by kernel_rfl
  have hks : (keyS v).size ≤ 100 := by unfold keyS; split <;> (try split) <;> decide
  have hr : right (newR x (bs 112) v (keyS v) emp) = true := right_spec.2 ⟨by simp [newR]; omega, by simp [newR], by simp [newR]; omega, by simp [newR]; omega, by simp [newR]; decide, by simpa [newR] using hks, by simp [newR]; decide⟩
  refine ⟨?_, h.nm, by show x.en + 1 = _; omega, ?_, fun r hr => ?_, ⟨h.low.1, by have := h.low.2; show x.low ≤ _; omega⟩, fun l hl => ?_, by have := h.len; simp; omega⟩
  · unfold pub
    rw [hw, hr]
    simp only [Bool.and_self, if_true]
    split
    · rename_i l hl
      have := h.last l hl
      rw [if_neg (by omega), if_neg (by omega)]
      exact congrArg (fun z => (px x (bs 112) v (keyS v) emp, z, (0 : Int))) h.en
    · exact congrArg (fun z => (px x (bs 112) v (keyS v) emp, z, (0 : Int))) h.en
  · refine List.pairwise_append.2 ⟨h.srt, List.pairwise_singleton .., fun a ha b hb => ?_⟩
    rw [List.mem_singleton.1 hb]
    have := (h.off a ha).2
    show a.off < x.en
    omega
  · rcases List.mem_append.1 hr with hr | hr
    · have := h.off r hr; omega
    · rw [List.mem_singleton.1 hr]; show 0 ≤ x.en ∧ x.en < _; omega
  · have hl' : kget (kput x.kvs (bs 112) ((v : Int), x.en, bs 112)) (bs 112) = some l := hl
    rw [kget_kput, if_pos rfl] at hl'
    obtain rfl := Option.some.inj hl'
    show (v : Int) < ((v + 1 : Nat) : Int); omega
theorem tame_trim {v : Nat} {x : Tp} (h : Tame v x) {n : Int} (hn : 0 ≤ n ∧ n ≤ v) : Tame v (trimT x n).1 := by
  unfold trimT
  split
  · exact h
  · split
    · exact ⟨h.nm, h.en, sorted_sub h.srt (List.drop_sublist _ _), fun r hr => h.off r (List.mem_of_mem_drop hr), hn, h.last, by have := h.len; show (x.recs.drop _).length ≤ v; rw [List.length_drop]; omega⟩
    · exact h
theorem tame_comp {v : Nat} {x : Tp} (h : Tame v x) (n : Int) : Tame v (compT x n) :=
  ⟨h.nm, h.en, (keepN_sorted h.srt _ (Nat.le_refl _)).1, fun r hr => h.off r (keepN_mem (Nat.le_refl _) hr), h.low, h.last, Nat.le_trans (keepN_len _ _ _) h.len⟩
theorem tame_newS {v f : Nat} {x : Tp} (h : Tame v x) (hf : f ≤ v) : newS (bs 115) x f = (sb f f, 0) := by
  have h1 : word (bs 115) = true := by kernel_rfl
  have h2 : (if (f : Int) < 0 then x.en else (f : Int)) = f := if_neg (by omega)
  have he := h.en
  unfold newS
  simp only [h2]
  rw [if_pos, h.nm]
  · rfl
  · rw [h1]
    exact decide_eq_true (by omega)
theorem tame_seek {v : Nat} {x : Tp} (h : Tame v x) {c a : Int} (o : Int) (hr : 0 ≤ c ∧ c ≤ a ∧ a ≤ 9007199254740991) : ((seekS (sb c a) x o = (sb o o, 0)) ∧ 0 ≤ o ∧ o ≤ v) ∨ seekS (sb c a) x o = (sb c a, 7) := by
  have he := h.en
  unfold seekS
  split
  · rename_i hc
    simp only [Bool.and_eq_true, decide_eq_true_eq] at hc
    exact .inl ⟨rfl, hc.1.2, by omega⟩
  · exact .inr rfl
def lastF (L : List Rec) (a : Int) : Nat → Int
  | 0 => a - 1
  | j + 1 => (L.getD j default).off
theorem lastF_end (L : List Rec) (a : Int) : (match L.getLast? with | none => a | some r => r.off + 1) = lastF L a L.length + 1 := by
  rcases Nat.eq_zero_or_pos L.length with h | h
  · obtain rfl := List.eq_nil_of_length_eq_zero h
    show a = a - 1 + 1
    omega
  · refine Eq.trans (nxt_last (l := L) (j := L.length - 1) (by omega) rfl a) ?_
    obtain ⟨j, hj⟩ : ∃ j, L.length = j + 1 := ⟨L.length - 1, by omega⟩
    have e : lastF L a L.length = (L.getD j default).off := by rw [hj]; rfl
    have e2 : L.length - 1 = j := by omega
    rw [e, getD_lt (by omega)]
    simp only [e2]
theorem tame_poll {v : Nat} {x : Tp} (h : Tame v x) {c a k : Int} (hr : 0 ≤ c ∧ c ≤ a ∧ a ≤ v) (hv : v < 2 ^ 40) (hk : 1 ≤ k ∧ k ≤ 50) : ∃ L : List Rec, pollS (sb c a) x k = (sb c (lastF L a L.length + 1), L, 0) ∧ L.length ≤ 50 ∧ a - 1 ≤ lastF L a L.length ∧ lastF L a L.length < v ∧ ∀ j, ∀ hj : j < L.length, (∃ hj' : j < (readL x.recs a 1000).length, L[j] = (readL x.recs a 1000)[j]) ∧ lastF L a j < L[j].off ∧ lastF L a (j + 1) = L[j].off ∧ L[j].off < v ∧ 0 ≤ L[j].off := by
  have hri : rightS (sb c a) = true := right_sb ⟨hr.1, hr.2.1, by omega⟩
  have hc : (ofS (sb c a) x && decide ((sb c a).nxt ≤ x.en) && decide (1 ≤ k) && decide (k ≤ 50)) = true := by
    have h1 : (sb c a).topic = x.name := h.nm.symm
    have h2 : (sb c a).nxt ≤ x.en := by rw [h.en]; exact hr.2.2
    simp [ofS, hri, h1, h2, hk]
  have hsub : List.Sublist (pollL (sb c a) x k) x.recs := pollL_sub _ _ _
  have hsrt := sorted_sub h.srt hsub
  have hpre : ∀ j, ∀ hj : j < (pollL (sb c a) x k).length, ∃ hj' : j < (readL x.recs a 1000).length, (pollL (sb c a) x k)[j] = (readL x.recs a 1000)[j] := by
    intro j hj
    have hj2 : j < ((readL x.recs a k).take (atN (readL x.recs a k) (edge (sb c a) x))).length := hj
    have hj3 : j < (readL x.recs a k).length := by rw [List.length_take] at hj2; omega
    have hj4 : j < (x.recs.drop (atN x.recs a)).length ∧ j < (max k 0).toNat := by
      have : j < ((x.recs.drop (atN x.recs a)).take (max k 0).toNat).length := hj3
      rw [List.length_take] at this; omega
    refine ⟨by show j < ((x.recs.drop (atN x.recs a)).take 1000).length; rw [List.length_take]; omega, ?_⟩
    show ((readL x.recs a k).take (atN (readL x.recs a k) (edge (sb c a) x)))[j] = ((x.recs.drop (atN x.recs a)).take 1000)[j]'(by rw [List.length_take]; omega)
    rw [List.getElem_take, List.getElem_take]
    have hj5 : j < ((x.recs.drop (atN x.recs a)).take (max k 0).toNat).length := hj3
    show ((x.recs.drop (atN x.recs a)).take (max k 0).toNat)[j]'hj5 = _
    rw [List.getElem_take]
  have hlo : ∀ j, ∀ hj : j < (pollL (sb c a) x k).length, a ≤ (pollL (sb c a) x k)[j].off := by
    intro j hj
    obtain ⟨hj', e⟩ := hpre j hj
    rw [e]
    have hj5 : j < ((x.recs.drop (atN x.recs a)).take 1000).length := hj'
    show a ≤ (((x.recs.drop (atN x.recs a)).take 1000)[j]'hj5).off
    rw [List.length_take, List.length_drop] at hj5
    rw [List.getElem_take, List.getElem_drop]
    exact atN_ge h.srt (by omega) (by omega)
  have hof : ∀ j, ∀ hj : j < (pollL (sb c a) x k).length, 0 ≤ (pollL (sb c a) x k)[j].off ∧ (pollL (sb c a) x k)[j].off < v := fun j hj => h.off _ (hsub.subset (List.getElem_mem _))
  have hll : ∀ j, ∀ hj : j < (pollL (sb c a) x k).length, lastF (pollL (sb c a) x k) a j < (pollL (sb c a) x k)[j].off := by
    intro j hj
    cases j with
    | zero => have := hlo 0 hj; show a - 1 < _; omega
    | succ j =>
      show ((pollL (sb c a) x k).getD j default).off < _
      rw [getD_lt (by omega)]
      exact List.pairwise_iff_getElem.1 hsrt j (j + 1) (by omega) hj (by omega)
  have hend : a - 1 ≤ lastF (pollL (sb c a) x k) a (pollL (sb c a) x k).length ∧ lastF (pollL (sb c a) x k) a (pollL (sb c a) x k).length < v := by
    rcases Nat.eq_zero_or_pos (pollL (sb c a) x k).length with e | e
    · rw [e]; show a - 1 ≤ a - 1 ∧ a - 1 < v; omega
    · obtain ⟨j, hj⟩ : ∃ j, (pollL (sb c a) x k).length = j + 1 := ⟨_, (Nat.succ_pred_eq_of_pos e).symm⟩
      rw [hj]
      show a - 1 ≤ ((pollL (sb c a) x k).getD j default).off ∧ ((pollL (sb c a) x k).getD j default).off < v
      rw [getD_lt (by omega)]
      have := hlo j (by omega)
      have := hof j (by omega)
      omega
  refine ⟨pollL (sb c a) x k, ?_, ?_, hend.1, hend.2, fun j hj => ⟨hpre j hj, hll j hj, ?_, (hof j hj).2, (hof j hj).1⟩⟩
  · unfold pollS
    rw [if_pos hc]
    exact congrArg (fun z => ((⟨bs 115, bs 116, c, z⟩ : Sb), pollL (sb c a) x k, (0 : Int))) (lastF_end _ _)
  · have h1 : (pollL (sb c a) x k).length ≤ (readL x.recs a k).length := (List.take_sublist _ _).length_le
    have h2 := readL_most x.recs a k
    omega
  · show ((pollL (sb c a) x k).getD j default).off = _
    rw [getD_lt hj]
theorem pubS {v : Nat} {x : Tp} (t w : Nat) (M : Mem) (h : Tame v x) (hv : v < 2 ^ 40) (ht : M t = some (.cells (tpC w x))) (hw : M w = some (tpK x)) (htw : t ≠ w) : SoundCall Try.prog 14 [ptr t, str (bs 112), int v, str (keyS v), str emp] M fun r M' => r = .tup [int v, int 0] ∧ M' = setTp M t w (px x (bs 112) v (keyS v) emp) :=
  pubE t w M (tame_pub h hv).1 ht hw htw (by rw [h.en]; omega) (by have := h.len; omega)
theorem pollD {v : Nat} {x : Tp} {s s' : Sb} {l : List Rec} {many c : Int} (t m : Nat) (M : Mem) (hT : Tame v x) (hv : v < 2 ^ 40) (h : pollS s x many = (s', l, c)) (ht : M t = some (.cells (tpC m x))) (hm : M m = some (tpK x)) (htm : t ≠ m) : SoundCall Try.prog 24 [encSb s, ptr t, int many] M fun r M' => r = .tup [encSb s', .sl (l.map enc) false, int c] ∧ M' = M :=
  pollE t m M h ht hm htm hT.srt (by have := hT.len; omega) (fun r hr => by have := hT.off r hr; omega) (by have := hT.low; omega)
set_option maxHeartbeats 4000000 in
set_option maxRecDepth 20000 in
theorem snd10 (many first : Int) (l : List D2) (o : Bool) (M : Mem) (hmany : -2 ^ 63 ≤ many ∧ many < 2 ^ 63) (hfirst : -2 ^ 63 ≤ first ∧ first < 2 ^ 63) (hl : l.length < 2 ^ 60) (hq : ∀ d ∈ l, okD2 d) : SoundCall Try.prog 10 [int many, int first, .sl (l.map encD2) o] M fun r M' => r = bool true ∧ M.le M' := by
  obtain ⟨n, hn, hn2⟩ := pickN many 100 (by decide)
  refine SoundCall.go tk10 pl10 mixed Try.func10 cb10 rfl (Nat.le_of_ble_eq_true rfl) ?_
  refine s_seq ?_
  refine s_region ?_
  refine o_q (q_as (v_raw rfl)) rfl rfl rfl ?_
  refine o_nil ?_
  refine s_seq ?_
  refine s_region ?_
  refine o_callx (snd21 _) goes21 ac_nil rfl ?_
  rintro r M0 ⟨rfl, hle⟩
  refine o_q (q_as (v_raw rfl)) rfl rfl rfl ?_
  refine o_nil ?_
  refine s_seq ?_
  refine s_region ?_
  refine o_callx (newT (bs 116) _ (by kernel_rfl)) goes12 (ac (v_raw rfl) ac_nil) rfl ?_
  rintro r M' ⟨t, w, ht0, hw0, htw, rfl, rfl⟩
  have htw' := htw.symm
  have ht0' := Mem.none_of_le hle ht0
  have hw0' := Mem.none_of_le hle hw0
  refine o_q (q_mv (v_tup rfl)) rfl rfl rfl ?_
  refine o_q (q_ext rfl rfl ((by first | exact v_raw rfl | exact v_sptr rfl))) rfl rfl rfl ?_
  refine o_q (q_ext rfl rfl (v_raw rfl)) rfl rfl rfl ?_
  refine o_q (q_as ((by first | exact v_raw rfl | exact v_sptr rfl))) rfl rfl rfl ?_
  refine o_q (q_as (v_raw rfl)) rfl rfl rfl ?_
  refine o_nil ?_
  refine s_seq ?_
  refine s_seq ?_
  refine s_region ?_
  refine o_q (q_mv ((by first | exact v_raw rfl | exact v_sptr rfl))) rfl rfl rfl ?_
  refine o_q (q_peql und24 rfl rfl) rfl rfl rfl ?_
  refine o_nil ?_
  refine s_else rfl rfl ?_
  refine s_skip ?_
  refine s_seq ?_
  refine s_region ?_
  refine o_q (q_as (v_raw rfl)) rfl rfl rfl ?_
  refine o_nil ?_
  refine s_seq ?_
  refine s_block ?_
  refine s_loop (fun m S => ∃ T, ∃ M' : Mem, ∃ x : Tp, ∃ v : Nat, S = ⟨setT (setT (setT (setT (setT (setT T 0 (int many)) 1 (int first)) 2 (.sl (l.map encD2) o)) 7 (bool true)) 8 (ptr t)) 10 (int (v : Nat)), M'⟩ ∧ M.le M' ∧ M' t = some (.cells (tpC w (x))) ∧ M' w = some (tpK (x)) ∧ Tame v x ∧ v ≤ n ∧ m = n - v) n ?_ ?_
  · exact ⟨_, _, ⟨bs 116, 0, 0, [], []⟩, 0, St.mkT (kp (kp (kp (kp (kp (kp rfl rfl) rfl) rfl) rfl) rfl) rfl).symm, (by repeat first | exact hle | exact Mem.le_refl M | assumption | exact Mem.none_of_le hle (by assumption) | refine Mem.le_upd ?_ ?_), (by repeat first | exact Mem.upd_self _ _ _ | assumption | refine Mem.upd_ne (by assumption) ?_), (by repeat first | exact Mem.upd_self _ _ _ | assumption | refine Mem.upd_ne (by assumption) ?_), tame_new, by omega, rfl⟩
  rintro m S ⟨T, M', x, v, rfl, hle, ht, hw, hT, hvn, rfl⟩
  refine s_seq ?_
  refine s_seq ?_
  refine s_region ?_
  refine o_q (q_mv (v_raw rfl)) rfl rfl rfl ?_
  refine o_q (q_mv (v_raw rfl)) rfl rfl rfl ?_
  refine o_call ((pickE _ hn (by decide) (by decide) hmany)) goes22 (ac (v_raw rfl) (ac (v_raw rfl) ac_nil)) rfl ?_
  refine o_q (q_lss rfl rfl) rfl rfl rfl ?_
  refine o_nil ?_
  refine s_cond rfl (fun h1 => ?_) (fun h1 => ?_)
  · have k1 := h1; try simp only [decide_eq_true_eq, decide_eq_false_iff_not, Bool.not_eq_true', Bool.not_eq_false', Bool.not_true, Bool.not_false, List.length_map, Decidable.not_not] at k1
    refine s_skip ?_
    refine s_block ?_
    refine s_seq ?_
    refine s_region ?_
    refine o_q (q_mv ((by first | exact v_raw rfl | exact v_sptr rfl))) rfl rfl rfl ?_
    refine o_q (q_mv (v_raw rfl)) rfl rfl rfl ?_
    refine o_q (q_bs slt73 (pc (v_raw rfl) (pc (v_raw rfl) (pc (v_raw rfl) pn))) rfl (Els.cons rfl rfl (Els.cons rfl rfl (Els.cons rfl rfl Els.nil))) (by decide)) rfl rfl rfl ?_
    refine o_q (q_mv (v_raw rfl)) rfl rfl rfl ?_
    refine o_q (q_rem3 v rfl rfl) rfl rfl rfl ?_
    refine o_q (q_idx und73 sz9 rfl rfl (by omega) (keyW v) rfl) rfl rfl rfl ?_
    refine o_q (q_ld ag9 sz9 rfl (keyW v) rfl (v_raw rfl)) rfl rfl rfl ?_
    refine o_callx ((pubS t w _ hT (by omega) (by repeat first | exact Mem.upd_self _ _ _ | assumption | refine Mem.upd_ne (by assumption) ?_) (by repeat first | exact Mem.upd_self _ _ _ | assumption | refine Mem.upd_ne (by assumption) ?_) htw)) goes14 (ac ((by first | exact v_raw rfl | exact v_sptr rfl)) (ac (v_raw rfl) (ac (v_raw rfl) (ac (v_raw rfl) (ac (v_raw rfl) ac_nil))))) rfl ?_
    rintro r M' ⟨rfl, rfl⟩
    refine o_nil ?_
    refine s_region ?_
    refine o_q (q_mv (v_raw rfl)) rfl rfl rfl ?_
    refine o_q (q_add rfl rfl (wrap64 (by omega) (by omega))) rfl rfl rfl ?_
    refine o_q (q_as (v_raw rfl)) rfl rfl rfl ?_
    refine o_nil ?_
    refine s_blk_normal ?_
    refine s_inv ?_
    exact ⟨n - (v + 1), by omega, _, _, _, v + 1, St.mkT (kp (kp (kp (kp (kp (kp rfl rfl) rfl) rfl) rfl) rfl) rfl).symm, (by repeat first | exact hle | exact Mem.le_refl M | assumption | exact Mem.none_of_le hle (by assumption) | refine Mem.le_upd ?_ ?_), (by repeat first | exact Mem.upd_self _ _ _ | assumption | refine Mem.upd_ne (by assumption) ?_), (by repeat first | exact Mem.upd_self _ _ _ | assumption | refine Mem.upd_ne (by assumption) ?_), (tame_pub hT (by omega)).2, by omega, rfl⟩
  · have k1 := h1; try simp only [decide_eq_true_eq, decide_eq_false_iff_not, Bool.not_eq_true', Bool.not_eq_false', Bool.not_true, Bool.not_false, List.length_map, Decidable.not_not] at k1
    have hen := hT.en
    obtain rfl : n = v := by omega
    obtain ⟨f, hf, hf2⟩ := pickN first (n + 1) (by omega)
    have hf' : pick first (x.en + 1) = f := by rw [hen]; exact hf
    refine s_exit ?_
    refine s_code_exit ?_
    refine s_inv_exit ?_
    refine s_blk_here ?_
    refine s_seq ?_
    refine s_region ?_
    refine o_q (q_mv ((by first | exact v_raw rfl | exact v_sptr rfl))) rfl rfl rfl ?_
    refine o_q (q_mv (v_raw rfl)) rfl rfl rfl ?_
    refine o_q (q_mv ((by first | exact v_raw rfl | exact v_sptr rfl))) rfl rfl rfl ?_
    refine o_call (((snd13 t w x _ (by repeat first | exact Mem.upd_self _ _ _ | assumption | refine Mem.upd_ne (by assumption) ?_) (by repeat first | exact Mem.upd_self _ _ _ | assumption | refine Mem.upd_ne (by assumption) ?_) htw).det)) goes13 (ac ((by first | exact v_raw rfl | exact v_sptr rfl)) ac_nil) rfl ?_
    refine o_q (q_add rfl rfl (wrap64 (by omega) (by omega))) rfl rfl rfl ?_
    refine o_call ((pickE _ hf' (by omega) (by omega) hfirst)) goes22 (ac (v_raw rfl) (ac (v_raw rfl) ac_nil)) rfl ?_
    refine o_call ((newE t w _ (tame_newS hT (by omega)) (by repeat first | exact Mem.upd_self _ _ _ | assumption | refine Mem.upd_ne (by assumption) ?_) (by repeat first | exact Mem.upd_self _ _ _ | assumption | refine Mem.upd_ne (by assumption) ?_) htw)) goes23 (ac (v_raw rfl) (ac ((by first | exact v_raw rfl | exact v_sptr rfl)) (ac (v_raw rfl) ac_nil))) rfl ?_
    refine o_q (q_mv (v_tup rfl)) rfl rfl rfl ?_
    refine o_q (q_ext rfl rfl (v_agg rfl)) rfl rfl rfl ?_
    refine o_q (q_ext rfl rfl (v_raw rfl)) rfl rfl rfl ?_
    refine o_alloc zc45 (fun B1 hB1 => ?_)
    have n1 : t ≠ B1 := Mem.fresh_ne hB1 ht
    have n1' := n1.symm
    have n2 : w ≠ B1 := Mem.fresh_ne hB1 hw
    have n2' := n2.symm
    have m1 : M B1 = none := by have h := hB1; repeat (first | exact h | exact Mem.none_of_le hle h | replace h := (Mem.upd_none h).2)
    refine o_storew rfl (by repeat first | exact Mem.upd_self _ _ _ | assumption | refine Mem.upd_ne (by assumption) ?_) (by first | exact e_agg rfl | rfl) rfl sz45 rfl rfl rfl rfl ?_
    refine o_q (q_as (v_raw rfl)) rfl rfl rfl ?_
    refine o_nil ?_
    refine s_seq ?_
    refine s_seq ?_
    refine s_region ?_
    refine o_q (q_mv (v_raw rfl)) rfl rfl rfl ?_
    refine o_q (q_neq rfl rfl) rfl rfl rfl ?_
    refine o_nil ?_
    refine s_cond rfl (fun h2 => ?_) (fun h2 => ?_)
    · have k2 := h2; try simp only [decide_eq_true_eq, decide_eq_false_iff_not, Bool.not_eq_true', Bool.not_eq_false', Bool.not_true, Bool.not_false, List.length_map, Decidable.not_not] at k2
      first | exact absurd rfl k2 | exact absurd trivial k2
    · have k2 := h2; try simp only [decide_eq_true_eq, decide_eq_false_iff_not, Bool.not_eq_true', Bool.not_eq_false', Bool.not_true, Bool.not_false, List.length_map, Decidable.not_not] at k2
      have hsn : (sb (f : Int) f).nxt = f := rfl
      refine s_skip ?_
      refine s_seq ?_
      refine s_region ?_
      refine o_q (q_fr fo45_3 rfl) rfl rfl rfl ?_
      refine o_q (q_ldm ag3 sz3 rfl (by repeat first | exact Mem.upd_self _ _ _ | assumption | refine Mem.upd_ne (by assumption) ?_) rfl (v_raw rfl)) rfl rfl rfl ?_
      refine o_q (q_sub rfl rfl (wrap64 (by omega) (by omega))) rfl rfl rfl ?_
      refine o_q (q_as (v_raw rfl)) rfl rfl rfl ?_
      refine o_nil ?_
      refine s_seq ?_
      refine s_seq ?_
      refine s_region ?_
      refine o_q (q_as (v_raw rfl)) rfl rfl rfl ?_
      refine o_nil ?_
      refine s_block ?_
      refine s_loop (fun m S => ∃ T, ∃ M' : Mem, ∃ x : Tp, ∃ v i : Nat, ∃ c a : Int, S = ⟨setT (setT (setT (setT (setT (setT (setT T 2 (.sl (l.map encD2) o)) 7 (bool true)) 8 (ptr t)) 10 (int (v : Nat))) 11 (ptr B1)) 13 (int (a - 1))) 14 (int (i : Nat)), M'⟩ ∧ M.le M' ∧ M' t = some (.cells (tpC w (x))) ∧ M' w = some (tpK (x)) ∧ M' B1 = some (.cells (sbC (sb c a))) ∧ Tame v x ∧ 0 ≤ c ∧ c ≤ a ∧ a ≤ v ∧ v ≤ 100 + i ∧ i ≤ 100 ∧ i ≤ l.length ∧ m = l.length - i) l.length ?_ ?_
      · exact ⟨_, _, x, n, 0, f, f, St.mkT (kp (kp (kp (kp (kp (kp (kp rfl rfl) rfl) rfl) rfl) rfl) rfl) rfl).symm, (by repeat first | exact hle | exact Mem.le_refl M | assumption | exact Mem.none_of_le hle (by assumption) | refine Mem.le_upd ?_ ?_), (by repeat first | exact Mem.upd_self _ _ _ | assumption | refine Mem.upd_ne (by assumption) ?_), (by repeat first | exact Mem.upd_self _ _ _ | assumption | refine Mem.upd_ne (by assumption) ?_), (by repeat first | exact Mem.upd_self _ _ _ | assumption | refine Mem.upd_ne (by assumption) ?_), hT, by omega, by omega, by omega, by omega, by omega, by omega, rfl⟩
      rintro m S ⟨T, M', x, v, i, c, a, rfl, hle, ht, hw, hB, hT, hc0, hca, hav, hvi, hi100, hi, rfl⟩
      refine s_seq ?_
      refine s_seq ?_
      refine s_region ?_
      refine o_q (q_mv (v_raw rfl)) rfl rfl rfl ?_
      refine o_q (q_mv (v_sl rfl)) rfl rfl rfl ?_
      refine o_q (q_len rfl und53 rfl) rfl rfl rfl ?_
      refine o_q (q_lss rfl rfl) rfl rfl rfl ?_
      refine o_q (q_mv (v_raw rfl)) rfl rfl rfl ?_
      refine o_cases (want := true) (j := 4) rfl rfl (fun h3 => ?_) (fun h3 => ?_)
      · have k3 := h3; try simp only [decide_eq_true_eq, decide_eq_false_iff_not, Bool.not_eq_true', Bool.not_eq_false', Bool.not_true, Bool.not_false, List.length_map, Decidable.not_not] at k3
        refine o_yes rfl rfl rfl h3 ?_
        refine o_q (q_mv (v_raw rfl)) rfl rfl rfl ?_
        refine o_yes rfl rfl rfl h3 ?_
        refine o_q (q_lss rfl rfl) rfl rfl rfl ?_
        refine o_q (q_pick_c (t := true) rfl h3 (v_raw rfl)) rfl rfl rfl ?_
        refine o_nil ?_
        refine s_cond rfl (fun h4 => ?_) (fun h4 => ?_)
        · have k4 := h4; try simp only [decide_eq_true_eq, decide_eq_false_iff_not, Bool.not_eq_true', Bool.not_eq_false', Bool.not_true, Bool.not_false, List.length_map, Decidable.not_not] at k4
          have ha1 : (sb c a).nxt = a := rfl
          have ha2 : (sb c a).cur = c := rfl
          have ha3 : (attS (sb c a)).cur = c := rfl
          have ha4 : (attS (sb c a)).nxt = c := rfl
          have hqi := hq l[i] (List.getElem_mem _)
          have hen := hT.en
          obtain ⟨e7, he7, he72⟩ := pickN l[i].kind 7 (by decide)
          obtain ⟨e, he, he2⟩ := pickN l[i].n 50 (by decide)
          obtain ⟨g, hg, hg2⟩ := pickN l[i].n (v + 1) (by omega)
          have hg' : pick l[i].n (x.en + 1) = g := by rw [hen]; exact hg
          obtain ⟨c3, r3, hp3, hc3, hc3'⟩ := ack_any (c := c) (a := a) l[i].n (by omega)
          obtain ⟨L, hp, hL50, hLa, hLv, hLj⟩ := tame_poll (k := 1 + e) hT ⟨hc0, hca, hav⟩ (by omega) (by omega)
          refine s_skip ?_
          refine s_seq ?_
          refine s_block ?_
          refine s_seq ?_
          refine s_region ?_
          refine o_q (q_mv (v_sl rfl)) rfl rfl rfl ?_
          refine o_q (q_mv (v_raw rfl)) rfl rfl rfl ?_
          refine o_q (q_idx und53 sz55 rfl rfl (by omega) (gm i (by first | omega | simp)) rfl) rfl rfl rfl ?_
          refine o_q (q_lde ag55 sz55 rfl (gm i (by first | omega | simp)) rfl rfl) rfl rfl rfl ?_
          refine o_alloc zc55 (fun B2 hB2 => ?_)
          have n3 : t ≠ B2 := Mem.fresh_ne hB2 (by repeat first | exact Mem.upd_self _ _ _ | assumption | refine Mem.upd_ne (by assumption) ?_)
          have n3' := n3.symm
          have n4 : w ≠ B2 := Mem.fresh_ne hB2 (by repeat first | exact Mem.upd_self _ _ _ | assumption | refine Mem.upd_ne (by assumption) ?_)
          have n4' := n4.symm
          have f1_2 : B1 ≠ B2 := Mem.fresh_ne hB2 (by repeat first | exact Mem.upd_self _ _ _ | assumption | refine Mem.upd_ne (by assumption) ?_)
          have g2_1 : B2 ≠ B1 := f1_2.symm
          have m2 : M B2 = none := by have h := hB2; repeat (first | exact h | exact Mem.none_of_le hle h | replace h := (Mem.upd_none h).2)
          refine o_storew rfl (by repeat first | exact Mem.upd_self _ _ _ | assumption | refine Mem.upd_ne (by assumption) ?_) (by first | exact e_agg rfl | rfl) rfl sz55 rfl rfl rfl rfl ?_
          refine o_nil ?_
          refine s_seq ?_
          refine s_seq ?_
          refine s_region ?_
          refine o_q (q_fr fo55_0 rfl) rfl rfl rfl ?_
          refine o_q (q_ldm ag3 sz3 rfl (by repeat first | exact Mem.upd_self _ _ _ | assumption | refine Mem.upd_ne (by assumption) ?_) rfl (v_raw rfl)) rfl rfl rfl ?_
          refine o_call ((pickE _ he7 (by decide) (by decide) hqi.1)) goes22 (ac (v_raw rfl) (ac (v_raw rfl) ac_nil)) rfl ?_
          refine o_nil ?_
          refine s_cut (fun S => ∃ T, ∃ M' : Mem, ∃ x' : Tp, ∃ v' : Nat, ∃ c' a' : Int, S = ⟨setT (setT (setT (setT (setT (setT (setT T 2 (.sl (l.map encD2) o)) 7 (bool true)) 8 (ptr t)) 10 (int (v' : Nat))) 11 (ptr B1)) 13 (int (a' - 1))) 14 (int (i : Nat)), M'⟩ ∧ M.le M' ∧ M' t = some (.cells (tpC w (x'))) ∧ M' w = some (tpK (x')) ∧ M' B1 = some (.cells (sbC (sb c' a'))) ∧ Tame v' x' ∧ 0 ≤ c' ∧ c' ≤ a' ∧ a' ≤ v' ∧ v' ≤ v + 1) ?_ ?_
          · skip
            refine s_block ?_
            refine s_seq ?_
            refine s_region ?_
            refine o_q (q_eql rfl rfl) rfl rfl rfl ?_
            refine o_q (q_as (v_raw rfl)) rfl rfl rfl ?_
            refine o_nil ?_
            refine s_cond rfl (fun h5 => ?_) (fun h5 => ?_)
            · have k5 := h5; try simp only [decide_eq_true_eq, decide_eq_false_iff_not, Bool.not_eq_true', Bool.not_eq_false', Bool.not_true, Bool.not_false, List.length_map, Decidable.not_not] at k5
              refine s_seq ?_
              refine s_region ?_
              refine o_q (q_mv ((by first | exact v_raw rfl | exact v_sptr rfl))) rfl rfl rfl ?_
              refine o_q (q_mv (v_raw rfl)) rfl rfl rfl ?_
              refine o_q (q_bs slt73 (pc (v_raw rfl) (pc (v_raw rfl) (pc (v_raw rfl) pn))) rfl (Els.cons rfl rfl (Els.cons rfl rfl (Els.cons rfl rfl Els.nil))) (by decide)) rfl rfl rfl ?_
              refine o_q (q_mv (v_raw rfl)) rfl rfl rfl ?_
              refine o_q (q_rem3 v rfl rfl) rfl rfl rfl ?_
              refine o_q (q_idx und73 sz9 rfl rfl (by omega) (keyW v) rfl) rfl rfl rfl ?_
              refine o_q (q_ld ag9 sz9 rfl (keyW v) rfl (v_raw rfl)) rfl rfl rfl ?_
              refine o_callx ((pubS t w _ hT (by omega) (by repeat first | exact Mem.upd_self _ _ _ | assumption | refine Mem.upd_ne (by assumption) ?_) (by repeat first | exact Mem.upd_self _ _ _ | assumption | refine Mem.upd_ne (by assumption) ?_) htw)) goes14 (ac ((by first | exact v_raw rfl | exact v_sptr rfl)) (ac (v_raw rfl) (ac (v_raw rfl) (ac (v_raw rfl) (ac (v_raw rfl) ac_nil))))) rfl ?_
              rintro r M' ⟨rfl, rfl⟩
              refine o_nil ?_
              refine s_region ?_
              refine o_q (q_mv (v_raw rfl)) rfl rfl rfl ?_
              refine o_q (q_add rfl rfl (wrap64 (by omega) (by omega))) rfl rfl rfl ?_
              refine o_q (q_as (v_raw rfl)) rfl rfl rfl ?_
              refine o_nil ?_
              refine s_blk_normal ?_
              refine s_inv ?_
              exact ⟨_, _, _, v + 1, c, a, St.mkT (kp (kp (kp (kp (kp (kp (kp rfl rfl) rfl) rfl) rfl) rfl) rfl) rfl).symm, (by repeat first | exact hle | exact Mem.le_refl M | assumption | exact Mem.none_of_le hle (by assumption) | refine Mem.le_upd ?_ ?_), (by repeat first | exact Mem.upd_self _ _ _ | assumption | refine Mem.upd_ne (by assumption) ?_), (by repeat first | exact Mem.upd_self _ _ _ | assumption | refine Mem.upd_ne (by assumption) ?_), (by repeat first | exact Mem.upd_self _ _ _ | assumption | refine Mem.upd_ne (by assumption) ?_), (tame_pub hT (by omega)).2, by omega, by omega, by omega, by omega⟩
            · have k5 := h5; try simp only [decide_eq_true_eq, decide_eq_false_iff_not, Bool.not_eq_true', Bool.not_eq_false', Bool.not_true, Bool.not_false, List.length_map, Decidable.not_not] at k5
              refine s_seq ?_
              refine s_region ?_
              refine o_q (q_eql rfl rfl) rfl rfl rfl ?_
              refine o_q (q_as (v_raw rfl)) rfl rfl rfl ?_
              refine o_nil ?_
              refine s_cond rfl (fun h6 => ?_) (fun h6 => ?_)
              · have k6 := h6; try simp only [decide_eq_true_eq, decide_eq_false_iff_not, Bool.not_eq_true', Bool.not_eq_false', Bool.not_true, Bool.not_false, List.length_map, Decidable.not_not] at k6
                refine s_seq ?_
                refine s_region ?_
                refine o_q (q_ldmw ag45 sz45 rfl (by repeat first | exact Mem.upd_self _ _ _ | assumption | refine Mem.upd_ne (by assumption) ?_) rfl rfl) rfl rfl rfl ?_
                refine o_call (((snd26 (sb c a) _).det)) goes26 (ac (v_agg rfl) ac_nil) rfl ?_
                refine o_storew rfl (by repeat first | exact Mem.upd_self _ _ _ | assumption | refine Mem.upd_ne (by assumption) ?_) (by first | exact e_agg rfl | rfl) rfl sz45 rfl rfl rfl rfl ?_
                refine o_nil ?_
                refine s_region ?_
                refine o_q (q_fr fo45_2 rfl) rfl rfl rfl ?_
                refine o_q (q_ldm ag3 sz3 rfl (by repeat first | exact Mem.upd_self _ _ _ | assumption | refine Mem.upd_ne (by assumption) ?_) rfl (v_raw rfl)) rfl rfl rfl ?_
                refine o_q (q_sub rfl rfl (wrap64 (by omega) (by omega))) rfl rfl rfl ?_
                refine o_q (q_as (v_raw rfl)) rfl rfl rfl ?_
                refine o_nil ?_
                refine s_blk_normal ?_
                refine s_inv ?_
                exact ⟨_, _, x, v, c, c, St.mkT (kp (kp (kp (kp (kp (kp (kp rfl rfl) rfl) rfl) rfl) rfl) rfl) rfl).symm, (by repeat first | exact hle | exact Mem.le_refl M | assumption | exact Mem.none_of_le hle (by assumption) | refine Mem.le_upd ?_ ?_), (by repeat first | exact Mem.upd_self _ _ _ | assumption | refine Mem.upd_ne (by assumption) ?_), (by repeat first | exact Mem.upd_self _ _ _ | assumption | refine Mem.upd_ne (by assumption) ?_), (by repeat first | exact Mem.upd_self _ _ _ | assumption | refine Mem.upd_ne (by assumption) ?_), hT, by omega, by omega, by omega, by omega⟩
              · have k6 := h6; try simp only [decide_eq_true_eq, decide_eq_false_iff_not, Bool.not_eq_true', Bool.not_eq_false', Bool.not_true, Bool.not_false, List.length_map, Decidable.not_not] at k6
                refine s_seq ?_
                refine s_region ?_
                refine o_q (q_eql rfl rfl) rfl rfl rfl ?_
                refine o_q (q_as (v_raw rfl)) rfl rfl rfl ?_
                refine o_nil ?_
                refine s_cond rfl (fun h7 => ?_) (fun h7 => ?_)
                · have k7 := h7; try simp only [decide_eq_true_eq, decide_eq_false_iff_not, Bool.not_eq_true', Bool.not_eq_false', Bool.not_true, Bool.not_false, List.length_map, Decidable.not_not] at k7
                  refine s_seq ?_
                  refine s_region ?_
                  refine o_q (q_mv ((by first | exact v_raw rfl | exact v_sptr rfl))) rfl rfl rfl ?_
                  refine o_q (q_mv (v_raw rfl)) rfl rfl rfl ?_
                  refine o_q (q_add rfl rfl (wrap64 (by omega) (by omega))) rfl rfl rfl ?_
                  refine o_call ((readE (x := x) (l := readL x.recs a 1000) t w _ (by rw [show a - 1 + 1 = a by omega]) (by repeat first | exact Mem.upd_self _ _ _ | assumption | refine Mem.upd_ne (by assumption) ?_) hT.srt (by have := hT.len; omega))) goes15 (ac ((by first | exact v_raw rfl | exact v_sptr rfl)) (ac (v_raw rfl) (ac (v_raw rfl) ac_nil))) rfl ?_
                  refine o_q (q_as (v_sl rfl)) rfl rfl rfl ?_
                  refine o_nil ?_
                  refine s_seq ?_
                  refine s_region ?_
                  refine o_q (q_as (v_sl rfl)) rfl rfl rfl ?_
                  refine o_nil ?_
                  refine s_seq ?_
                  refine s_draw rfl ?_
                  refine d_q rfl (q_ldmw ag45 sz45 rfl (by repeat first | exact Mem.upd_self _ _ _ | assumption | refine Mem.upd_ne (by assumption) ?_) rfl rfl) rfl rfl rfl ?_
                  refine d_q rfl (q_mv ((by first | exact v_raw rfl | exact v_sptr rfl))) rfl rfl rfl ?_
                  refine d_q rfl (q_fr fo55_1 rfl) rfl rfl rfl ?_
                  refine d_q rfl (q_ldm ag3 sz3 rfl (by repeat first | exact Mem.upd_self _ _ _ | assumption | refine Mem.upd_ne (by assumption) ?_) rfl (v_raw rfl)) rfl rfl rfl ?_
                  refine d_s rfl ?_
                  refine o_call ((pickE _ he (by decide) (by decide) hqi.2)) goes22 (ac (v_raw rfl) (ac (v_raw rfl) ac_nil)) rfl ?_
                  refine o_nil ⟨(by simp [Mem.upd, *]), ?_⟩
                  refine d_q rfl (q_add rfl rfl (wrap64 (by omega) (by omega))) rfl rfl rfl ?_
                  refine d_s rfl ?_
                  refine o_call ((pollD t w _ hT (by omega) hp (by repeat first | exact Mem.upd_self _ _ _ | assumption | refine Mem.upd_ne (by assumption) ?_) (by repeat first | exact Mem.upd_self _ _ _ | assumption | refine Mem.upd_ne (by assumption) ?_) htw)) goes24 (ac (v_agg rfl) (ac ((by first | exact v_raw rfl | exact v_sptr rfl)) (ac (v_raw rfl) ac_nil))) rfl ?_
                  refine o_nil ⟨(by simp [Mem.upd, *]), ?_⟩
                  refine d_q rfl (q_mv (v_tup rfl)) rfl rfl rfl ?_
                  refine d_q rfl (q_ext rfl rfl (v_agg rfl)) rfl rfl rfl ?_
                  refine d_q rfl (q_ext rfl rfl (v_sl rfl)) rfl rfl rfl ?_
                  refine d_q rfl (q_ext rfl rfl (v_raw rfl)) rfl rfl rfl ?_
                  refine d_s rfl ?_
                  refine o_storew rfl (by repeat first | exact Mem.upd_self _ _ _ | assumption | refine Mem.upd_ne (by assumption) ?_) (by first | exact e_agg rfl | rfl) rfl sz45 rfl rfl rfl rfl ?_
                  refine o_nil ⟨(by simp [Mem.upd, *]), ?_⟩
                  refine d_q rfl (q_as (v_sl rfl)) rfl rfl rfl ?_
                  refine d_q rfl (q_as (v_raw rfl)) rfl rfl rfl ?_
                  refine d_nil ?_
                  refine s_seq ?_
                  refine s_seq ?_
                  refine s_region ?_
                  refine o_q (q_mv (v_raw rfl)) rfl rfl rfl ?_
                  refine o_q (q_neq rfl rfl) rfl rfl rfl ?_
                  refine o_nil ?_
                  refine s_cond rfl (fun h8 => ?_) (fun h8 => ?_)
                  · have k8 := h8; try simp only [decide_eq_true_eq, decide_eq_false_iff_not, Bool.not_eq_true', Bool.not_eq_false', Bool.not_true, Bool.not_false, List.length_map, Decidable.not_not] at k8
                    first | exact absurd rfl k8 | exact absurd trivial k8
                  · have k8 := h8; try simp only [decide_eq_true_eq, decide_eq_false_iff_not, Bool.not_eq_true', Bool.not_eq_false', Bool.not_true, Bool.not_false, List.length_map, Decidable.not_not] at k8
                    refine s_skip ?_
                    refine s_seq ?_
                    refine s_region ?_
                    refine o_q (q_as (v_raw rfl)) rfl rfl rfl ?_
                    refine o_nil ?_
                    refine s_block ?_
                    refine s_loop (fun m S => ∃ T, ∃ M' : Mem, ∃ k : Nat, S = ⟨setT (setT (setT (setT (setT (setT (setT (setT (setT (setT T 2 (.sl (l.map encD2) o)) 7 (bool true)) 8 (ptr t)) 10 (int (v : Nat))) 11 (ptr B1)) 13 (int (lastF L a k))) 14 (int (i : Nat))) 16 (.sl ((readL x.recs a 1000).map enc) false)) 17 (.sl (L.map enc) false)) 18 (int (k : Nat)), M'⟩ ∧ M.le M' ∧ M' t = some (.cells (tpC w (x))) ∧ M' w = some (tpK (x)) ∧ M' B1 = some (.cells (sbC (sb c (lastF L a L.length + 1)))) ∧ k ≤ L.length ∧ m = L.length - k) L.length ?_ ?_
                    · exact ⟨_, _, 0, St.mkT (kp (kp (kp (kp (kp (kp (kp (kp (kp (kp rfl rfl) rfl) rfl) rfl) rfl) rfl) rfl) rfl) rfl) rfl).symm, (by repeat first | exact hle | exact Mem.le_refl M | assumption | exact Mem.none_of_le hle (by assumption) | refine Mem.le_upd ?_ ?_), (by repeat first | exact Mem.upd_self _ _ _ | assumption | refine Mem.upd_ne (by assumption) ?_), (by repeat first | exact Mem.upd_self _ _ _ | assumption | refine Mem.upd_ne (by assumption) ?_), (by repeat first | exact Mem.upd_self _ _ _ | assumption | refine Mem.upd_ne (by assumption) ?_), by omega, rfl⟩
                    rintro m S ⟨T, M', k, rfl, hle, ht, hw, hB, hk, rfl⟩
                    refine s_seq ?_
                    refine s_seq ?_
                    refine s_region ?_
                    refine o_q (q_mv (v_raw rfl)) rfl rfl rfl ?_
                    refine o_q (q_mv (v_sl rfl)) rfl rfl rfl ?_
                    refine o_q (q_len rfl und28 rfl) rfl rfl rfl ?_
                    refine o_q (q_lss rfl rfl) rfl rfl rfl ?_
                    refine o_nil ?_
                    refine s_cond rfl (fun h9 => ?_) (fun h9 => ?_)
                    · have k9 := h9; try simp only [decide_eq_true_eq, decide_eq_false_iff_not, Bool.not_eq_true', Bool.not_eq_false', Bool.not_true, Bool.not_false, List.length_map, Decidable.not_not] at k9
                      obtain ⟨⟨hkB, hkE⟩, hkl, hkn, hkv, hk0⟩ := hLj k (by omega)
                      refine s_skip ?_
                      refine s_seq ?_
                      refine s_block ?_
                      refine s_seq ?_
                      refine s_seq ?_
                      refine s_draw rfl ?_
                      refine d_q rfl (q_mv (v_sl rfl)) rfl rfl rfl ?_
                      refine d_q rfl (q_mv (v_raw rfl)) rfl rfl rfl ?_
                      refine d_q rfl (q_idx und28 sz35 rfl rfl (by omega) (gm (l := L) k (by first | omega | simp)) rfl) rfl rfl rfl ?_
                      refine d_q rfl (q_f fo35_0 rfl) rfl rfl rfl ?_
                      refine d_q rfl (q_ld ag3 sz3 rfl (gm (l := L) k (by first | omega | simp)) rfl (v_raw rfl)) rfl rfl rfl ?_
                      refine d_q rfl (q_mv (v_raw rfl)) rfl rfl rfl ?_
                      refine d_q rfl (q_leq rfl rfl) rfl rfl rfl ?_
                      refine d_q rfl (q_mv (v_raw rfl)) rfl rfl rfl ?_
                      refine d_cases (want := false) (j := 7) rfl rfl (fun h10 => ?_) (fun h10 => ?_)
                      · have k10 := h10; try simp only [decide_eq_true_eq, decide_eq_false_iff_not, Bool.not_eq_true', Bool.not_eq_false', Bool.not_true, Bool.not_false, List.length_map, Decidable.not_not] at k10
                        refine d_yes rfl (q_mv (v_sl rfl)) rfl rfl rfl h10 rfl rfl ?_
                        refine d_yes rfl (q_mv (v_raw rfl)) rfl rfl rfl h10 rfl rfl ?_
                        refine d_yes rfl (q_idx und28 sz35 rfl rfl (by omega) (gm (l := L) k (by first | omega | simp)) rfl) rfl rfl rfl h10 rfl rfl ?_
                        refine d_yes rfl (q_lde ag35 sz35 rfl (gm (l := L) k (by first | omega | simp)) rfl rfl) rfl rfl rfl h10 rfl rfl ?_
                        refine d_yes rfl (q_mv (v_sl rfl)) rfl rfl rfl h10 rfl rfl ?_
                        refine d_yes rfl (q_mv (v_raw rfl)) rfl rfl rfl h10 rfl rfl ?_
                        refine d_yes rfl (q_idx und28 sz35 rfl rfl (by omega) (gm (l := readL x.recs a 1000) k (by first | omega | simp)) rfl) rfl rfl rfl h10 rfl rfl ?_
                        refine d_yes rfl (q_lde ag35 sz35 rfl (gm (l := readL x.recs a 1000) k (by first | omega | simp)) rfl rfl) rfl rfl rfl h10 rfl rfl ?_
                        refine d_yes rfl (q_bin' rfl rfl (binNeq _ _ _ _)) rfl rfl rfl h10 rfl rfl ?_
                        refine d_q rfl (q_pick_c (t := false) rfl h10 (v_raw rfl)) rfl rfl rfl ?_
                        refine d_nil ?_
                        refine s_cond rfl (fun h11 => ?_) (fun h11 => ?_)
                        · have k11 := h11; try simp only [decide_eq_true_eq, decide_eq_false_iff_not, Bool.not_eq_true', Bool.not_eq_false', Bool.not_true, Bool.not_false, List.length_map, Decidable.not_not] at k11
                          exact absurd hkE k11
                        · have k11 := h11; try simp only [decide_eq_true_eq, decide_eq_false_iff_not, Bool.not_eq_true', Bool.not_eq_false', Bool.not_true, Bool.not_false, List.length_map, Decidable.not_not] at k11
                          refine s_skip ?_
                          refine s_region ?_
                          refine o_q (q_mv (v_sl rfl)) rfl rfl rfl ?_
                          refine o_q (q_mv (v_raw rfl)) rfl rfl rfl ?_
                          refine o_q (q_idx und28 sz35 rfl rfl (by omega) (gm (l := L) k (by first | omega | simp)) rfl) rfl rfl rfl ?_
                          refine o_q (q_f fo35_0 rfl) rfl rfl rfl ?_
                          refine o_q (q_ld ag3 sz3 rfl (gm (l := L) k (by first | omega | simp)) rfl (v_raw rfl)) rfl rfl rfl ?_
                          refine o_q (q_as (v_raw rfl)) rfl rfl rfl ?_
                          refine o_nil ?_
                          refine s_blk_normal ?_
                          refine s_region ?_
                          refine o_q (q_mv (v_raw rfl)) rfl rfl rfl ?_
                          refine o_q (q_add rfl rfl (wrap64 (by omega) (by omega))) rfl rfl rfl ?_
                          refine o_q (q_as (v_raw rfl)) rfl rfl rfl ?_
                          refine o_nil ?_
                          refine s_inv ?_
                          exact ⟨L.length - (k + 1), by omega, _, _, k + 1, St.mkT (kp (kp (kp (kp (kp (kp (kp (kp (kp (kp rfl rfl) rfl) rfl) rfl) rfl) (congrArg int hkn.symm)) rfl) rfl) rfl) rfl).symm, hle, ht, hw, hB, by omega, rfl⟩
                      · have k10 := h10; try simp only [decide_eq_true_eq, decide_eq_false_iff_not, Bool.not_eq_true', Bool.not_eq_false', Bool.not_true, Bool.not_false, List.length_map, Decidable.not_not] at k10
                        exfalso; omega
                    · have k9 := h9; try simp only [decide_eq_true_eq, decide_eq_false_iff_not, Bool.not_eq_true', Bool.not_eq_false', Bool.not_true, Bool.not_false, List.length_map, Decidable.not_not] at k9
                      refine s_exit ?_
                      refine s_code_exit ?_
                      refine s_inv_exit ?_
                      refine s_blk_here ?_
                      refine s_blk_normal ?_
                      refine s_inv ?_
                      obtain rfl : k = L.length := by omega
                      exact ⟨_, _, x, v, c, lastF L a L.length + 1, St.mkT (kp (kp (kp (kp (kp (kp (kp rfl rfl) rfl) rfl) rfl) rfl) (congrArg int (show lastF L a L.length = lastF L a L.length + 1 - 1 by omega))) rfl).symm, (by repeat first | exact hle | exact Mem.le_refl M | assumption | exact Mem.none_of_le hle (by assumption) | refine Mem.le_upd ?_ ?_), (by repeat first | exact Mem.upd_self _ _ _ | assumption | refine Mem.upd_ne (by assumption) ?_), (by repeat first | exact Mem.upd_self _ _ _ | assumption | refine Mem.upd_ne (by assumption) ?_), (by repeat first | exact Mem.upd_self _ _ _ | assumption | refine Mem.upd_ne (by assumption) ?_), hT, by omega, by omega, by omega, by omega⟩
                · have k7 := h7; try simp only [decide_eq_true_eq, decide_eq_false_iff_not, Bool.not_eq_true', Bool.not_eq_false', Bool.not_true, Bool.not_false, List.length_map, Decidable.not_not] at k7
                  refine s_seq ?_
                  refine s_region ?_
                  refine o_q (q_eql rfl rfl) rfl rfl rfl ?_
                  refine o_q (q_as (v_raw rfl)) rfl rfl rfl ?_
                  refine o_nil ?_
                  refine s_cond rfl (fun h12 => ?_) (fun h12 => ?_)
                  · have k12 := h12; try simp only [decide_eq_true_eq, decide_eq_false_iff_not, Bool.not_eq_true', Bool.not_eq_false', Bool.not_true, Bool.not_false, List.length_map, Decidable.not_not] at k12
                    refine s_region ?_
                    refine o_q (q_ldmw ag45 sz45 rfl (by repeat first | exact Mem.upd_self _ _ _ | assumption | refine Mem.upd_ne (by assumption) ?_) rfl rfl) rfl rfl rfl ?_
                    refine o_q (q_fr fo55_1 rfl) rfl rfl rfl ?_
                    refine o_q (q_ldm ag3 sz3 rfl (by repeat first | exact Mem.upd_self _ _ _ | assumption | refine Mem.upd_ne (by assumption) ?_) rfl (v_raw rfl)) rfl rfl rfl ?_
                    refine o_call ((ackE _ hp3)) goes25 (ac (v_agg rfl) (ac (v_raw rfl) ac_nil)) rfl ?_
                    refine o_q (q_mv (v_tup rfl)) rfl rfl rfl ?_
                    refine o_q (q_ext rfl rfl (v_agg rfl)) rfl rfl rfl ?_
                    refine o_q (q_ext rfl rfl (v_raw rfl)) rfl rfl rfl ?_
                    refine o_storew rfl (by repeat first | exact Mem.upd_self _ _ _ | assumption | refine Mem.upd_ne (by assumption) ?_) (by first | exact e_agg rfl | rfl) rfl sz45 rfl rfl rfl rfl ?_
                    refine o_nil ?_
                    refine s_blk_normal ?_
                    refine s_inv ?_
                    exact ⟨_, _, x, v, c3, a, St.mkT (kp (kp (kp (kp (kp (kp (kp rfl rfl) rfl) rfl) rfl) rfl) rfl) rfl).symm, (by repeat first | exact hle | exact Mem.le_refl M | assumption | exact Mem.none_of_le hle (by assumption) | refine Mem.le_upd ?_ ?_), (by repeat first | exact Mem.upd_self _ _ _ | assumption | refine Mem.upd_ne (by assumption) ?_), (by repeat first | exact Mem.upd_self _ _ _ | assumption | refine Mem.upd_ne (by assumption) ?_), (by repeat first | exact Mem.upd_self _ _ _ | assumption | refine Mem.upd_ne (by assumption) ?_), hT, by omega, by omega, by omega, by omega⟩
                  · have k12 := h12; try simp only [decide_eq_true_eq, decide_eq_false_iff_not, Bool.not_eq_true', Bool.not_eq_false', Bool.not_true, Bool.not_false, List.length_map, Decidable.not_not] at k12
                    refine s_seq ?_
                    refine s_region ?_
                    refine o_q (q_eql rfl rfl) rfl rfl rfl ?_
                    refine o_q (q_as (v_raw rfl)) rfl rfl rfl ?_
                    refine o_nil ?_
                    refine s_cond rfl (fun h13 => ?_) (fun h13 => ?_)
                    · have k13 := h13; try simp only [decide_eq_true_eq, decide_eq_false_iff_not, Bool.not_eq_true', Bool.not_eq_false', Bool.not_true, Bool.not_false, List.length_map, Decidable.not_not] at k13
                      obtain ⟨s', r, hsk, hsk2⟩ : ∃ s' r, seekS (sb c a) x l[i].n = (s', r) ∧ ((s' = sb l[i].n l[i].n ∧ r = 0 ∧ 0 ≤ l[i].n ∧ l[i].n ≤ v) ∨ (s' = sb c a ∧ r = 7)) := by
                        rcases tame_seek hT l[i].n ⟨hc0, hca, by omega⟩ with ⟨h, h1, h2⟩ | h
                        · exact ⟨_, _, h, .inl ⟨rfl, rfl, h1, h2⟩⟩
                        · exact ⟨_, _, h, .inr ⟨rfl, rfl⟩⟩
                      refine s_seq ?_
                      refine s_region ?_
                      refine o_q (q_as (v_raw rfl)) rfl rfl rfl ?_
                      refine o_nil ?_
                      refine s_seq ?_
                      refine s_region ?_
                      refine o_q (q_ldmw ag45 sz45 rfl (by repeat first | exact Mem.upd_self _ _ _ | assumption | refine Mem.upd_ne (by assumption) ?_) rfl rfl) rfl rfl rfl ?_
                      refine o_q (q_mv ((by first | exact v_raw rfl | exact v_sptr rfl))) rfl rfl rfl ?_
                      refine o_q (q_fr fo55_1 rfl) rfl rfl rfl ?_
                      refine o_q (q_ldm ag3 sz3 rfl (by repeat first | exact Mem.upd_self _ _ _ | assumption | refine Mem.upd_ne (by assumption) ?_) rfl (v_raw rfl)) rfl rfl rfl ?_
                      refine o_call ((seekE t w _ hsk (by repeat first | exact Mem.upd_self _ _ _ | assumption | refine Mem.upd_ne (by assumption) ?_) (by repeat first | exact Mem.upd_self _ _ _ | assumption | refine Mem.upd_ne (by assumption) ?_) htw)) goes27 (ac (v_agg rfl) (ac ((by first | exact v_raw rfl | exact v_sptr rfl)) (ac (v_raw rfl) ac_nil))) rfl ?_
                      refine o_q (q_mv (v_tup rfl)) rfl rfl rfl ?_
                      refine o_q (q_ext rfl rfl (v_agg rfl)) rfl rfl rfl ?_
                      refine o_q (q_ext rfl rfl (v_raw rfl)) rfl rfl rfl ?_
                      refine o_storew rfl (by repeat first | exact Mem.upd_self _ _ _ | assumption | refine Mem.upd_ne (by assumption) ?_) (by first | exact e_agg rfl | rfl) rfl sz45 rfl rfl rfl rfl ?_
                      refine o_q (q_as (v_raw rfl)) rfl rfl rfl ?_
                      refine o_nil ?_
                      refine s_seq ?_
                      refine s_region ?_
                      refine o_q (q_mv (v_raw rfl)) rfl rfl rfl ?_
                      refine o_q (q_eql rfl rfl) rfl rfl rfl ?_
                      refine o_nil ?_
                      refine s_cond rfl (fun h14 => ?_) (fun h14 => ?_)
                      · have k14 := h14; try simp only [decide_eq_true_eq, decide_eq_false_iff_not, Bool.not_eq_true', Bool.not_eq_false', Bool.not_true, Bool.not_false, List.length_map, Decidable.not_not] at k14
                        obtain ⟨hs1, hs2, hs3, hs4⟩ := hsk2.resolve_right (fun h => by omega)
                        subst hs1
                        refine s_region ?_
                        refine o_q (q_fr fo55_1 rfl) rfl rfl rfl ?_
                        refine o_q (q_ldm ag3 sz3 rfl (by repeat first | exact Mem.upd_self _ _ _ | assumption | refine Mem.upd_ne (by assumption) ?_) rfl (v_raw rfl)) rfl rfl rfl ?_
                        refine o_q (q_sub rfl rfl (wrap64 (by omega) (by omega))) rfl rfl rfl ?_
                        refine o_q (q_as (v_raw rfl)) rfl rfl rfl ?_
                        refine o_nil ?_
                        refine s_blk_normal ?_
                        refine s_inv ?_
                        exact ⟨_, _, x, v, l[i].n, l[i].n, St.mkT (kp (kp (kp (kp (kp (kp (kp rfl rfl) rfl) rfl) rfl) rfl) rfl) rfl).symm, (by repeat first | exact hle | exact Mem.le_refl M | assumption | exact Mem.none_of_le hle (by assumption) | refine Mem.le_upd ?_ ?_), (by repeat first | exact Mem.upd_self _ _ _ | assumption | refine Mem.upd_ne (by assumption) ?_), (by repeat first | exact Mem.upd_self _ _ _ | assumption | refine Mem.upd_ne (by assumption) ?_), (by repeat first | exact Mem.upd_self _ _ _ | assumption | refine Mem.upd_ne (by assumption) ?_), hT, by omega, by omega, by omega, by omega⟩
                      · have k14 := h14; try simp only [decide_eq_true_eq, decide_eq_false_iff_not, Bool.not_eq_true', Bool.not_eq_false', Bool.not_true, Bool.not_false, List.length_map, Decidable.not_not] at k14
                        obtain ⟨hs1, hs2⟩ := hsk2.resolve_left (fun h => k14 h.2.1)
                        subst hs1
                        refine s_skip ?_
                        refine s_blk_normal ?_
                        refine s_inv ?_
                        exact ⟨_, _, x, v, c, a, St.mkT (kp (kp (kp (kp (kp (kp (kp rfl rfl) rfl) rfl) rfl) rfl) rfl) rfl).symm, (by repeat first | exact hle | exact Mem.le_refl M | assumption | exact Mem.none_of_le hle (by assumption) | refine Mem.le_upd ?_ ?_), (by repeat first | exact Mem.upd_self _ _ _ | assumption | refine Mem.upd_ne (by assumption) ?_), (by repeat first | exact Mem.upd_self _ _ _ | assumption | refine Mem.upd_ne (by assumption) ?_), (by repeat first | exact Mem.upd_self _ _ _ | assumption | refine Mem.upd_ne (by assumption) ?_), hT, by omega, by omega, by omega, by omega⟩
                    · have k13 := h13; try simp only [decide_eq_true_eq, decide_eq_false_iff_not, Bool.not_eq_true', Bool.not_eq_false', Bool.not_true, Bool.not_false, List.length_map, Decidable.not_not] at k13
                      refine s_seq ?_
                      refine s_region ?_
                      refine o_q (q_eql rfl rfl) rfl rfl rfl ?_
                      refine o_q (q_as (v_raw rfl)) rfl rfl rfl ?_
                      refine o_nil ?_
                      refine s_cond rfl (fun h15 => ?_) (fun h15 => ?_)
                      · have k15 := h15; try simp only [decide_eq_true_eq, decide_eq_false_iff_not, Bool.not_eq_true', Bool.not_eq_false', Bool.not_true, Bool.not_false, List.length_map, Decidable.not_not] at k15
                        refine s_draw rfl ?_
                        refine d_q rfl (q_mv ((by first | exact v_raw rfl | exact v_sptr rfl))) rfl rfl rfl ?_
                        refine d_q rfl (q_fr fo55_1 rfl) rfl rfl rfl ?_
                        refine d_q rfl (q_ldm ag3 sz3 rfl (by repeat first | exact Mem.upd_self _ _ _ | assumption | refine Mem.upd_ne (by assumption) ?_) rfl (v_raw rfl)) rfl rfl rfl ?_
                        refine d_q rfl (q_mv ((by first | exact v_raw rfl | exact v_sptr rfl))) rfl rfl rfl ?_
                        refine d_s rfl ?_
                        refine o_call (((snd13 t w x _ (by repeat first | exact Mem.upd_self _ _ _ | assumption | refine Mem.upd_ne (by assumption) ?_) (by repeat first | exact Mem.upd_self _ _ _ | assumption | refine Mem.upd_ne (by assumption) ?_) htw).det)) goes13 (ac ((by first | exact v_raw rfl | exact v_sptr rfl)) ac_nil) rfl ?_
                        refine o_nil ⟨(by simp [Mem.upd, *]), ?_⟩
                        refine d_q rfl (q_add rfl rfl (wrap64 (by omega) (by omega))) rfl rfl rfl ?_
                        refine d_s rfl ?_
                        refine o_call ((pickE _ hg' (by omega) (by omega) hqi.2)) goes22 (ac (v_raw rfl) (ac (v_raw rfl) ac_nil)) rfl ?_
                        refine o_nil ⟨(by simp [Mem.upd, *]), ?_⟩
                        refine d_s rfl ?_
                        refine o_callx ((trimE (y := (trimT x g).1) (a := (trimT x g).2) t w _ rfl (by repeat first | exact Mem.upd_self _ _ _ | assumption | refine Mem.upd_ne (by assumption) ?_) (by repeat first | exact Mem.upd_self _ _ _ | assumption | refine Mem.upd_ne (by assumption) ?_) htw hT.srt (by have := hT.len; omega))) goes18 (ac ((by first | exact v_raw rfl | exact v_sptr rfl)) (ac (v_raw rfl) ac_nil)) rfl ?_
                        rintro r M' ⟨rfl, rfl⟩
                        refine o_nil ⟨(by simp [Mem.upd, *]), ?_⟩
                        refine d_nil ?_
                        refine s_blk_normal ?_
                        refine s_inv ?_
                        exact ⟨_, _, (trimT x g).1, v, c, a, St.mkT (kp (kp (kp (kp (kp (kp (kp rfl rfl) rfl) rfl) rfl) rfl) rfl) rfl).symm, (by repeat first | exact hle | exact Mem.le_refl M | assumption | exact Mem.none_of_le hle (by assumption) | refine Mem.le_upd ?_ ?_), (by repeat first | exact Mem.upd_self _ _ _ | assumption | refine Mem.upd_ne (by assumption) ?_), (by repeat first | exact Mem.upd_self _ _ _ | assumption | refine Mem.upd_ne (by assumption) ?_), (by repeat first | exact Mem.upd_self _ _ _ | assumption | refine Mem.upd_ne (by assumption) ?_), (tame_trim hT ⟨by omega, by omega⟩), by omega, by omega, by omega, by omega⟩
                      · have k15 := h15; try simp only [decide_eq_true_eq, decide_eq_false_iff_not, Bool.not_eq_true', Bool.not_eq_false', Bool.not_true, Bool.not_false, List.length_map, Decidable.not_not] at k15
                        refine s_region ?_
                        refine o_q (q_mv ((by first | exact v_raw rfl | exact v_sptr rfl))) rfl rfl rfl ?_
                        refine o_q (q_fr fo55_1 rfl) rfl rfl rfl ?_
                        refine o_q (q_ldm ag3 sz3 rfl (by repeat first | exact Mem.upd_self _ _ _ | assumption | refine Mem.upd_ne (by assumption) ?_) rfl (v_raw rfl)) rfl rfl rfl ?_
                        refine o_callx ((compE (y := compT x l[i].n) t w _ rfl (by repeat first | exact Mem.upd_self _ _ _ | assumption | refine Mem.upd_ne (by assumption) ?_) (by repeat first | exact Mem.upd_self _ _ _ | assumption | refine Mem.upd_ne (by assumption) ?_) htw (by have := hT.len; omega))) goes19 (ac ((by first | exact v_raw rfl | exact v_sptr rfl)) (ac (v_raw rfl) ac_nil)) rfl ?_
                        rintro r M' ⟨rfl, rfl⟩
                        refine o_nil ?_
                        refine s_blk_normal ?_
                        refine s_inv ?_
                        exact ⟨_, _, (compT x l[i].n), v, c, a, St.mkT (kp (kp (kp (kp (kp (kp (kp rfl rfl) rfl) rfl) rfl) rfl) rfl) rfl).symm, (by repeat first | exact hle | exact Mem.le_refl M | assumption | exact Mem.none_of_le hle (by assumption) | refine Mem.le_upd ?_ ?_), (by repeat first | exact Mem.upd_self _ _ _ | assumption | refine Mem.upd_ne (by assumption) ?_), (by repeat first | exact Mem.upd_self _ _ _ | assumption | refine Mem.upd_ne (by assumption) ?_), (by repeat first | exact Mem.upd_self _ _ _ | assumption | refine Mem.upd_ne (by assumption) ?_), (tame_comp hT _), by omega, by omega, by omega, by omega⟩
          rintro S ⟨T, M', x', v', c', a', rfl, hle, ht, hw, hB, hT', hc0', hca', hav', hvv⟩
          refine s_seq ?_
          refine s_region ?_
          refine o_q (q_ldmw ag45 sz45 rfl (by repeat first | exact Mem.upd_self _ _ _ | assumption | refine Mem.upd_ne (by assumption) ?_) rfl rfl) rfl rfl rfl ?_
          refine o_call (((snd38 (sb c' a') _).det)) goes38 (ac (v_agg rfl) ac_nil) rfl ?_
          refine o_q (q_not rfl) rfl rfl rfl ?_
          refine o_q (q_mv (v_raw rfl)) rfl rfl rfl ?_
          refine o_cases (want := false) (j := 3) rfl rfl (fun h16 => ?_) (fun h16 => ?_)
          · have k16 := h16; try simp only [decide_eq_true_eq, decide_eq_false_iff_not, Bool.not_eq_true', Bool.not_eq_false', Bool.not_true, Bool.not_false, List.length_map, Decidable.not_not] at k16
            refine o_yes rfl rfl rfl h16 ?_
            refine o_q (q_fr fo45_3 rfl) rfl rfl rfl ?_
            refine o_yes rfl rfl rfl h16 ?_
            refine o_q (q_ldm ag3 sz3 rfl (by repeat first | exact Mem.upd_self _ _ _ | assumption | refine Mem.upd_ne (by assumption) ?_) rfl (v_raw rfl)) rfl rfl rfl ?_
            refine o_yes rfl rfl rfl h16 ?_
            refine o_q (q_mv (v_raw rfl)) rfl rfl rfl ?_
            refine o_yes rfl rfl rfl h16 ?_
            refine o_q (q_add rfl rfl (wrap64 (by omega) (by omega))) rfl rfl rfl ?_
            refine o_yes rfl rfl rfl h16 ?_
            refine o_q (q_neq rfl rfl) rfl rfl rfl ?_
            refine o_q (q_pick_c (t := false) rfl h16 (v_raw rfl)) rfl rfl rfl ?_
            refine o_nil ?_
            refine s_cond rfl (fun h17 => ?_) (fun h17 => ?_)
            · have k17 := h17; try simp only [decide_eq_true_eq, decide_eq_false_iff_not, Bool.not_eq_true', Bool.not_eq_false', Bool.not_true, Bool.not_false, List.length_map, Decidable.not_not] at k17
              exact absurd (show a' = a' - 1 + 1 by omega) k17
            · have k17 := h17; try simp only [decide_eq_true_eq, decide_eq_false_iff_not, Bool.not_eq_true', Bool.not_eq_false', Bool.not_true, Bool.not_false, List.length_map, Decidable.not_not] at k17
              refine s_skip ?_
              refine s_blk_normal ?_
              refine s_region ?_
              refine o_q (q_mv (v_raw rfl)) rfl rfl rfl ?_
              refine o_q (q_add rfl rfl (wrap64 (by omega) (by omega))) rfl rfl rfl ?_
              refine o_q (q_as (v_raw rfl)) rfl rfl rfl ?_
              refine o_nil ?_
              refine s_inv ?_
              exact ⟨l.length - (i + 1), by omega, _, _, x', v', i + 1, c', a', St.mkT (kp (kp (kp (kp (kp (kp (kp rfl rfl) rfl) rfl) rfl) rfl) rfl) rfl).symm, hle, ht, hw, hB, hT', by omega, by omega, by omega, by omega, by omega, by omega, rfl⟩
          · have k16 := h16; try simp only [decide_eq_true_eq, decide_eq_false_iff_not, Bool.not_eq_true', Bool.not_eq_false', Bool.not_true, Bool.not_false, List.length_map, Decidable.not_not] at k16
            exfalso; rw [right_sb (by omega)] at h16; cases h16
        · have k4 := h4; try simp only [decide_eq_true_eq, decide_eq_false_iff_not, Bool.not_eq_true', Bool.not_eq_false', Bool.not_true, Bool.not_false, List.length_map, Decidable.not_not] at k4
          refine s_exit ?_
          refine s_code_exit ?_
          refine s_inv_exit ?_
          refine s_blk_here ?_
          refine s_seq ?_
          refine s_region ?_
          refine o_q (q_mv (v_raw rfl)) rfl rfl rfl ?_
          refine o_q (q_as (v_raw rfl)) rfl rfl rfl ?_
          refine o_nil ?_
          refine s_ret ?_
          refine s_end ?_
          exact ⟨rfl, (by repeat first | exact hle | exact Mem.le_refl M | assumption | exact Mem.none_of_le hle (by assumption) | refine Mem.le_upd ?_ ?_)⟩
      · have k3 := h3; try simp only [decide_eq_true_eq, decide_eq_false_iff_not, Bool.not_eq_true', Bool.not_eq_false', Bool.not_true, Bool.not_false, List.length_map, Decidable.not_not] at k3
        refine o_no rfl rfl rfl rfl h3 ?_
        refine o_no rfl rfl rfl rfl h3 ?_
        refine o_q (q_pick_c (t := false) rfl h3 (v_raw rfl)) rfl rfl rfl ?_
        refine o_nil ?_
        refine s_else rfl rfl ?_
        refine s_exit ?_
        refine s_code_exit ?_
        refine s_inv_exit ?_
        refine s_blk_here ?_
        refine s_seq ?_
        refine s_region ?_
        refine o_q (q_mv (v_raw rfl)) rfl rfl rfl ?_
        refine o_q (q_as (v_raw rfl)) rfl rfl rfl ?_
        refine o_nil ?_
        refine s_ret ?_
        refine s_end ?_
        exact ⟨rfl, (by repeat first | exact hle | exact Mem.le_refl M | assumption | exact Mem.none_of_le hle (by assumption) | refine Mem.le_upd ?_ ?_)⟩
end C15
