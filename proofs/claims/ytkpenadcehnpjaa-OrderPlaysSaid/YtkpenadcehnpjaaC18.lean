import Derived.Test.YtkpenadcehnpjaaAm44
import Derived.Test.YtkpenadcehnpjaaProg
/-! Chapter 18: orders: what their functions compute. -/
open Go Go.Proofs Go.Am
set_option linter.unusedVariables false
set_option linter.unusedSimpArgs false
set_option autoImplicit false
namespace C18
theorem ag3 : aggT Try.prog 3 = some false := by kernel_rfl
theorem ag22 : aggT Try.prog 22 = some false := by kernel_rfl
theorem ag25 : aggT Try.prog 25 = some false := by kernel_rfl
theorem fo66_0 : fo Try.prog 66 0 = some (0, 1) := by kernel_rfl
theorem fo66_1 : fo Try.prog 66 1 = some (1, 1) := by kernel_rfl
theorem fo66_2 : fo Try.prog 66 2 = some (2, 1) := by kernel_rfl
theorem fo66_3 : fo Try.prog 66 3 = some (3, 1) := by kernel_rfl
theorem fo66_4 : fo Try.prog 66 4 = some (4, 1) := by kernel_rfl
theorem fo66_5 : fo Try.prog 66 5 = some (5, 7) := by kernel_rfl
theorem slt22 : SlT Try.prog 22 9 1 16 := ⟨by kernel_rfl, by kernel_rfl, by kernel_rfl, by kernel_rfl, by decide⟩
theorem slt25 : SlT Try.prog 25 3 1 8 := ⟨by kernel_rfl, by kernel_rfl, by kernel_rfl, by kernel_rfl, by decide⟩
theorem sz3 : sizeT Try.prog 3 = some 1 := by kernel_rfl
theorem sz9 : sizeT Try.prog 9 = some 1 := by kernel_rfl
theorem sz22 : sizeT Try.prog 22 = some 1 := by kernel_rfl
theorem sz25 : sizeT Try.prog 25 = some 1 := by kernel_rfl
theorem und3 : Try.prog.underlying 3 = some (.int .i64) := by kernel_rfl
theorem und5 : Try.prog.underlying 5 = some (.int .u8) := by kernel_rfl
theorem und9 : Try.prog.underlying 9 = some .string := by kernel_rfl
theorem und22 : Try.prog.underlying 22 = some (.slice 9) := by kernel_rfl
theorem und25 : Try.prog.underlying 25 = some (.slice 3) := by kernel_rfl
theorem und64 : Try.prog.underlying 64 = some (.array 7 3) := by kernel_rfl
theorem und74 : Try.prog.underlying 74 = some (.int .u64) := by kernel_rfl
theorem und86 : Try.prog.underlying 86 = some (.int .u64) := by kernel_rfl
theorem zc64 : zeroCellsT Try.prog 64 = some [.raw (.int .i64 0), .raw (.int .i64 0), .raw (.int .i64 0), .raw (.int .i64 0), .raw (.int .i64 0), .raw (.int .i64 0), .raw (.int .i64 0)] := by kernel_rfl
theorem mixed : Try.prog.follows .mixedOrders = true := by kernel_rfl
def int (n : Int) : AVal := .raw (.int .i64 n)
def str (s : ByteArray) : AVal := .raw (.string s)
def ptr (b : Nat) : AVal := .raw (.pointer (some ⟨b, 0, none⟩))
def bool (b : Bool) : AVal := .raw (.bool b)
def rsl (b n c : Nat) : AVal := .raw (.slice (some ⟨b, 0, none⟩) n c)

def tk60 : Nat → Nat → Option Nat := fun _ _ => none
def pl60 : Nat → List PStep := fun _ => []
theorem cb60 : Try.f60.body.map (codeB Try.prog Try.f60.ntmps tk60 pl60) = some true := by kernel_rfl
theorem goes60 : goesB Try.prog 60 = true := by kernel_rfl
-- cmp.isNaN[int] params ['int'] results [['t', 2]] own [] names ['0:x', '1:x'] calls [] paths 1
set_option maxHeartbeats 4000000 in
set_option maxRecDepth 20000 in
theorem snd60 (x : Int) (M : Mem) : SoundCall Try.prog 60 [int x] M fun r M' => r = bool false ∧ M' = M := by
  refine SoundCall.go tk60 pl60 mixed Try.func60 cb60 rfl (Nat.le_of_ble_eq_true rfl) ?_
  refine s_seq ?_
  refine s_region ?_
  refine o_q (q_as (v_raw rfl)) rfl rfl rfl ?_
  refine o_nil ?_
  refine s_seq ?_
  refine s_region ?_
  refine o_q (q_mv (v_raw rfl)) rfl rfl rfl ?_
  refine o_q (q_mv (v_raw rfl)) rfl rfl rfl ?_
  refine o_q (q_neq rfl rfl) rfl rfl rfl ?_
  refine o_q (q_as (v_raw rfl)) rfl rfl rfl ?_
  refine o_nil ?_
  refine s_ret ?_
  refine s_end ?_
  exact ⟨congrArg bool (by simp), rfl⟩

def tk50 : Nat → Nat → Option Nat := fun _ _ => none
def pl50 : Nat → List PStep := fun _ => []
theorem cb50 : Try.f50.body.map (codeB Try.prog Try.f50.ntmps tk50 pl50) = some true := by kernel_rfl
theorem goes50 : goesB Try.prog 50 = true := by kernel_rfl
-- cmp.Less[int] params ['int', 'int'] results [['t', 4]] own [] names ['0:x', '1:y', '2:x', '3:y'] calls [60] paths 1
set_option maxHeartbeats 4000000 in
set_option maxRecDepth 20000 in
theorem snd50 (x y : Int) (M : Mem) : SoundCall Try.prog 50 [int x, int y] M fun r M' => r = bool (decide (x < y)) ∧ M' = M := by
  refine SoundCall.go tk50 pl50 mixed Try.func50 cb50 rfl (Nat.le_of_ble_eq_true rfl) ?_
  refine s_seq ?_
  refine s_region ?_
  refine o_q (q_as (v_raw rfl)) rfl rfl rfl ?_
  refine o_nil ?_
  refine s_seq ?_
  refine s_region ?_
  refine o_q (q_mv (v_raw rfl)) rfl rfl rfl ?_
  refine o_call ((snd60 x _)) goes60 (ac (v_raw rfl) ac_nil) rfl ?_
  refine o_q (q_mv (v_raw rfl)) rfl rfl rfl ?_
  refine o_no rfl rfl rfl rfl rfl ?_
  refine o_no rfl rfl rfl rfl rfl ?_
  refine o_no rfl rfl rfl rfl rfl ?_
  refine o_q (q_pick_c (t := false) rfl rfl (v_raw rfl)) rfl rfl rfl ?_
  refine o_q (q_mv (v_raw rfl)) rfl rfl rfl ?_
  refine o_yes rfl rfl rfl rfl ?_
  refine o_q (q_mv (v_raw rfl)) rfl rfl rfl ?_
  refine o_yes rfl rfl rfl rfl ?_
  refine o_q (q_mv (v_raw rfl)) rfl rfl rfl ?_
  refine o_yes rfl rfl rfl rfl ?_
  refine o_q (q_lss rfl rfl) rfl rfl rfl ?_
  refine o_q (q_pick_c (t := false) rfl rfl (v_raw rfl)) rfl rfl rfl ?_
  refine o_q (q_as (v_raw rfl)) rfl rfl rfl ?_
  refine o_nil ?_
  refine s_ret ?_
  refine s_end ?_
  exact ⟨rfl, rfl⟩

def tk44 : Nat → Nat → Option Nat := fun _ _ => none
def pl44 : Nat → List PStep
  | 4 => [.q 0, .q 1, .q 2, .q 3, .q 4, .q 5, .q 6, .q 7, .q 8, .q 9, .q 10, .q 11, .q 12, .s 13 [11, 10, 9, 8, 6, 5, 4, 2, 1, 0], .q 14]
  | 6 => [.q 0, .q 1, .q 2, .q 3, .q 4, .q 5, .q 6, .q 7, .q 8, .q 9, .q 10, .q 11, .q 12, .q 13, .q 14, .s 15 [12, 11, 10, 4, 3, 2], .q 16, .s 17 []]
  | _ => []
theorem cb44 : Try.f44.body.map (codeB Try.prog Try.f44.ntmps tk44 pl44) = some true := by kernel_rfl
theorem goes44 : goesB Try.prog 44 = true := by kernel_rfl
-- slices.insertionSortOrdered[int] params ['[]int', 'int', 'int'] results [] own [] names ['0:data', '1:a', '2:b', '3:data', '4:a', '5:b', '6:i', '7:j'] calls [50] paths 4

/-- Sorted but for what stands at j. -/
def Near (l : List Int) (i j : Nat) : Prop := ∀ p q, ∀ hq : q < l.length, ∀ hpq : p < q, q ≤ i → q ≠ j → l[p] ≤ l[q]
abbrev swp (l : List Int) (j : Nat) : List Int := (l.set j (l.getD (j - 1) 0)).set (j - 1) (l.getD j 0)
theorem swp_len (l : List Int) (j : Nat) : (swp l j).length = l.length := by simp [swp]
theorem swp_get {l : List Int} {j p : Nat} (hj : j < l.length) (h0 : 0 < j) (hp : p < (swp l j).length) : (swp l j)[p] = if p = j - 1 then l[j] else if p = j then l[j - 1] else l[p]'(by rw [swp_len] at hp; exact hp) := by
  have hp' : p < l.length := by rw [swp_len] at hp; exact hp
  unfold swp
  rw [List.getElem_set]
  by_cases h1 : j - 1 = p
  · rw [if_pos h1, if_pos h1.symm]; simp [List.getD, hj]
  · rw [if_neg h1, if_neg (fun h => h1 h.symm), List.getElem_set]
    by_cases h2 : j = p
    · rw [if_pos h2, if_pos h2.symm]; simp [List.getD, show j - 1 < l.length by omega]
    · rw [if_neg h2, if_neg (fun h => h2 h.symm)]
theorem near_swp {l : List Int} {i j : Nat} (h : Near l i j) (hi : i < l.length) (hj : j ≤ i) (h0 : 0 < j) (hlt : l[j]'(by omega) < l[j - 1]'(by omega)) : Near (swp l j) i (j - 1) := by
  intro p q hq hpq hqi hne
  have hq' : q < l.length := by rw [swp_len] at hq; exact hq
  rw [swp_get (by omega) h0, swp_get (by omega) h0]
  by_cases e1 : q = j
  · subst e1
    rw [if_neg hne, if_pos rfl]
    by_cases e2 : p = q - 1
    · rw [if_pos e2]; omega
    · rw [if_neg e2, if_neg (by omega)]
      exact h p (q - 1) (by omega) (by omega) (by omega) (by omega)
  · rw [if_neg hne, if_neg e1]
    by_cases e2 : p = j - 1
    · rw [if_pos e2]; subst e2; exact h j q hq' (by omega) hqi e1
    · rw [if_neg e2]
      by_cases e3 : p = j
      · rw [if_pos e3]; exact h (j - 1) q hq' (by omega) hqi e1
      · rw [if_neg e3]; exact h p q hq' hpq hqi e1
theorem near_done {l : List Int} {i j : Nat} (h : Near l i j) (hi : i < l.length) (hj : j ≤ i) (hok : j = 0 ∨ ∃ h0 : 0 < j, l[j - 1]'(by omega) ≤ l[j]'(by omega)) : ∀ p q, ∀ hq : q < l.length, ∀ hpq : p < q, q ≤ i → l[p] ≤ l[q] := by
  intro p q hq hpq hqi
  by_cases e : q = j
  · subst e
    rcases hok with h' | ⟨h0, h'⟩
    · omega
    · by_cases e2 : p = q - 1
      · subst e2; exact h'
      · exact Int.le_trans (h p (q - 1) (by omega) (by omega) (by omega) (by omega)) h'
  · exact h p q hq hpq hqi e
theorem swp_perm {l : List Int} {j n : Nat} (hj : j < n) (hn : n ≤ l.length) (h0 : 0 < j) : ((swp l j).take n).Perm (l.take n) ∧ (swp l j).drop n = l.drop n := by
  have e : (swp l j).take n = ((l.take n).set j ((l.take n)[j - 1]'(by rw [List.length_take]; omega))).set (j - 1) ((l.take n)[j]'(by rw [List.length_take]; omega)) := by
    unfold swp
    rw [List.take_set, List.take_set]
    congr 1
    · congr 1
      rw [List.getElem_take]; simp [List.getD, show j - 1 < l.length by omega]
    · rw [List.getElem_take]; simp [List.getD, show j < l.length by omega]
  constructor
  · rw [e]
    exact List.set_set_perm (by rw [List.length_take]; omega) (by rw [List.length_take]; omega)
  · unfold swp
    rw [List.drop_set_of_lt (by omega), List.drop_set_of_lt (by omega)]

def Srt (l l' : List Int) (n k : Nat) : Prop := l'.length = l.length ∧ (l'.take n).Perm (l.take n) ∧ l'.drop n = l.drop n ∧ ∀ p q, ∀ hq : q < l'.length, ∀ hpq : p < q, q < k → l'[p] ≤ l'[q]
theorem pcI {l : List Int} {off j : Nat} (h : off = j) (hj : j < l.length) : piece false (l.map fun n => (AVal.raw (.int .i64 n))) off 1 = some (.raw (.int .i64 l[j])) := by
  subst h
  show (l.map _)[off]? = _
  rw [List.getElem?_map, List.getElem?_eq_getElem hj]; rfl
theorem sp_set {l : List Int} {off j : Nat} {v : Int} (h : off = j) (hj : j < l.length) : splice (l.map fun n => (AVal.raw (.int .i64 n))) off ((AVal.raw (.int .i64 v)).cells.map AVal.shut) = (l.set j v).map fun n => (AVal.raw (.int .i64 n)) := by
  subst h
  rw [List.set_eq_take_append_cons_drop, if_pos hj, List.map_append, List.map_cons, List.map_take, List.map_drop]
  show (l.map _).take off ++ [AVal.raw (.int .i64 v)] ++ (l.map _).drop (off + 1) = _
  rw [List.append_assoc]
  rfl
set_option maxHeartbeats 4000000 in
set_option maxRecDepth 20000 in
theorem snd44 (b c n : Nat) (l : List Int) (M : Mem) (hb : M b = some (.cells (l.map fun n => (AVal.raw (.int .i64 n))))) (hn : n ≤ l.length) (hl : l.length < 2 ^ 40) : SoundCall Try.prog 44 [rsl b n c, int 0, int n] M fun r M' => ∃ l', r = .tup [] ∧ M' = M.upd b (.cells ((l').map fun n => (AVal.raw (.int .i64 n)))) ∧ Srt l l' n n := by
  refine SoundCall.go tk44 pl44 mixed Try.func44 cb44 rfl (Nat.le_of_ble_eq_true rfl) ?_
  refine s_seq ?_
  refine s_region ?_
  refine o_q (q_mv (v_raw rfl)) rfl rfl rfl ?_
  refine o_q (q_add rfl rfl (wrap64 (by omega) (by omega))) rfl rfl rfl ?_
  refine o_q (q_as (v_raw rfl)) rfl rfl rfl ?_
  refine o_nil ?_
  refine s_block ?_
  refine s_loop (fun m S => ∃ T, ∃ l' : List Int, ∃ i : Nat, S = ⟨setT (setT (setT (setT T 0 (rsl b n c)) 1 (int 0)) 2 (int n)) 6 (int (i : Nat)), M.upd b (.cells ((l').map fun n => (AVal.raw (.int .i64 n))))⟩ ∧ Srt l l' n i ∧ 1 ≤ i ∧ i ≤ n + 1 ∧ m = n + 2 - i) (n + 1) ?_ ?_
  · exact ⟨_, l, 1, (by rw [Mem.upd_same hb]; exact St.mkT (kp (kp (kp (kp rfl rfl) rfl) rfl) rfl).symm), ⟨rfl, List.Perm.refl _, rfl, fun p q hq hpq h => by omega⟩, by omega, by omega, by omega⟩
  rintro m S ⟨T, l', i, rfl, ⟨hs1, hs2, hs3, hs4⟩, hi1, hin, rfl⟩
  refine s_seq ?_
  refine s_seq ?_
  refine s_region ?_
  refine o_q (q_mv (v_raw rfl)) rfl rfl rfl ?_
  refine o_q (q_mv (v_raw rfl)) rfl rfl rfl ?_
  refine o_q (q_lss rfl rfl) rfl rfl rfl ?_
  refine o_nil ?_
  refine s_cond rfl (fun h1 => ?_) (fun h1 => ?_)
  · have k1 := h1; try simp only [decide_eq_true_eq, decide_eq_false_iff_not, Bool.not_eq_true', Bool.not_eq_false', Bool.not_true, Bool.not_false, List.length_map, Decidable.not_not] at k1
    refine s_skip ?_
    refine s_seq ?_
    refine s_block ?_
    refine s_seq ?_
    refine s_region ?_
    refine o_q (q_mv (v_raw rfl)) rfl rfl rfl ?_
    refine o_q (q_as (v_raw rfl)) rfl rfl rfl ?_
    refine o_nil ?_
    refine s_block ?_
    refine s_loop (fun m S => ∃ T, ∃ k : List Int, ∃ j : Nat, S = ⟨setT (setT (setT (setT (setT T 0 (rsl b n c)) 1 (int 0)) 2 (int n)) 6 (int (i : Nat))) 7 (int (j : Nat)), M.upd b (.cells ((k).map fun n => (AVal.raw (.int .i64 n))))⟩ ∧ k.length = l.length ∧ (k.take n).Perm (l.take n) ∧ k.drop n = l.drop n ∧ Near k i j ∧ j ≤ i ∧ m = j) i ?_ ?_
    · exact ⟨_, l', i, St.mkT (kp (kp (kp (kp (kp rfl rfl) rfl) rfl) rfl) rfl).symm, hs1, hs2, hs3, fun p q hq hpq hqi hne => hs4 p q hq hpq (by omega), Nat.le_refl _, rfl⟩
    rintro m S ⟨T, k, j, rfl, hk1, hk2, hk3, hk4, hji, hmj⟩
    subst hmj
    refine s_seq ?_
    refine s_seq ?_
    refine s_draw rfl ?_
    refine d_q rfl (q_mv (v_raw rfl)) rfl rfl rfl ?_
    refine d_q rfl (q_mv (v_raw rfl)) rfl rfl rfl ?_
    refine d_q rfl (q_gtr rfl rfl) rfl rfl rfl ?_
    refine d_q rfl (q_mv (v_raw rfl)) rfl rfl rfl ?_
    refine d_cases (want := true) (j := 3) rfl rfl (fun h2 => ?_) (fun h2 => ?_)
    · have k2 := h2; try simp only [decide_eq_true_eq, decide_eq_false_iff_not, Bool.not_eq_true', Bool.not_eq_false', Bool.not_true, Bool.not_false, List.length_map, Decidable.not_not] at k2
      refine d_yes rfl (q_mv (v_raw rfl)) rfl rfl rfl h2 rfl rfl ?_
      refine d_yes rfl (q_mv (v_raw rfl)) rfl rfl rfl h2 rfl rfl ?_
      refine d_yes rfl (q_idxr und25 sz3 rfl rfl (by omega) (by omega)) rfl rfl rfl h2 rfl rfl ?_
      refine d_yes rfl (q_ldm ag3 sz3 rfl (by repeat first | exact Mem.upd_self _ _ _ | assumption | refine Mem.upd_ne (by assumption) ?_) (pcI (j := m) (by omega) (by omega)) (v_raw rfl)) rfl rfl rfl h2 rfl rfl ?_
      refine d_yes rfl (q_mv (v_raw rfl)) rfl rfl rfl h2 rfl rfl ?_
      refine d_yes rfl (q_mv (v_raw rfl)) rfl rfl rfl h2 rfl rfl ?_
      refine d_yes rfl (q_sub rfl rfl (wrap64 (by omega) (by omega))) rfl rfl rfl h2 rfl rfl ?_
      refine d_yes rfl (q_idxr und25 sz3 rfl rfl (by omega) (by omega)) rfl rfl rfl h2 rfl rfl ?_
      refine d_yes rfl (q_ldm ag3 sz3 rfl (by repeat first | exact Mem.upd_self _ _ _ | assumption | refine Mem.upd_ne (by assumption) ?_) (pcI (j := m - 1) (by omega) (by omega)) (v_raw rfl)) rfl rfl rfl h2 rfl rfl ?_
      refine d_s rfl ?_
      refine o_yes rfl rfl rfl h2 ?_
      refine o_call ((snd50 (k[m]) (k[m - 1]) _)) goes50 (ac (v_raw rfl) (ac (v_raw rfl) ac_nil)) rfl ?_
      refine o_nil ⟨(by simp [Mem.upd, *]), ?_⟩
      refine d_q rfl (q_pick_c (t := true) rfl h2 (v_raw rfl)) rfl rfl rfl ?_
      refine d_nil ?_
      refine s_cond rfl (fun h3 => ?_) (fun h3 => ?_)
      · have k3 := h3; try simp only [decide_eq_true_eq, decide_eq_false_iff_not, Bool.not_eq_true', Bool.not_eq_false', Bool.not_true, Bool.not_false, List.length_map, Decidable.not_not] at k3
        refine s_skip ?_
        refine s_seq ?_
        refine s_block ?_
        refine s_draw rfl ?_
        refine d_q rfl (q_mv (v_raw rfl)) rfl rfl rfl ?_
        refine d_q rfl (q_mv (v_raw rfl)) rfl rfl rfl ?_
        refine d_q rfl (q_mv (v_raw rfl)) rfl rfl rfl ?_
        refine d_q rfl (q_mv (v_raw rfl)) rfl rfl rfl ?_
        refine d_q rfl (q_sub rfl rfl (wrap64 (by omega) (by omega))) rfl rfl rfl ?_
        refine d_q rfl (q_mv (v_raw rfl)) rfl rfl rfl ?_
        refine d_q rfl (q_mv (v_raw rfl)) rfl rfl rfl ?_
        refine d_q rfl (q_sub rfl rfl (wrap64 (by omega) (by omega))) rfl rfl rfl ?_
        refine d_q rfl (q_idxr und25 sz3 rfl rfl (by omega) (by omega)) rfl rfl rfl ?_
        refine d_q rfl (q_ldm ag3 sz3 rfl (by repeat first | exact Mem.upd_self _ _ _ | assumption | refine Mem.upd_ne (by assumption) ?_) (pcI (j := m - 1) (by omega) (by omega)) (v_raw rfl)) rfl rfl rfl ?_
        refine d_q rfl (q_mv (v_raw rfl)) rfl rfl rfl ?_
        refine d_q rfl (q_mv (v_raw rfl)) rfl rfl rfl ?_
        refine d_q rfl (q_idxr und25 sz3 rfl rfl (by omega) (by omega)) rfl rfl rfl ?_
        refine d_q rfl (q_ldm ag3 sz3 rfl (by repeat first | exact Mem.upd_self _ _ _ | assumption | refine Mem.upd_ne (by assumption) ?_) (pcI (j := m) (by omega) (by omega)) (v_raw rfl)) rfl rfl rfl ?_
        refine d_q rfl (q_idxr und25 sz3 rfl rfl (by omega) (by omega)) rfl rfl rfl ?_
        refine d_s rfl ?_
        refine o_store rfl (by repeat first | exact Mem.upd_self _ _ _ | assumption | refine Mem.upd_ne (by assumption) ?_) (by first | exact e_raw rfl | exact e_agg rfl | exact e_sl rfl | rfl) rfl sz3 rfl (by simp only [List.length_map, List.length_set]; omega) rfl (sp_set (j := m) (by omega) (by omega)) ?_
        refine o_nil ⟨(by simp [Mem.upd, *]), ?_⟩
        refine d_q rfl (q_idxr und25 sz3 rfl rfl (by omega) (by omega)) rfl rfl rfl ?_
        refine d_s rfl ?_
        refine o_store rfl (by repeat first | exact Mem.upd_self _ _ _ | assumption | refine Mem.upd_ne (by assumption) ?_) (by first | exact e_raw rfl | exact e_agg rfl | exact e_sl rfl | rfl) rfl sz3 rfl (by simp only [List.length_map, List.length_set]; omega) rfl (sp_set (j := m - 1) (by omega) (by rw [List.length_set]; omega)) ?_
        refine o_nil ⟨(by simp [Mem.upd, *]), ?_⟩
        refine d_nil ?_
        refine s_blk_normal ?_
        refine s_region ?_
        refine o_q (q_mv (v_raw rfl)) rfl rfl rfl ?_
        refine o_q (q_sub rfl rfl (wrap64 (by omega) (by omega))) rfl rfl rfl ?_
        refine o_q (q_as (v_raw rfl)) rfl rfl rfl ?_
        refine o_nil ?_
        refine s_inv ?_
        have esw : (k.set m k[m - 1]).set (m - 1) k[m] = swp k m := by simp [swp, List.getD, show m < k.length by omega, show m - 1 < k.length by omega]
        have hsp := swp_perm (l := k) (j := m) (n := n) (by omega) (by omega) (by omega)
        exact ⟨m - 1, by omega, _, swp k m, m - 1, (by rw [Mem.upd_upd, Mem.upd_upd, esw]; exact St.mkT (kp (kp (kp (kp (kp rfl rfl) rfl) rfl) rfl) (congrArg int (show (m : Int) - 1 = ((m - 1 : Nat) : Int) by omega))).symm), (swp_len _ _).trans hk1, hsp.1.trans hk2, hsp.2.trans hk3, near_swp hk4 (by omega) hji (by omega) (by omega), by omega, rfl⟩
      · have k3 := h3; try simp only [decide_eq_true_eq, decide_eq_false_iff_not, Bool.not_eq_true', Bool.not_eq_false', Bool.not_true, Bool.not_false, List.length_map, Decidable.not_not] at k3
        refine s_exit ?_
        refine s_code_exit ?_
        refine s_inv_exit ?_
        refine s_blk_here ?_
        refine s_blk_normal ?_
        refine s_region ?_
        refine o_q (q_mv (v_raw rfl)) rfl rfl rfl ?_
        refine o_q (q_add rfl rfl (wrap64 (by omega) (by omega))) rfl rfl rfl ?_
        refine o_q (q_as (v_raw rfl)) rfl rfl rfl ?_
        refine o_nil ?_
        refine s_inv ?_
        exact ⟨n + 2 - (i + 1), by omega, _, k, i + 1, St.mkT (kp (kp (kp (kp rfl rfl) rfl) rfl) rfl).symm, ⟨hk1, hk2, hk3, fun p q hq hpq h => near_done hk4 (by omega) hji (.inr ⟨by omega, by omega⟩) p q hq hpq (by omega)⟩, by omega, by omega, by omega⟩
    · have k2 := h2; try simp only [decide_eq_true_eq, decide_eq_false_iff_not, Bool.not_eq_true', Bool.not_eq_false', Bool.not_true, Bool.not_false, List.length_map, Decidable.not_not] at k2
      refine d_no rfl rfl rfl rfl h2 rfl ?_
      refine d_no rfl rfl rfl rfl h2 rfl ?_
      refine d_no rfl rfl rfl rfl h2 rfl ?_
      refine d_no rfl rfl rfl rfl h2 rfl ?_
      refine d_no rfl rfl rfl rfl h2 rfl ?_
      refine d_no rfl rfl rfl rfl h2 rfl ?_
      refine d_no rfl rfl rfl rfl h2 rfl ?_
      refine d_no rfl rfl rfl rfl h2 rfl ?_
      refine d_no rfl rfl rfl rfl h2 rfl ?_
      refine d_s rfl ?_
      refine o_no rfl rfl rfl rfl h2 ?_
      refine o_nil ⟨(by simp [Mem.upd, *]), ?_⟩
      refine d_q rfl (q_pick_c (t := false) rfl h2 (v_raw rfl)) rfl rfl rfl ?_
      refine d_nil ?_
      refine s_else rfl rfl ?_
      refine s_exit ?_
      refine s_code_exit ?_
      refine s_inv_exit ?_
      refine s_blk_here ?_
      refine s_blk_normal ?_
      refine s_region ?_
      refine o_q (q_mv (v_raw rfl)) rfl rfl rfl ?_
      refine o_q (q_add rfl rfl (wrap64 (by omega) (by omega))) rfl rfl rfl ?_
      refine o_q (q_as (v_raw rfl)) rfl rfl rfl ?_
      refine o_nil ?_
      refine s_inv ?_
      exact ⟨n + 2 - (i + 1), by omega, _, k, i + 1, St.mkT (kp (kp (kp (kp rfl rfl) rfl) rfl) rfl).symm, ⟨hk1, hk2, hk3, fun p q hq hpq h => near_done hk4 (by omega) hji (.inl (by omega)) p q hq hpq (by omega)⟩, by omega, by omega, by omega⟩
  · have k1 := h1; try simp only [decide_eq_true_eq, decide_eq_false_iff_not, Bool.not_eq_true', Bool.not_eq_false', Bool.not_true, Bool.not_false, List.length_map, Decidable.not_not] at k1
    refine s_exit ?_
    refine s_code_exit ?_
    refine s_inv_exit ?_
    refine s_blk_here ?_
    refine s_end ?_
    exact ret_many (.inr rfl) rfl rl_nil rfl ⟨l', rfl, rfl, hs1, hs2, hs3, fun p q hq hpq h => hs4 p q hq hpq (by omega)⟩

def tk42 : Nat → Nat → Option Nat := fun _ _ => none
def pl42 : Nat → List PStep
  | 17 => [.q 0, .q 1, .q 2, .q 3, .q 4, .q 5, .q 6, .q 7, .q 8, .q 9, .q 10, .q 11, .s 12 [10, 9, 8, 6, 5, 4, 3, 1, 0], .q 13, .q 14]
  | _ => []
theorem cb42 : Try.f42.body.map (codeB Try.prog Try.f42.ntmps tk42 pl42) = some true := by kernel_rfl
theorem goes42 : goesB Try.prog 42 = true := by kernel_rfl
-- slices.pdqsortOrdered[int] params ['[]int', 'int', 'int', 'int'] results [] own [] names ['0:data', '1:a', '2:b', '3:limit', '4:data', '5:a', '6:b', '7:limit', '8:wasBalanced', '9:wasPartitioned', '10:length', '11:pivot', '12:hint', '13:mid', '14:mid', '15:alreadyPartitioned', '16:leftLen', '17:rightLen', '18:balanceThreshold'] calls [44] paths 1
set_option maxHeartbeats 4000000 in
set_option maxRecDepth 20000 in
theorem snd42 (b c n : Nat) (l : List Int) (M : Mem) (hb : M b = some (.cells (l.map fun n => (AVal.raw (.int .i64 n))))) (hn : n ≤ l.length) (hl : l.length < 2 ^ 40) (lim : Int) (hn12 : n ≤ 12) : SoundCall Try.prog 42 [rsl b n c, int 0, int n, int lim] M fun r M' => ∃ l', r = .tup [] ∧ M' = M.upd b (.cells ((l').map fun n => (AVal.raw (.int .i64 n)))) ∧ Srt l l' n n := by
  refine SoundCall.go tk42 pl42 mixed Try.func42 cb42 rfl (Nat.le_of_ble_eq_true rfl) ?_
  refine s_seq ?_
  refine s_region ?_
  refine o_q (q_as (v_raw rfl)) rfl rfl rfl ?_
  refine o_nil ?_
  refine s_seq ?_
  refine s_region ?_
  refine o_q (q_as (v_raw rfl)) rfl rfl rfl ?_
  refine o_nil ?_
  refine s_block ?_
  refine s_loop (fun m S => ∃ T, S = ⟨setT (setT (setT (setT T 0 (rsl b n c)) 1 (int 0)) 2 (int n)) 3 (int lim), M⟩ ∧ m = 0) 0 ?_ ?_
  · exact ⟨_, St.mkT (kp (kp (kp (kp rfl rfl) rfl) rfl) rfl).symm, rfl⟩
  rintro m S ⟨T, rfl, rfl⟩
  refine s_block ?_
  refine s_seq ?_
  refine s_region ?_
  refine o_q (q_mv (v_raw rfl)) rfl rfl rfl ?_
  refine o_q (q_mv (v_raw rfl)) rfl rfl rfl ?_
  refine o_q (q_sub rfl rfl (wrap64 (by omega) (by omega))) rfl rfl rfl ?_
  refine o_q (q_as (v_raw rfl)) rfl rfl rfl ?_
  refine o_nil ?_
  refine s_seq ?_
  refine s_seq ?_
  refine s_region ?_
  refine o_q (q_mv (v_raw rfl)) rfl rfl rfl ?_
  refine o_q (q_leq rfl rfl) rfl rfl rfl ?_
  refine o_nil ?_
  refine s_then rfl (decide_eq_true (by omega)) ?_
  refine s_seq ?_
  refine s_region ?_
  refine o_q (q_mv (v_raw rfl)) rfl rfl rfl ?_
  refine o_q (q_mv (v_raw rfl)) rfl rfl rfl ?_
  refine o_q (q_mv (v_raw rfl)) rfl rfl rfl ?_
  refine o_callx (snd44 b c n l _ hb hn hl) goes44 (ac (v_raw rfl) (ac (v_raw rfl) (ac (v_raw rfl) ac_nil))) rfl ?_
  rintro r M' ⟨l', rfl, rfl, hS⟩
  refine o_nil ?_
  refine s_ret ?_
  refine s_code_ret ?_
  refine s_blk_ret ?_
  refine s_inv_ret ?_
  refine s_blk_ret ?_
  refine s_end ?_
  exact ret_many (.inl rfl) rfl rl_nil rfl ⟨l', rfl, rfl, hS⟩

def tk54 : Nat → Nat → Option Nat := fun _ _ => none
def pl54 : Nat → List PStep := fun _ => []
theorem cb54 : Try.f54.body.map (codeB Try.prog Try.f54.ntmps tk54 pl54) = some true := by kernel_rfl
theorem goes54 : goesB Try.prog 54 = true := by kernel_rfl
-- math/bits.Len64 params ['uint64'] results [['t', 2]] own [] names ['0:x', '1:x', '2:n'] calls [] paths 1

theorem wrapu64 {a : Int} (h1 : 0 ≤ a) (h2 : a < 2 ^ 64) : IntKind.u64.wrap a = a := by
  simp only [IntKind.wrap, IntKind.signed, IntKind.bits]
  simp
  omega
theorem wrapu8 {a : Int} (h1 : 0 ≤ a) (h2 : a < 2 ^ 8) : IntKind.u8.wrap a = a := by
  simp only [IntKind.wrap, IntKind.signed, IntKind.bits]
  simp
  omega

theorem w8 (u : UInt8) : IntKind.i64.wrap (u.toNat : Int) = u.toNat := wrap64 (by omega) (by have := u.toNat_lt; omega)
theorem w80 (u : UInt8) : IntKind.i64.wrap (0 + (u.toNat : Int)) = 0 + (u.toNat : Int) := wrap64 (by omega) (by have := u.toNat_lt; omega)
set_option maxHeartbeats 4000000 in
set_option maxRecDepth 20000 in
theorem snd54 (x : Nat) (M : Mem) (hx : x ≤ 12) : SoundCall Try.prog 54 [.raw (.int .u64 x)] M fun r M' => ∃ k : Int, r = int k ∧ M' = M := by
  refine SoundCall.go tk54 pl54 mixed Try.func54 cb54 rfl (Nat.le_of_ble_eq_true rfl) ?_
  refine s_seq ?_
  refine s_region ?_
  refine o_q (q_as (v_raw rfl)) rfl rfl rfl ?_
  refine o_nil ?_
  refine s_seq ?_
  refine s_seq ?_
  refine s_region ?_
  refine o_q (q_mv (v_raw rfl)) rfl rfl rfl ?_
  refine o_q (q_geq rfl rfl) rfl rfl rfl ?_
  refine o_nil ?_
  refine s_else rfl (decide_eq_false (by omega)) ?_
  refine s_skip ?_
  refine s_seq ?_
  refine s_seq ?_
  refine s_region ?_
  refine o_q (q_mv (v_raw rfl)) rfl rfl rfl ?_
  refine o_q (q_geq rfl rfl) rfl rfl rfl ?_
  refine o_nil ?_
  refine s_else rfl (decide_eq_false (by omega)) ?_
  refine s_skip ?_
  refine s_seq ?_
  refine s_seq ?_
  refine s_region ?_
  refine o_q (q_mv (v_raw rfl)) rfl rfl rfl ?_
  refine o_q (q_geq rfl rfl) rfl rfl rfl ?_
  refine o_nil ?_
  refine s_else rfl (decide_eq_false (by omega)) ?_
  refine s_skip ?_
  refine s_seq ?_
  refine s_region ?_
  refine o_q (q_mv (v_raw rfl)) rfl rfl rfl ?_
  refine o_q (q_mv (v_raw rfl)) rfl rfl rfl ?_
  refine o_q (q_i2i und86 und5 rfl (wrapu8 (by omega) (by omega))) rfl rfl rfl ?_
  refine o_q (q_stri und9 rfl rfl rfl (Nat.lt_of_lt_of_le (m := 256) (by omega) (by decide +kernel))) rfl rfl rfl ?_
  refine o_q (q_i2i und5 und3 rfl (w8 _)) rfl rfl rfl ?_
  refine o_q (q_add rfl rfl (w80 _)) rfl rfl rfl ?_
  refine o_q (q_as (v_raw rfl)) rfl rfl rfl ?_
  refine o_nil ?_
  refine s_ret ?_
  refine s_end ?_
  exact ⟨_, rfl, rfl⟩

def tk43 : Nat → Nat → Option Nat := fun _ _ => none
def pl43 : Nat → List PStep := fun _ => []
theorem cb43 : Try.f43.body.map (codeB Try.prog Try.f43.ntmps tk43 pl43) = some true := by kernel_rfl
theorem goes43 : goesB Try.prog 43 = true := by kernel_rfl
-- math/bits.Len params ['uint'] results [['t', 2]] own [] names ['0:x', '1:x'] calls [54] paths 1
set_option maxHeartbeats 4000000 in
set_option maxRecDepth 20000 in
theorem snd43 (x : Nat) (M : Mem) (hx : x ≤ 12) : SoundCall Try.prog 43 [.raw (.int .u64 x)] M fun r M' => ∃ k : Int, r = int k ∧ M' = M := by
  refine SoundCall.go tk43 pl43 mixed Try.func43 cb43 rfl (Nat.le_of_ble_eq_true rfl) ?_
  refine s_seq ?_
  refine s_region ?_
  refine o_q (q_as (v_raw rfl)) rfl rfl rfl ?_
  refine o_nil ?_
  refine s_seq ?_
  refine s_else rfl rfl ?_
  refine s_skip ?_
  refine s_seq ?_
  refine s_region ?_
  refine o_q (q_mv (v_raw rfl)) rfl rfl rfl ?_
  refine o_callx (snd54 x _ hx) goes54 (ac (v_raw rfl) ac_nil) rfl ?_
  rintro r M' ⟨k, rfl, rfl⟩
  refine o_q (q_as (v_raw rfl)) rfl rfl rfl ?_
  refine o_nil ?_
  refine s_ret ?_
  refine s_end ?_
  exact ⟨_, rfl, rfl⟩

def tk41 : Nat → Nat → Option Nat := fun _ _ => none
def pl41 : Nat → List PStep := fun _ => []
theorem cb41 : Try.f41.body.map (codeB Try.prog Try.f41.ntmps tk41 pl41) = some true := by kernel_rfl
theorem goes41 : goesB Try.prog 41 = true := by kernel_rfl
-- slices.Sort[[]int,int] params ['[]int'] results [] own [] names ['0:x', '1:x', '2:n'] calls [42, 43] paths 1
set_option maxHeartbeats 4000000 in
set_option maxRecDepth 20000 in
theorem snd41 (b c n : Nat) (l : List Int) (M : Mem) (hb : M b = some (.cells (l.map fun n => (AVal.raw (.int .i64 n))))) (hn : n ≤ l.length) (hl : l.length < 2 ^ 40) (hn12 : n ≤ 12) : SoundCall Try.prog 41 [rsl b n c] M fun r M' => ∃ l', r = .tup [] ∧ M' = M.upd b (.cells ((l').map fun n => (AVal.raw (.int .i64 n)))) ∧ Srt l l' n n := by
  refine SoundCall.go tk41 pl41 mixed Try.func41 cb41 rfl (Nat.le_of_ble_eq_true rfl) ?_
  refine s_seq ?_
  refine s_region ?_
  refine o_q (q_mv (v_raw rfl)) rfl rfl rfl ?_
  refine o_q (q_lenr rfl und25 rfl) rfl rfl rfl ?_
  refine o_q (q_as (v_raw rfl)) rfl rfl rfl ?_
  refine o_nil ?_
  refine s_region ?_
  refine o_q (q_mv (v_raw rfl)) rfl rfl rfl ?_
  refine o_q (q_mv (v_raw rfl)) rfl rfl rfl ?_
  refine o_q (q_mv (v_raw rfl)) rfl rfl rfl ?_
  refine o_q (q_i2i und3 und74 rfl (wrapu64 (by omega) (by omega))) rfl rfl rfl ?_
  refine o_callx (snd43 n _ hn12) goes43 (ac (v_raw rfl) ac_nil) rfl ?_
  rintro r M' ⟨k, rfl, rfl⟩
  refine o_callx (snd42 b c n l _ hb hn hl _ hn12) goes42 (ac (v_raw rfl) (ac (v_raw rfl) (ac (v_raw rfl) (ac (v_raw rfl) ac_nil)))) rfl ?_
  rintro r M' ⟨l', rfl, rfl, hS⟩
  refine o_nil ?_
  refine s_end ?_
  exact ret_many (.inr rfl) rfl rl_nil rfl ⟨l', rfl, rfl, hS⟩

def tk14 : Nat → Nat → Option Nat := fun _ _ => none
def pl14 : Nat → List PStep := fun _ => []
theorem cb14 : Try.f14.body.map (codeB Try.prog Try.f14.ntmps tk14 pl14) = some true := by kernel_rfl
theorem goes14 : goesB Try.prog 14 = true := by kernel_rfl
-- (*carillon/order.Order).Len params ['*order.Order'] results [['t', 2]] own [] names ['0:o', '1:o'] calls [] paths 1

structure Od where
  self : Int
  nodes : List Int
  log : List ByteArray
  bytes : Int
  sure : Int
  has : List Int
def odC (o : Od) : List AVal := [int o.self, .sl (o.nodes.map int) false, .sl (o.log.map str) true, int o.bytes, int o.sure] ++ o.has.map int
theorem elsInt {l : List Int} : Els 1 (l.map int) := Els.map fun _ => ⟨rfl, rfl⟩
theorem elsStr {l : List ByteArray} : Els 1 (l.map str) := Els.map fun _ => ⟨rfl, rfl⟩
def firstO (o : Od) : Bool := decide (o.nodes.head? = some o.self)
set_option maxHeartbeats 4000000 in
set_option maxRecDepth 20000 in
theorem snd14 (b : Nat) (o : Od) (M : Mem) (hb : M b = some (.cells (odC o))) : SoundCall Try.prog 14 [ptr b] M fun r M' => r = int o.log.length ∧ M' = M := by
  refine SoundCall.go tk14 pl14 mixed Try.func14 cb14 rfl (Nat.le_of_ble_eq_true rfl) ?_
  refine s_seq ?_
  refine s_region ?_
  refine o_q (q_as (v_raw rfl)) rfl rfl rfl ?_
  refine o_nil ?_
  refine s_seq ?_
  refine s_region ?_
  refine o_q (q_mv ((by first | exact v_raw rfl | exact v_sptr rfl))) rfl rfl rfl ?_
  refine o_q (q_nil rfl) rfl rfl rfl ?_
  refine o_q (q_fr fo66_2 rfl) rfl rfl rfl ?_
  refine o_q (q_ldm ag22 sz22 rfl (by repeat first | exact Mem.upd_self _ _ _ | assumption | refine Mem.upd_ne (by assumption) ?_) rfl (v_sl rfl)) rfl rfl rfl ?_
  refine o_q (q_len rfl und22 rfl) rfl rfl rfl ?_
  refine o_q (q_as (v_raw rfl)) rfl rfl rfl ?_
  refine o_nil ?_
  refine s_ret ?_
  refine s_end ?_
  exact ⟨congrArg (fun n : Nat => AVal.raw (.int .i64 n)) (List.length_map _), rfl⟩

def tk16 : Nat → Nat → Option Nat := fun _ _ => none
def pl16 : Nat → List PStep := fun _ => []
theorem cb16 : Try.f16.body.map (codeB Try.prog Try.f16.ntmps tk16 pl16) = some true := by kernel_rfl
theorem goes16 : goesB Try.prog 16 = true := by kernel_rfl
-- (*carillon/order.Order).Sure params ['*order.Order'] results [['t', 2]] own [] names ['0:o', '1:o'] calls [] paths 1
set_option maxHeartbeats 4000000 in
set_option maxRecDepth 20000 in
theorem snd16 (b : Nat) (o : Od) (M : Mem) (hb : M b = some (.cells (odC o))) : SoundCall Try.prog 16 [ptr b] M fun r M' => r = int o.sure ∧ M' = M := by
  refine SoundCall.go tk16 pl16 mixed Try.func16 cb16 rfl (Nat.le_of_ble_eq_true rfl) ?_
  refine s_seq ?_
  refine s_region ?_
  refine o_q (q_as (v_raw rfl)) rfl rfl rfl ?_
  refine o_nil ?_
  refine s_seq ?_
  refine s_region ?_
  refine o_q (q_mv ((by first | exact v_raw rfl | exact v_sptr rfl))) rfl rfl rfl ?_
  refine o_q (q_nil rfl) rfl rfl rfl ?_
  refine o_q (q_fr fo66_4 rfl) rfl rfl rfl ?_
  refine o_q (q_ldm ag3 sz3 rfl (by repeat first | exact Mem.upd_self _ _ _ | assumption | refine Mem.upd_ne (by assumption) ?_) rfl (v_raw rfl)) rfl rfl rfl ?_
  refine o_q (q_as (v_raw rfl)) rfl rfl rfl ?_
  refine o_nil ?_
  refine s_ret ?_
  refine s_end ?_
  exact ⟨by first | rfl | (simp; rfl) | exact congrArg int (by simp), rfl⟩

def tk17 : Nat → Nat → Option Nat := fun _ _ => none
def pl17 : Nat → List PStep := fun _ => []
theorem cb17 : Try.f17.body.map (codeB Try.prog Try.f17.ntmps tk17 pl17) = some true := by kernel_rfl
theorem goes17 : goesB Try.prog 17 = true := by kernel_rfl
-- (*carillon/order.Order).Bytes params ['*order.Order'] results [['t', 2]] own [] names ['0:o', '1:o'] calls [] paths 1
set_option maxHeartbeats 4000000 in
set_option maxRecDepth 20000 in
theorem snd17 (b : Nat) (o : Od) (M : Mem) (hb : M b = some (.cells (odC o))) : SoundCall Try.prog 17 [ptr b] M fun r M' => r = int o.bytes ∧ M' = M := by
  refine SoundCall.go tk17 pl17 mixed Try.func17 cb17 rfl (Nat.le_of_ble_eq_true rfl) ?_
  refine s_seq ?_
  refine s_region ?_
  refine o_q (q_as (v_raw rfl)) rfl rfl rfl ?_
  refine o_nil ?_
  refine s_seq ?_
  refine s_region ?_
  refine o_q (q_mv ((by first | exact v_raw rfl | exact v_sptr rfl))) rfl rfl rfl ?_
  refine o_q (q_nil rfl) rfl rfl rfl ?_
  refine o_q (q_fr fo66_3 rfl) rfl rfl rfl ?_
  refine o_q (q_ldm ag3 sz3 rfl (by repeat first | exact Mem.upd_self _ _ _ | assumption | refine Mem.upd_ne (by assumption) ?_) rfl (v_raw rfl)) rfl rfl rfl ?_
  refine o_q (q_as (v_raw rfl)) rfl rfl rfl ?_
  refine o_nil ?_
  refine s_ret ?_
  refine s_end ?_
  exact ⟨by first | rfl | (simp; rfl) | exact congrArg int (by simp), rfl⟩

def tk33 : Nat → Nat → Option Nat := fun _ _ => none
def pl33 : Nat → List PStep := fun _ => []
theorem cb33 : Try.f33.body.map (codeB Try.prog Try.f33.ntmps tk33 pl33) = some true := by kernel_rfl
theorem goes33 : goesB Try.prog 33 = true := by kernel_rfl
-- carillon/order.size params ['string'] results [['t', 2]] own [] names ['0:s', '1:s'] calls [] paths 1
set_option maxHeartbeats 4000000 in
set_option maxRecDepth 20000 in
theorem snd33 (s : ByteArray) (M : Mem) (hs : s.size < 2 ^ 62) : SoundCall Try.prog 33 [str s] M fun r M' => r = int (s.size + 4) ∧ M' = M := by
  refine SoundCall.go tk33 pl33 mixed Try.func33 cb33 rfl (Nat.le_of_ble_eq_true rfl) ?_
  refine s_seq ?_
  refine s_region ?_
  refine o_q (q_as (v_raw rfl)) rfl rfl rfl ?_
  refine o_nil ?_
  refine s_seq ?_
  refine s_region ?_
  refine o_q (q_mv (v_raw rfl)) rfl rfl rfl ?_
  refine o_q (q_lens rfl und9 rfl) rfl rfl rfl ?_
  refine o_q (q_add rfl rfl (wrap64 (by omega) (by omega))) rfl rfl rfl ?_
  refine o_q (q_as (v_raw rfl)) rfl rfl rfl ?_
  refine o_nil ?_
  refine s_ret ?_
  refine s_end ?_
  exact ⟨rfl, rfl⟩

def tk19 : Nat → Nat → Option Nat := fun _ _ => none
def pl19 : Nat → List PStep
  | 1 => [.q 0, .q 1, .q 2, .q 3, .q 4, .q 5, .q 6, .q 7, .q 8, .q 9, .q 10, .q 11]
  | _ => []
theorem cb19 : Try.f19.body.map (codeB Try.prog Try.f19.ntmps tk19 pl19) = some true := by kernel_rfl
theorem goes19 : goesB Try.prog 19 = true := by kernel_rfl
-- (*carillon/order.Order).First params ['*order.Order'] results [['t', 2]] own [] names ['0:o', '1:o'] calls [] paths 1
set_option maxHeartbeats 4000000 in
set_option maxRecDepth 20000 in
theorem snd19 (b : Nat) (o : Od) (M : Mem) (hb : M b = some (.cells (odC o))) (hn : o.nodes ≠ []) : SoundCall Try.prog 19 [ptr b] M fun r M' => r = bool (firstO o) ∧ M' = M := by
  obtain ⟨n0, ns, hns⟩ : ∃ n0 ns, o.nodes = n0 :: ns := by cases h : o.nodes with | nil => exact absurd h hn | cons a l => exact ⟨a, l, rfl⟩
  have hl0 : 0 < o.nodes.length := by rw [hns]; simp
  refine SoundCall.go tk19 pl19 mixed Try.func19 cb19 rfl (Nat.le_of_ble_eq_true rfl) ?_
  refine s_seq ?_
  refine s_region ?_
  refine o_q (q_as (v_raw rfl)) rfl rfl rfl ?_
  refine o_nil ?_
  refine s_seq ?_
  refine s_draw rfl ?_
  refine d_q rfl (q_mv ((by first | exact v_raw rfl | exact v_sptr rfl))) rfl rfl rfl ?_
  refine d_q rfl (q_nil rfl) rfl rfl rfl ?_
  refine d_q rfl (q_fr fo66_1 rfl) rfl rfl rfl ?_
  refine d_q rfl (q_ldm ag25 sz25 rfl (by repeat first | exact Mem.upd_self _ _ _ | assumption | refine Mem.upd_ne (by assumption) ?_) rfl (v_sl rfl)) rfl rfl rfl ?_
  refine d_q rfl (q_idx und25 sz3 rfl rfl (by omega) (gm 0 (by first | omega | simp)) rfl) rfl rfl rfl ?_
  refine d_q rfl (q_ld ag3 sz3 rfl (gm 0 (by first | omega | simp)) rfl (v_raw rfl)) rfl rfl rfl ?_
  refine d_q rfl (q_mv ((by first | exact v_raw rfl | exact v_sptr rfl))) rfl rfl rfl ?_
  refine d_q rfl (q_nil rfl) rfl rfl rfl ?_
  refine d_q rfl (q_fr fo66_0 rfl) rfl rfl rfl ?_
  refine d_q rfl (q_ldm ag3 sz3 rfl (by repeat first | exact Mem.upd_self _ _ _ | assumption | refine Mem.upd_ne (by assumption) ?_) rfl (v_raw rfl)) rfl rfl rfl ?_
  refine d_q rfl (q_eql rfl rfl) rfl rfl rfl ?_
  refine d_q rfl (q_as (v_raw rfl)) rfl rfl rfl ?_
  refine d_nil ?_
  refine s_ret ?_
  refine s_end ?_
  refine ⟨congrArg bool ?_, rfl⟩
  unfold firstO
  rw [decide_eq_decide, List.head?_eq_getElem?, List.getElem?_eq_getElem hl0]
  simp

def tk40 : Nat → Nat → Option Nat := fun _ _ => none
def pl40 : Nat → List PStep := fun _ => []
theorem cb40 : Try.f40.body.map (codeB Try.prog Try.f40.ntmps tk40 pl40) = some true := by kernel_rfl
theorem goes40 : goesB Try.prog 40 = true := by kernel_rfl
-- slices.Index[[]int,int] params ['[]int', 'int'] results [['t', 4]] own [] names ['0:s', '1:v', '2:s', '3:v', '5:i'] calls [] paths 3

theorem no_succ {l : List Int} {v : Int} {i : Nat} (h : ∀ j, ∀ hj : j < l.length, j < i → l[j] ≠ v) (hi : i < l.length) (hv : l[i] ≠ v) : ∀ j, ∀ hj : j < l.length, j < i + 1 → l[j] ≠ v := fun j hj hji => by
  rcases Nat.lt_or_ge j i with h1 | h1
  · exact h j hj h1
  · obtain rfl : j = i := by omega
    exact hv
set_option maxHeartbeats 4000000 in
set_option maxRecDepth 20000 in
theorem snd40 (l : List Int) (o : Bool) (v : Int) (M : Mem) (hl : l.length < 2 ^ 60) : SoundCall Try.prog 40 [.sl (l.map int) o, int v] M fun r M' => ∃ k : Int, r = int k ∧ decide (0 ≤ k) = decide (v ∈ l) ∧ M' = M := by
  refine SoundCall.go tk40 pl40 mixed Try.func40 cb40 rfl (Nat.le_of_ble_eq_true rfl) ?_
  refine s_seq ?_
  refine s_region ?_
  refine o_q (q_as (v_raw rfl)) rfl rfl rfl ?_
  refine o_nil ?_
  refine s_seq ?_
  refine s_seq ?_
  refine s_region ?_
  refine o_q (q_mv (v_sl rfl)) rfl rfl rfl ?_
  refine o_q (q_len rfl und25 rfl) rfl rfl rfl ?_
  refine o_q (q_mv (v_raw rfl)) rfl rfl rfl ?_
  refine o_nil ?_
  refine s_block ?_
  refine s_loop (fun m S => ∃ T, ∃ i : Nat, S = ⟨setT (setT (setT (setT T 0 (.sl (l.map int) o)) 1 (int v)) 7 (int l.length)) 8 (int (i : Nat)), M⟩ ∧ (∀ j, ∀ hj : j < l.length, j < i → l[j] ≠ v) ∧ i ≤ l.length ∧ m = l.length - i) l.length ?_ ?_
  · exact ⟨_, 0, St.mkT (kp (kp (kp (kp rfl rfl) rfl) (congrArg (fun n : Nat => AVal.raw (.int .i64 n)) (List.length_map _))) rfl).symm, fun j hj h => by omega, by omega, rfl⟩
  rintro m S ⟨T, i, rfl, hno, hi, rfl⟩
  refine s_seq ?_
  refine s_region ?_
  refine o_q (q_lss rfl rfl) rfl rfl rfl ?_
  refine o_nil ?_
  refine s_seq ?_
  refine s_cond rfl (fun h1 => ?_) (fun h1 => ?_)
  · have k1 := h1; try simp only [decide_eq_true_eq, decide_eq_false_iff_not, Bool.not_eq_true', Bool.not_eq_false', Bool.not_true, Bool.not_false, List.length_map, Decidable.not_not] at k1
    refine s_skip ?_
    refine s_seq ?_
    refine s_block ?_
    refine s_seq ?_
    refine s_region ?_
    refine o_q (q_mv (v_raw rfl)) rfl rfl rfl ?_
    refine o_q (q_as (v_raw rfl)) rfl rfl rfl ?_
    refine o_nil ?_
    refine s_seq ?_
    refine s_region ?_
    refine o_q (q_mv (v_raw rfl)) rfl rfl rfl ?_
    refine o_q (q_mv (v_sl rfl)) rfl rfl rfl ?_
    refine o_q (q_mv (v_raw rfl)) rfl rfl rfl ?_
    refine o_q (q_idx und25 sz3 rfl rfl (by omega) (gm i (by first | omega | simp)) rfl) rfl rfl rfl ?_
    refine o_q (q_ld ag3 sz3 rfl (gm i (by first | omega | simp)) rfl (v_raw rfl)) rfl rfl rfl ?_
    refine o_q (q_eql rfl rfl) rfl rfl rfl ?_
    refine o_nil ?_
    refine s_cond rfl (fun h2 => ?_) (fun h2 => ?_)
    · have k2 := h2; try simp only [decide_eq_true_eq, decide_eq_false_iff_not, Bool.not_eq_true', Bool.not_eq_false', Bool.not_true, Bool.not_false, List.length_map, Decidable.not_not] at k2
      refine s_seq ?_
      refine s_region ?_
      refine o_q (q_mv (v_raw rfl)) rfl rfl rfl ?_
      refine o_q (q_as (v_raw rfl)) rfl rfl rfl ?_
      refine o_nil ?_
      refine s_ret ?_
      refine s_blk_ret ?_
      refine s_code_ret ?_
      refine s_inv_ret ?_
      refine s_blk_ret ?_
      refine s_code_ret ?_
      refine s_end ?_
      exact ⟨i, rfl, by rw [decide_eq_true (show (0 : Int) ≤ i by omega), decide_eq_true (show v ∈ l from k2 ▸ List.getElem_mem _)], rfl⟩
    · have k2 := h2; try simp only [decide_eq_true_eq, decide_eq_false_iff_not, Bool.not_eq_true', Bool.not_eq_false', Bool.not_true, Bool.not_false, List.length_map, Decidable.not_not] at k2
      refine s_skip ?_
      refine s_blk_normal ?_
      refine s_region ?_
      refine o_q (q_add rfl rfl (wrap64 (by omega) (by omega))) rfl rfl rfl ?_
      refine o_q (q_mv (v_raw rfl)) rfl rfl rfl ?_
      refine o_nil ?_
      refine s_inv ?_
      exact ⟨l.length - (i + 1), by omega, _, i + 1, St.mkT (kp (kp (kp (kp rfl rfl) rfl) rfl) rfl).symm, no_succ hno (by omega) (fun e => k2 e.symm), by omega, rfl⟩
  · have k1 := h1; try simp only [decide_eq_true_eq, decide_eq_false_iff_not, Bool.not_eq_true', Bool.not_eq_false', Bool.not_true, Bool.not_false, List.length_map, Decidable.not_not] at k1
    refine s_exit ?_
    refine s_code_exit ?_
    refine s_inv_exit ?_
    refine s_blk_here ?_
    refine s_seq ?_
    refine s_region ?_
    refine o_q (q_as (v_raw rfl)) rfl rfl rfl ?_
    refine o_nil ?_
    refine s_ret ?_
    refine s_end ?_
    exact ⟨-1, rfl, by rw [decide_eq_false (by omega), decide_eq_false (fun h => by obtain ⟨j, hj, e⟩ := List.mem_iff_getElem.1 h; exact hno j hj (by omega) e)], rfl⟩

def tk30 : Nat → Nat → Option Nat := fun _ _ => none
def pl30 : Nat → List PStep := fun _ => []
theorem cb30 : Try.f30.body.map (codeB Try.prog Try.f30.ntmps tk30 pl30) = some true := by kernel_rfl
theorem goes30 : goesB Try.prog 30 = true := by kernel_rfl
-- slices.Contains[[]int,int] params ['[]int', 'int'] results [['t', 4]] own [] names ['0:s', '1:v', '2:s', '3:v'] calls [40] paths 1
set_option maxHeartbeats 4000000 in
set_option maxRecDepth 20000 in
theorem snd30 (l : List Int) (o : Bool) (v : Int) (M : Mem) (hl : l.length < 2 ^ 60) : SoundCall Try.prog 30 [.sl (l.map int) o, int v] M fun r M' => r = bool (decide (v ∈ l)) ∧ M' = M := by
  refine SoundCall.go tk30 pl30 mixed Try.func30 cb30 rfl (Nat.le_of_ble_eq_true rfl) ?_
  refine s_seq ?_
  refine s_region ?_
  refine o_q (q_as (v_raw rfl)) rfl rfl rfl ?_
  refine o_nil ?_
  refine s_seq ?_
  refine s_region ?_
  refine o_q (q_mv (v_sl rfl)) rfl rfl rfl ?_
  refine o_q (q_mv (v_raw rfl)) rfl rfl rfl ?_
  refine o_callx (snd40 l _ v _ hl) goes40 (ac (v_sl rfl) (ac (v_raw rfl) ac_nil)) rfl ?_
  rintro r M' ⟨k, rfl, hk, rfl⟩
  refine o_q (q_geq rfl rfl) rfl rfl rfl ?_
  refine o_q (q_as (v_raw rfl)) rfl rfl rfl ?_
  refine o_nil ?_
  refine s_ret ?_
  refine s_end ?_
  exact ⟨congrArg bool hk, rfl⟩

def tk36 : Nat → Nat → Option Nat := fun _ _ => none
def pl36 : Nat → List PStep := fun _ => []
theorem cb36 : Try.f36.body.map (codeB Try.prog Try.f36.ntmps tk36 pl36) = some true := by kernel_rfl
theorem goes36 : goesB Try.prog 36 = true := by kernel_rfl
-- (*carillon/order.Order).other params ['*order.Order', 'int'] results [['t', 4]] own [] names ['0:o', '1:node', '2:o', '3:node'] calls [19, 30] paths 3
set_option maxHeartbeats 4000000 in
set_option maxRecDepth 20000 in
theorem snd36 (b : Nat) (o : Od) (v : Int) (M : Mem) (hb : M b = some (.cells (odC o))) (hn : o.nodes ≠ []) (hl : o.nodes.length < 2 ^ 60) : SoundCall Try.prog 36 [ptr b, int v] M fun r M' => r = bool (firstO o && decide (v ≠ o.self) && decide (v ∈ o.nodes)) ∧ M' = M := by
  refine SoundCall.go tk36 pl36 mixed Try.func36 cb36 rfl (Nat.le_of_ble_eq_true rfl) ?_
  refine s_seq ?_
  refine s_region ?_
  refine o_q (q_as (v_raw rfl)) rfl rfl rfl ?_
  refine o_nil ?_
  refine s_seq ?_
  refine s_region ?_
  refine o_q (q_mv ((by first | exact v_raw rfl | exact v_sptr rfl))) rfl rfl rfl ?_
  refine o_call ((snd19 b o _ hb hn)) goes19 (ac ((by first | exact v_raw rfl | exact v_sptr rfl)) ac_nil) rfl ?_
  refine o_q (q_mv (v_raw rfl)) rfl rfl rfl ?_
  refine o_cases (want := true) (j := 2) rfl rfl (fun h1 => ?_) (fun h1 => ?_)
  · have k1 := h1; try simp only [decide_eq_true_eq, decide_eq_false_iff_not, Bool.not_eq_true', Bool.not_eq_false', Bool.not_true, Bool.not_false, List.length_map, Decidable.not_not] at k1
    refine o_yes rfl rfl rfl h1 ?_
    refine o_q (q_mv (v_raw rfl)) rfl rfl rfl ?_
    refine o_yes rfl rfl rfl h1 ?_
    refine o_q (q_mv ((by first | exact v_raw rfl | exact v_sptr rfl))) rfl rfl rfl ?_
    refine o_yes rfl rfl rfl h1 ?_
    refine o_q (q_nil rfl) rfl rfl rfl ?_
    refine o_yes rfl rfl rfl h1 ?_
    refine o_q (q_fr fo66_0 rfl) rfl rfl rfl ?_
    refine o_yes rfl rfl rfl h1 ?_
    refine o_q (q_ldm ag3 sz3 rfl (by repeat first | exact Mem.upd_self _ _ _ | assumption | refine Mem.upd_ne (by assumption) ?_) rfl (v_raw rfl)) rfl rfl rfl ?_
    refine o_yes rfl rfl rfl h1 ?_
    refine o_q (q_neq rfl rfl) rfl rfl rfl ?_
    refine o_q (q_pick_c (t := true) rfl h1 (v_raw rfl)) rfl rfl rfl ?_
    refine o_q (q_mv (v_raw rfl)) rfl rfl rfl ?_
    refine o_cases (want := true) (j := 10) rfl rfl (fun h2 => ?_) (fun h2 => ?_)
    · have k2 := h2; try simp only [decide_eq_true_eq, decide_eq_false_iff_not, Bool.not_eq_true', Bool.not_eq_false', Bool.not_true, Bool.not_false, List.length_map, Decidable.not_not] at k2
      refine o_yes rfl rfl rfl h2 ?_
      refine o_q (q_mv ((by first | exact v_raw rfl | exact v_sptr rfl))) rfl rfl rfl ?_
      refine o_yes rfl rfl rfl h2 ?_
      refine o_q (q_nil rfl) rfl rfl rfl ?_
      refine o_yes rfl rfl rfl h2 ?_
      refine o_q (q_fr fo66_1 rfl) rfl rfl rfl ?_
      refine o_yes rfl rfl rfl h2 ?_
      refine o_q (q_ldm ag25 sz25 rfl (by repeat first | exact Mem.upd_self _ _ _ | assumption | refine Mem.upd_ne (by assumption) ?_) rfl (v_sl rfl)) rfl rfl rfl ?_
      refine o_yes rfl rfl rfl h2 ?_
      refine o_q (q_mv (v_raw rfl)) rfl rfl rfl ?_
      refine o_yes rfl rfl rfl h2 ?_
      refine o_call ((snd30 o.nodes _ v _ hl)) goes30 (ac (v_sl rfl) (ac (v_raw rfl) ac_nil)) rfl ?_
      refine o_q (q_pick_c (t := true) rfl h2 (v_raw rfl)) rfl rfl rfl ?_
      refine o_q (q_as (v_raw rfl)) rfl rfl rfl ?_
      refine o_nil ?_
      refine s_ret ?_
      refine s_end ?_
      exact ⟨congrArg bool (by simp_all), rfl⟩
    · have k2 := h2; try simp only [decide_eq_true_eq, decide_eq_false_iff_not, Bool.not_eq_true', Bool.not_eq_false', Bool.not_true, Bool.not_false, List.length_map, Decidable.not_not] at k2
      refine o_no rfl rfl rfl rfl h2 ?_
      refine o_no rfl rfl rfl rfl h2 ?_
      refine o_no rfl rfl rfl rfl h2 ?_
      refine o_no rfl rfl rfl rfl h2 ?_
      refine o_no rfl rfl rfl rfl h2 ?_
      refine o_no rfl rfl rfl rfl h2 ?_
      refine o_q (q_pick_c (t := false) rfl h2 (v_raw rfl)) rfl rfl rfl ?_
      refine o_q (q_as (v_raw rfl)) rfl rfl rfl ?_
      refine o_nil ?_
      refine s_ret ?_
      refine s_end ?_
      exact ⟨congrArg bool (by simp_all), rfl⟩
  · have k1 := h1; try simp only [decide_eq_true_eq, decide_eq_false_iff_not, Bool.not_eq_true', Bool.not_eq_false', Bool.not_true, Bool.not_false, List.length_map, Decidable.not_not] at k1
    refine o_no rfl rfl rfl rfl h1 ?_
    refine o_no rfl rfl rfl rfl h1 ?_
    refine o_no rfl rfl rfl rfl h1 ?_
    refine o_no rfl rfl rfl rfl h1 ?_
    refine o_no rfl rfl rfl rfl h1 ?_
    refine o_no rfl rfl rfl rfl h1 ?_
    refine o_q (q_pick_c (t := false) rfl h1 (v_raw rfl)) rfl rfl rfl ?_
    refine o_q (q_mv (v_raw rfl)) rfl rfl rfl ?_
    refine o_no rfl rfl rfl rfl rfl ?_
    refine o_no rfl rfl rfl rfl rfl ?_
    refine o_no rfl rfl rfl rfl rfl ?_
    refine o_no rfl rfl rfl rfl rfl ?_
    refine o_no rfl rfl rfl rfl rfl ?_
    refine o_no rfl rfl rfl rfl rfl ?_
    refine o_q (q_pick_c (t := false) rfl rfl (v_raw rfl)) rfl rfl rfl ?_
    refine o_q (q_as (v_raw rfl)) rfl rfl rfl ?_
    refine o_nil ?_
    refine s_ret ?_
    refine s_end ?_
    exact ⟨congrArg bool (by simp_all), rfl⟩

def tk34 : Nat → Nat → Option Nat
  | 3, 4 => some 0
  | _, _ => none
def pl34 : Nat → List PStep
  | 1 => [.q 0, .q 1, .q 2, .q 3, .q 4, .s 5 [3, 2, 1, 0], .q 6, .q 7]
  | 4 => [.q 0, .q 1, .q 2, .q 3, .q 4, .s 5 [3, 2, 1, 0], .q 6, .q 7, .q 8, .s 9 [7]]
  | 5 => [.q 0, .q 1, .q 2, .q 3, .q 4, .q 5, .q 6, .q 7, .q 8, .q 9, .q 10, .q 11, .q 12, .s 13 [11, 10]]
  | _ => []
theorem cb34 : Try.f34.body.map (codeB Try.prog Try.f34.ntmps tk34 pl34) = some true := by kernel_rfl
theorem goes34 : goesB Try.prog 34 = true := by kernel_rfl
-- (*carillon/order.Order).put params ['*order.Order', 'string'] results [['t', 4]] own [17] names ['0:o', '1:s', '2:o', '3:s'] calls [33] paths 2

def addB (o : Od) (s : ByteArray) : Int := IntKind.i64.wrap (o.bytes + ((s.size : Int) + 4))
def putO (o : Od) (s : ByteArray) : Od × Bool := if 45000 < addB o s then (o, false) else (⟨o.self, o.nodes, o.log ++ [s], addB o s, o.sure, o.has.set o.self.toNat (o.log.length + 1 : Nat)⟩, true)
theorem od_set {p : List AVal} {has : List Int} {off n : Nat} {v : Int} (hp : p.length = 5) (h : off = 5 + n) (hn : n < has.length) : splice (p ++ has.map int) off ((AVal.raw (.int .i64 v)).cells.map AVal.shut) = p ++ (has.set n v).map int := by
  subst h
  unfold splice
  have e1 : (p ++ has.map int).take (5 + n) = p ++ (has.map int).take n := by rw [List.take_append, List.take_of_length_le (by omega), hp, Nat.add_sub_cancel_left]
  have e2 : (p ++ has.map int).drop (5 + n + ((AVal.raw (.int .i64 v)).cells.map AVal.shut).length) = (has.map int).drop (n + 1) := by
    show (p ++ has.map int).drop (5 + n + 1) = _
    rw [List.drop_append, List.drop_of_length_le (by omega), hp, List.nil_append, show 5 + n + 1 - 5 = n + 1 by omega]
  rw [e1, e2, List.set_eq_take_append_cons_drop, if_pos hn, List.map_append, List.map_cons, List.map_take, List.map_drop, List.append_assoc, List.append_assoc]
  rfl
set_option maxHeartbeats 4000000 in
set_option maxRecDepth 20000 in
theorem snd34 (b : Nat) (o : Od) (s : ByteArray) (M : Mem) (hb : M b = some (.cells (odC o))) (hs : s.size < 2 ^ 61) (hse : 0 ≤ o.self ∧ o.self < 7) (hha : o.has.length = 7) (hlg : o.log.length + 2 ≤ 2 ^ 43) : SoundCall Try.prog 34 [ptr b, str s] M fun r M' => r = bool (putO o s).2 ∧ M' = M.upd b (.cells (odC (putO o s).1)) := by
  have hpl : (0 + 5 + o.self.toNat * 1) + 1 ≤ ([int o.self, .sl (o.nodes.map int) false, .sl (o.log.map str ++ [str s]) true, int (addB o s), int o.sure] ++ o.has.map int).length := by simp [hha]; omega
  refine SoundCall.go tk34 pl34 mixed Try.func34 cb34 rfl (Nat.le_of_ble_eq_true rfl) ?_
  refine s_seq ?_
  refine s_region ?_
  refine o_q (q_as (v_raw rfl)) rfl rfl rfl ?_
  refine o_nil ?_
  refine s_seq ?_
  refine s_seq ?_
  refine s_draw rfl ?_
  refine d_q rfl (q_mv ((by first | exact v_raw rfl | exact v_sptr rfl))) rfl rfl rfl ?_
  refine d_q rfl (q_nil rfl) rfl rfl rfl ?_
  refine d_q rfl (q_fr fo66_3 rfl) rfl rfl rfl ?_
  refine d_q rfl (q_ldm ag3 sz3 rfl (by repeat first | exact Mem.upd_self _ _ _ | assumption | refine Mem.upd_ne (by assumption) ?_) rfl (v_raw rfl)) rfl rfl rfl ?_
  refine d_q rfl (q_mv (v_raw rfl)) rfl rfl rfl ?_
  refine d_s rfl ?_
  refine o_call ((snd33 s _ (by omega))) goes33 (ac (v_raw rfl) ac_nil) rfl ?_
  refine o_nil ⟨(by simp [Mem.upd, *]), ?_⟩
  refine d_q rfl (q_addw rfl rfl) rfl rfl rfl ?_
  refine d_q rfl (q_gtr rfl rfl) rfl rfl rfl ?_
  refine d_nil ?_
  refine s_cond rfl (fun h1 => ?_) (fun h1 => ?_)
  · have k1 := h1; try simp only [decide_eq_true_eq, decide_eq_false_iff_not, Bool.not_eq_true', Bool.not_eq_false', Bool.not_true, Bool.not_false, List.length_map, Decidable.not_not] at k1
    refine s_seq ?_
    refine s_region ?_
    refine o_q (q_as (v_raw rfl)) rfl rfl rfl ?_
    refine o_nil ?_
    refine s_ret ?_
    refine s_code_ret ?_
    refine s_end ?_
    have hab : addB o s = IntKind.i64.wrap (o.bytes + ((s.size : Int) + 4)) := rfl
    unfold putO
    rw [if_pos (by omega)]
    exact ⟨rfl, (Mem.upd_same hb).symm⟩
  · have k1 := h1; try simp only [decide_eq_true_eq, decide_eq_false_iff_not, Bool.not_eq_true', Bool.not_eq_false', Bool.not_true, Bool.not_false, List.length_map, Decidable.not_not] at k1
    refine s_skip ?_
    refine s_seq ?_
    refine s_region ?_
    refine o_q (q_mv ((by first | exact v_raw rfl | exact v_sptr rfl))) rfl rfl rfl ?_
    refine o_q (q_mv ((by first | exact v_raw rfl | exact v_sptr rfl))) rfl rfl rfl ?_
    refine o_q (q_nil rfl) rfl rfl rfl ?_
    refine o_q (q_fr fo66_2 rfl) rfl rfl rfl ?_
    refine o_take rfl rfl (by repeat first | exact Mem.upd_self _ _ _ | assumption | refine Mem.upd_ne (by assumption) ?_) rfl ag22 sz22 ?_
    refine o_q (q_mv (v_raw rfl)) rfl rfl rfl ?_
    refine o_q (q_bs slt22 (pc (v_raw rfl) pn) rfl (Els.cons rfl rfl Els.nil) (by decide)) rfl rfl rfl ?_
    refine o_qs (q_app slt22 rfl rfl rfl rfl (by first | exact elsStr | exact Els.cons rfl rfl Els.nil) (by first | exact (by first | exact elsStr | exact Els.cons rfl rfl Els.nil) | exact Els.cons rfl rfl Els.nil) (by simp; omega)) rfl rfl rfl rfl ?_
    refine o_q (q_nil rfl) rfl rfl rfl ?_
    refine o_q (q_fr fo66_2 rfl) rfl rfl rfl ?_
    refine o_store_own rfl (by repeat first | exact Mem.upd_self _ _ _ | assumption | refine Mem.upd_ne (by assumption) ?_) rfl sz22 (Nat.le_of_ble_eq_true rfl) ?_
    refine o_nil ?_
    refine s_seq ?_
    refine s_draw rfl ?_
    refine d_q rfl (q_mv ((by first | exact v_raw rfl | exact v_sptr rfl))) rfl rfl rfl ?_
    refine d_q rfl (q_nil rfl) rfl rfl rfl ?_
    refine d_q rfl (q_fr fo66_3 rfl) rfl rfl rfl ?_
    refine d_q rfl (q_ldm ag3 sz3 rfl (by repeat first | exact Mem.upd_self _ _ _ | assumption | refine Mem.upd_ne (by assumption) ?_) rfl (v_raw rfl)) rfl rfl rfl ?_
    refine d_q rfl (q_mv (v_raw rfl)) rfl rfl rfl ?_
    refine d_s rfl ?_
    refine o_call ((snd33 s _ (by omega))) goes33 (ac (v_raw rfl) ac_nil) rfl ?_
    refine o_nil ⟨(by simp [Mem.upd, *]), ?_⟩
    refine d_q rfl (q_addw rfl rfl) rfl rfl rfl ?_
    refine d_q rfl (q_nil rfl) rfl rfl rfl ?_
    refine d_q rfl (q_fr fo66_3 rfl) rfl rfl rfl ?_
    refine d_s rfl ?_
    refine o_store rfl (by repeat first | exact Mem.upd_self _ _ _ | assumption | refine Mem.upd_ne (by assumption) ?_) (by first | exact e_raw rfl | exact e_agg rfl | exact e_sl rfl | rfl) rfl sz3 rfl (Nat.le_of_ble_eq_true rfl) rfl rfl ?_
    refine o_nil ⟨(by simp [Mem.upd, *]), ?_⟩
    refine d_nil ?_
    refine s_seq ?_
    refine s_draw rfl ?_
    refine d_q rfl (q_mv ((by first | exact v_raw rfl | exact v_sptr rfl))) rfl rfl rfl ?_
    refine d_q rfl (q_mv ((by first | exact v_raw rfl | exact v_sptr rfl))) rfl rfl rfl ?_
    refine d_q rfl (q_nil rfl) rfl rfl rfl ?_
    refine d_q rfl (q_fr fo66_0 rfl) rfl rfl rfl ?_
    refine d_q rfl (q_ldm ag3 sz3 rfl (by repeat first | exact Mem.upd_self _ _ _ | assumption | refine Mem.upd_ne (by assumption) ?_) rfl (v_raw rfl)) rfl rfl rfl ?_
    refine d_q rfl (q_mv ((by first | exact v_raw rfl | exact v_sptr rfl))) rfl rfl rfl ?_
    refine d_q rfl (q_nil rfl) rfl rfl rfl ?_
    refine d_q rfl (q_fr fo66_2 rfl) rfl rfl rfl ?_
    refine d_q rfl (q_ldm ag22 sz22 rfl (by repeat first | exact Mem.upd_self _ _ _ | assumption | refine Mem.upd_ne (by assumption) ?_) rfl (v_sl rfl)) rfl rfl rfl ?_
    refine d_q rfl (q_len rfl und22 rfl) rfl rfl rfl ?_
    refine d_q rfl (q_nil rfl) rfl rfl rfl ?_
    refine d_q rfl (q_fr fo66_5 rfl) rfl rfl rfl ?_
    refine d_q rfl (q_idxa und64 sz3 rfl rfl (by omega) (by omega)) rfl rfl rfl ?_
    refine d_s rfl ?_
    refine o_store rfl (by repeat first | exact Mem.upd_self _ _ _ | assumption | refine Mem.upd_ne (by assumption) ?_) (by first | exact e_raw rfl | exact e_agg rfl | exact e_sl rfl | rfl) rfl sz3 rfl hpl rfl (od_set (p := [int o.self, .sl (o.nodes.map int) false, .sl (o.log.map str ++ [str s]) true, int (addB o s), int o.sure]) (has := o.has) (n := o.self.toNat) rfl (by omega) (by omega)) ?_
    refine o_nil ⟨(by simp [Mem.upd, *]), ?_⟩
    refine d_nil ?_
    refine s_seq ?_
    refine s_region ?_
    refine o_q (q_as (v_raw rfl)) rfl rfl rfl ?_
    refine o_nil ?_
    refine s_ret ?_
    refine s_end ?_
    have hab : addB o s = IntKind.i64.wrap (o.bytes + ((s.size : Int) + 4)) := rfl
    unfold putO
    rw [if_neg (by omega)]
    refine ⟨rfl, ?_⟩
    simp only [Mem.upd_upd]
    congr 2
    simp [odC]

def tk35 : Nat → Nat → Option Nat := fun _ _ => none
def pl35 : Nat → List PStep
  | 8 => [.q 0, .q 1, .q 2, .q 3, .q 4, .q 5, .q 6, .q 7, .q 8, .q 9, .q 10, .q 11, .q 12, .q 13, .q 14, .s 15 [13]]
  | _ => []
theorem cb35 : Try.f35.body.map (codeB Try.prog Try.f35.ntmps tk35 pl35) = some true := by kernel_rfl
theorem goes35 : goesB Try.prog 35 = true := by kernel_rfl
-- (*carillon/order.Order).settle params ['*order.Order'] results [] own [] names ['0:o', '1:o', '2:counts', '3:i', '4:n', '5:l'] calls [41] paths 2

theorem Mem.ne_none {M : Mem} {b c : Nat} {o : AObj} (h : M c = some o) (h' : M b = none) : c ≠ b := fun e => by subst e; rw [h] at h'; cases h'
theorem le_b {M M' : Mem} {y : Nat} {l L : List AVal} (h1 : M' y = some (.cells l)) (h3 : ∀ c o, c ≠ y → M c = some o → M' c = some o) (hl : l = L) : (M.upd y (.cells L)).le M' := fun c o hc => by
  subst hl
  unfold Mem.upd at hc
  by_cases e : c = y
  · rw [if_pos e] at hc; cases hc; rw [e]; exact h1
  · rw [if_neg e] at hc; exact h3 c o e hc
def insI (a : Int) : List Int → List Int
  | [] => [a]
  | b :: l => if a ≤ b then a :: b :: l else b :: insI a l
def sortI (l : List Int) : List Int := l.foldr insI []
theorem insI_perm (a : Int) : ∀ l : List Int, (insI a l).Perm (a :: l)
  | [] => List.Perm.refl _
  | b :: l => by
    unfold insI
    split
    · exact List.Perm.refl _
    · exact ((insI_perm a l).cons b).trans (List.Perm.swap a b l)
theorem insI_pair (a : Int) : ∀ l : List Int, l.Pairwise (· ≤ ·) → (insI a l).Pairwise (· ≤ ·)
  | [], _ => List.pairwise_singleton _ _
  | b :: l, h => by
    unfold insI
    obtain ⟨h1, h2⟩ := List.pairwise_cons.1 h
    split
    · rename_i hab
      exact List.pairwise_cons.2 ⟨fun c hc => by
        rcases List.mem_cons.1 hc with rfl | hc
        · exact hab
        · exact Int.le_trans hab (h1 c hc), h⟩
    · rename_i hab
      exact List.pairwise_cons.2 ⟨fun c hc => by
        rcases List.mem_cons.1 ((insI_perm a l).mem_iff.1 hc) with rfl | hc
        · omega
        · exact h1 c hc, insI_pair a l h2⟩
theorem sortI_perm : ∀ l : List Int, (sortI l).Perm l
  | [] => List.Perm.refl _
  | a :: l => (insI_perm a (sortI l)).trans ((sortI_perm l).cons a)
theorem sortI_pair : ∀ l : List Int, (sortI l).Pairwise (· ≤ ·)
  | [] => List.Pairwise.nil
  | a :: l => insI_pair a _ (sortI_pair l)
theorem sorted_eq {l l' : List Int} (hp : l'.Perm l) (hs : l'.Pairwise (· ≤ ·)) : l' = sortI l :=
  (hp.trans (sortI_perm l).symm).eq_of_pairwise (le := fun a b : Int => a ≤ b) (fun a b _ _ h1 h2 => Int.le_antisymm h1 h2) hs (sortI_pair l)
theorem mid_ge {s : List Int} (hs : s.Pairwise (· ≤ ·)) (h0 : 0 < s.length) (n : Int) : n ≤ s.getD ((s.length - 1) / 2) 0 ↔ s.length < 2 * s.countP fun a => decide (n ≤ a) := by
  have hk : (s.length - 1) / 2 < s.length := by omega
  have ek : s.getD ((s.length - 1) / 2) 0 = s[(s.length - 1) / 2] := by rw [List.getD_eq_getElem?_getD, List.getElem?_eq_getElem hk, Option.getD_some]
  rw [ek]
  have hp := List.pairwise_iff_getElem.1 hs
  have hc : ∀ m, s.countP (fun a => decide (n ≤ a)) = (s.take m).countP (fun a => decide (n ≤ a)) + (s.drop m).countP (fun a => decide (n ≤ a)) := fun m => by rw [← List.countP_append, List.take_append_drop]
  constructor
  · intro h
    have h1 : (s.drop ((s.length - 1) / 2)).countP (fun a => decide (n ≤ a)) = (s.drop ((s.length - 1) / 2)).length := List.countP_eq_length.2 fun a ha => by
      obtain ⟨j, hj, rfl⟩ := List.mem_iff_getElem.1 ha
      rw [List.length_drop] at hj
      rw [List.getElem_drop]
      rcases Nat.eq_zero_or_pos j with e | e
      · subst e; simpa using h
      · have := hp ((s.length - 1) / 2) ((s.length - 1) / 2 + j) hk (by omega) (by omega)
        simp; omega
    have := hc ((s.length - 1) / 2)
    rw [List.length_drop] at h1
    omega
  · intro h
    rcases Int.lt_or_le s[(s.length - 1) / 2] n with h' | h'
    · exfalso
      have h1 : (s.take ((s.length - 1) / 2 + 1)).countP (fun a => decide (n ≤ a)) = 0 := List.countP_eq_zero.2 fun a ha => by
        obtain ⟨j, hj, rfl⟩ := List.mem_iff_getElem.1 ha
        rw [List.length_take] at hj
        rw [List.getElem_take]
        rcases Nat.lt_or_ge j ((s.length - 1) / 2) with e | e
        · have := hp j ((s.length - 1) / 2) (by omega) hk e
          simp; omega
        · obtain rfl : j = (s.length - 1) / 2 := by omega
          simp; omega
      have h2 := hc ((s.length - 1) / 2 + 1)
      have h3 := List.countP_le_length (p := fun a => decide (n ≤ a)) (l := s.drop ((s.length - 1) / 2 + 1))
      rw [List.length_drop] at h3
      omega
    · exact h'
theorem sorted_ge {l : List Int} (h0 : 0 < l.length) (n : Int) : n ≤ (sortI l).getD ((l.length - 1) / 2) 0 ↔ l.length < 2 * l.countP fun a => decide (n ≤ a) := by
  have e := (sortI_perm l).length_eq
  have := mid_ge (sortI_pair l) (by omega) n
  rw [e, (sortI_perm l).countP_eq] at this
  exact this
def hv (o : Od) (n : Int) : Int := o.has.getD n.toNat 0
def medO (o : Od) : Int := (sortI (o.nodes.map (hv o))).getD ((o.nodes.length - 1) / 2) 0
def settleO (o : Od) : Od := ⟨o.self, o.nodes, o.log, o.bytes, max o.sure (medO o), o.has⟩
def cntO (o : Od) (i : Nat) : List Int := (o.nodes.take i).map (hv o) ++ List.replicate (7 - i) 0
theorem cnt_len {o : Od} {i : Nat} (hi : i ≤ o.nodes.length) (h7 : o.nodes.length ≤ 7) : (cntO o i).length = 7 := by
  simp [cntO]; omega
theorem cnt_set {o : Od} {i : Nat} (hi : i < o.nodes.length) (h7 : o.nodes.length ≤ 7) : (cntO o i).set i (hv o o.nodes[i]) = cntO o (i + 1) := by
  unfold cntO
  have hl : ((o.nodes.take i).map (hv o)).length = i := by simp; omega
  rw [List.set_append, if_neg (by omega), hl, Nat.sub_self, show 7 - i = (7 - (i + 1)) + 1 by omega, List.replicate_succ, List.set_cons_zero, List.take_succ_eq_append_getElem hi, List.map_append, List.append_assoc]
  rfl
theorem cnt_end {o : Od} : (cntO o o.nodes.length).take o.nodes.length = o.nodes.map (hv o) := by
  unfold cntO
  rw [List.take_length, List.take_append, List.length_map, Nat.sub_self, List.take_zero, List.append_nil, List.take_of_length_le (by simp)]
theorem med_eq {o : Od} {l' : List Int} (h7 : o.nodes.length ≤ 7) (h : Srt (cntO o o.nodes.length) l' o.nodes.length o.nodes.length) (hj : (o.nodes.length - 1) / 2 < l'.length) (hn : 0 < o.nodes.length) : l'[(o.nodes.length - 1) / 2] = medO o := by
  obtain ⟨h1, h2, h3, h4⟩ := h
  rw [cnt_end] at h2
  have hl := cnt_len (o := o) (Nat.le_refl _) h7
  have hs : (l'.take o.nodes.length).Pairwise (· ≤ ·) := List.pairwise_iff_getElem.2 fun p q hp hq hpq => by
    rw [List.length_take] at hp hq
    rw [List.getElem_take, List.getElem_take]
    exact h4 p q (by omega) hpq (by omega)
  have e := sorted_eq h2 hs
  unfold medO
  rw [← e]
  have hlt : (o.nodes.length - 1) / 2 < (l'.take o.nodes.length).length := by rw [List.length_take]; omega
  rw [List.getD_eq_getElem?_getD, List.getElem?_eq_getElem hlt, Option.getD_some, List.getElem_take]
theorem od_get {o : Od} {off : Nat} {n : Int} (h : off = 5 + n.toNat) (hn : n.toNat < o.has.length) : piece false (odC o) off 1 = some (.raw (.int .i64 (hv o n))) := by
  subst h
  show ([int o.self, .sl (o.nodes.map int) false, .sl (o.log.map str) true, int o.bytes, int o.sure] ++ o.has.map int)[5 + n.toNat]? = _
  rw [List.getElem?_append_right (by simp)]
  show (o.has.map int)[5 + n.toNat - 5]? = _
  rw [Nat.add_sub_cancel_left, List.getElem?_map, List.getElem?_eq_getElem hn, hv, List.getD_eq_getElem?_getD, List.getElem?_eq_getElem hn]
  rfl
set_option maxHeartbeats 4000000 in
set_option maxRecDepth 20000 in
theorem snd35 (b : Nat) (o : Od) (M : Mem) (hb : M b = some (.cells (odC o))) (h7 : o.nodes.length ≤ 7) (h0 : 0 < o.nodes.length) (hnr : ∀ n ∈ o.nodes, 0 ≤ n ∧ n < 7) (hha : o.has.length = 7) : SoundCall Try.prog 35 [ptr b] M fun r M' => r = .tup [] ∧ (M.upd b (.cells (odC (settleO o)))).le M' := by
  have hlm : (List.map int o.nodes).length = o.nodes.length := List.length_map _
  have htd : (((List.map int o.nodes).length : Int) - 1).tdiv 2 = (((o.nodes.length - 1) / 2 : Nat) : Int) := by rw [Int.tdiv_eq_ediv_of_nonneg (by omega)]; omega
  refine SoundCall.go tk35 pl35 mixed Try.func35 cb35 rfl (Nat.le_of_ble_eq_true rfl) ?_
  refine s_seq ?_
  refine s_region ?_
  refine o_alloc zc64 (fun B1 hB1 => ?_)
  have n1 : b ≠ B1 := Mem.fresh_ne hB1 hb
  have n1' := n1.symm
  have m1 : M B1 = none := by have h := hB1; repeat (first | exact h | exact Mem.none_of_le hle h | replace h := (Mem.upd_none h).2)
  refine o_nil ?_
  refine s_seq ?_
  refine s_seq ?_
  refine s_region ?_
  refine o_q (q_mv ((by first | exact v_raw rfl | exact v_sptr rfl))) rfl rfl rfl ?_
  refine o_q (q_nil rfl) rfl rfl rfl ?_
  refine o_q (q_fr fo66_1 rfl) rfl rfl rfl ?_
  refine o_q (q_ldm ag25 sz25 rfl (by repeat first | exact Mem.upd_self _ _ _ | assumption | refine Mem.upd_ne (by assumption) ?_) rfl (v_sl rfl)) rfl rfl rfl ?_
  refine o_q (q_len rfl und25 rfl) rfl rfl rfl ?_
  refine o_q (q_mv (v_raw rfl)) rfl rfl rfl ?_
  refine o_nil ?_
  refine s_block ?_
  refine s_loop (fun m S => ∃ T, ∃ i : Nat, S = ⟨setT (setT (setT (setT (setT T 0 (ptr b)) 2 (ptr B1)) 9 (.sl (o.nodes.map int) false)) 10 (int o.nodes.length)) 11 (int (i : Nat)), (M.upd B1 (.cells ((cntO o i).map fun n => (AVal.raw (.int .i64 n)))))⟩ ∧ i ≤ o.nodes.length ∧ m = o.nodes.length - i) o.nodes.length ?_ ?_
  · exact ⟨_, 0, St.mkT (kp (kp (kp (kp (kp rfl rfl) rfl) rfl) (congrArg (fun n : Nat => AVal.raw (.int .i64 n)) (List.length_map _))) rfl).symm, by omega, rfl⟩
  rintro m S ⟨T, i, rfl, hi, rfl⟩
  have hcl := cnt_len hi h7
  refine s_seq ?_
  refine s_region ?_
  refine o_q (q_lss rfl rfl) rfl rfl rfl ?_
  refine o_nil ?_
  refine s_seq ?_
  refine s_cond rfl (fun h1 => ?_) (fun h1 => ?_)
  · have k1 := h1; try simp only [decide_eq_true_eq, decide_eq_false_iff_not, Bool.not_eq_true', Bool.not_eq_false', Bool.not_true, Bool.not_false, List.length_map, Decidable.not_not] at k1
    have hni := hnr o.nodes[i] (List.getElem_mem _)
    refine s_skip ?_
    refine s_seq ?_
    refine s_block ?_
    refine s_seq ?_
    refine s_region ?_
    refine o_q (q_mv (v_raw rfl)) rfl rfl rfl ?_
    refine o_q (q_idx und25 sz3 rfl rfl (by omega) (gm i (by first | omega | simp)) rfl) rfl rfl rfl ?_
    refine o_q (q_ld ag3 sz3 rfl (gm i (by first | omega | simp)) rfl (v_raw rfl)) rfl rfl rfl ?_
    refine o_q (q_as (v_raw rfl)) rfl rfl rfl ?_
    refine o_q (q_as (v_raw rfl)) rfl rfl rfl ?_
    refine o_nil ?_
    refine s_region ?_
    refine o_q (q_mv (v_raw rfl)) rfl rfl rfl ?_
    refine o_q (q_mv ((by first | exact v_raw rfl | exact v_sptr rfl))) rfl rfl rfl ?_
    refine o_q (q_mv (v_raw rfl)) rfl rfl rfl ?_
    refine o_q (q_nil rfl) rfl rfl rfl ?_
    refine o_q (q_fr fo66_5 rfl) rfl rfl rfl ?_
    refine o_q (q_idxa und64 sz3 rfl rfl (by omega) (by omega)) rfl rfl rfl ?_
    refine o_q (q_ldm ag3 sz3 rfl (by repeat first | exact Mem.upd_self _ _ _ | assumption | refine Mem.upd_ne (by assumption) ?_) (od_get (n := o.nodes[i]) (by omega) (by omega)) (v_raw rfl)) rfl rfl rfl ?_
    refine o_q (q_idxa und64 sz3 rfl rfl (by omega) (by omega)) rfl rfl rfl ?_
    refine o_store rfl (by repeat first | exact Mem.upd_self _ _ _ | assumption | refine Mem.upd_ne (by assumption) ?_) (by first | exact e_raw rfl | exact e_agg rfl | exact e_sl rfl | rfl) rfl sz3 rfl (by simp only [List.length_map]; omega) rfl (sp_set (j := i) (by omega) (by omega)) ?_
    refine o_nil ?_
    refine s_blk_normal ?_
    refine s_region ?_
    refine o_q (q_add rfl rfl (wrap64 (by omega) (by omega))) rfl rfl rfl ?_
    refine o_q (q_mv (v_raw rfl)) rfl rfl rfl ?_
    refine o_nil ?_
    refine s_inv ?_
    exact ⟨o.nodes.length - (i + 1), by omega, _, i + 1, (by rw [Mem.upd_upd, cnt_set (by omega) h7]; exact St.mkT (kp (kp (kp (kp (kp rfl rfl) rfl) rfl) rfl) rfl).symm), by omega, rfl⟩
  · have k1 := h1; try simp only [decide_eq_true_eq, decide_eq_false_iff_not, Bool.not_eq_true', Bool.not_eq_false', Bool.not_true, Bool.not_false, List.length_map, Decidable.not_not] at k1
    obtain rfl : i = o.nodes.length := by omega
    refine s_exit ?_
    refine s_code_exit ?_
    refine s_inv_exit ?_
    refine s_blk_here ?_
    refine s_seq ?_
    refine s_region ?_
    refine o_q (q_mv ((by first | exact v_raw rfl | exact v_sptr rfl))) rfl rfl rfl ?_
    refine o_q (q_nil rfl) rfl rfl rfl ?_
    refine o_q (q_fr fo66_1 rfl) rfl rfl rfl ?_
    refine o_q (q_ldm ag25 sz25 rfl (by repeat first | exact Mem.upd_self _ _ _ | assumption | refine Mem.upd_ne (by assumption) ?_) rfl (v_sl rfl)) rfl rfl rfl ?_
    refine o_q (q_len rfl und25 rfl) rfl rfl rfl ?_
    refine o_q (q_slarr und64 sz3 rfl rfl (by omega)) rfl rfl rfl ?_
    refine o_q (q_as (v_raw rfl)) rfl rfl rfl ?_
    refine o_nil ?_
    refine s_seq ?_
    refine s_region ?_
    refine o_q (q_mv (v_raw rfl)) rfl rfl rfl ?_
    refine o_callx (snd41 B1 7 (List.map int o.nodes).length (cntO o o.nodes.length) _ (by repeat first | exact Mem.upd_self _ _ _ | assumption | refine Mem.upd_ne (by assumption) ?_) (by omega) (by omega) (by omega)) goes41 (ac (v_raw rfl) ac_nil) rfl ?_
    rintro r M' ⟨l', rfl, rfl, hS⟩
    rw [List.length_map] at hS
    have hl7 := hS.1
    refine o_nil ?_
    refine s_draw rfl ?_
    refine d_q rfl (q_mv ((by first | exact v_raw rfl | exact v_sptr rfl))) rfl rfl rfl ?_
    refine d_q rfl (q_mv ((by first | exact v_raw rfl | exact v_sptr rfl))) rfl rfl rfl ?_
    refine d_q rfl (q_nil rfl) rfl rfl rfl ?_
    refine d_q rfl (q_fr fo66_4 rfl) rfl rfl rfl ?_
    refine d_q rfl (q_ldm ag3 sz3 rfl (by repeat first | exact Mem.upd_self _ _ _ | assumption | refine Mem.upd_ne (by assumption) ?_) rfl (v_raw rfl)) rfl rfl rfl ?_
    refine d_q rfl (q_mv (v_raw rfl)) rfl rfl rfl ?_
    refine d_q rfl (q_mv (v_raw rfl)) rfl rfl rfl ?_
    refine d_q rfl (q_lenr rfl und25 rfl) rfl rfl rfl ?_
    refine d_q rfl (q_sub rfl rfl (wrap64 (by omega) (by omega))) rfl rfl rfl ?_
    refine d_q rfl (q_quo rfl rfl (by omega) (wrap64 (by omega) (by omega))) rfl rfl rfl ?_
    refine d_q rfl (q_idxr und25 sz3 rfl rfl (by omega) (by omega)) rfl rfl rfl ?_
    refine d_q rfl (q_ldm ag3 sz3 rfl (by repeat first | exact Mem.upd_self _ _ _ | assumption | refine Mem.upd_ne (by assumption) ?_) (pcI (j := (o.nodes.length - 1) / 2) (by omega) (by omega)) (v_raw rfl)) rfl rfl rfl ?_
    refine d_q rfl (q_max rfl rfl) rfl rfl rfl ?_
    refine d_q rfl (q_nil rfl) rfl rfl rfl ?_
    refine d_q rfl (q_fr fo66_4 rfl) rfl rfl rfl ?_
    refine d_s rfl ?_
    refine o_store rfl (by repeat first | exact Mem.upd_self _ _ _ | assumption | refine Mem.upd_ne (by assumption) ?_) (by first | exact e_raw rfl | exact e_agg rfl | exact e_sl rfl | rfl) rfl sz3 rfl (Nat.le_of_ble_eq_true rfl) rfl rfl ?_
    refine o_nil ⟨(by simp [Mem.upd, *]), ?_⟩
    refine d_nil ?_
    refine s_end ?_
    refine ret_many (.inr rfl) rfl rl_nil rfl ⟨rfl, le_b (h1 := (by repeat first | exact Mem.upd_self _ _ _ | assumption | refine Mem.upd_ne (by assumption) ?_)) (fun c p e1 hc => by repeat first | exact hc | refine Mem.upd_ne (by first | exact e1 | exact Mem.ne_none hc (by assumption)) ?_) ?_⟩
    rw [med_eq h7 hS (by omega) h0]
    rfl

def tk15 : Nat → Nat → Option Nat := fun _ _ => none
def pl15 : Nat → List PStep := fun _ => []
theorem cb15 : Try.f15.body.map (codeB Try.prog Try.f15.ntmps tk15 pl15) = some true := by kernel_rfl
theorem goes15 : goesB Try.prog 15 = true := by kernel_rfl
-- (*carillon/order.Order).Learn params ['*order.Order', 'int'] results [['t', 4]] own [] names ['0:o', '1:n', '2:o', '3:n'] calls [19] paths 3

def learnO (o : Od) (n : Int) : Od × Bool := if firstO o = false ∧ o.sure < min n o.log.length then (⟨o.self, o.nodes, o.log, o.bytes, min n o.log.length, o.has⟩, true) else (o, false)
set_option maxHeartbeats 4000000 in
set_option maxRecDepth 20000 in
theorem snd15 (b : Nat) (o : Od) (n : Int) (M : Mem) (hb : M b = some (.cells (odC o))) (hn : o.nodes ≠ []) : SoundCall Try.prog 15 [ptr b, int n] M fun r M' => r = bool (learnO o n).2 ∧ M' = M.upd b (.cells (odC (learnO o n).1)) := by
  have hlm : (List.map str o.log).length = o.log.length := List.length_map _
  have same : M.upd b (.cells (odC o)) = M := Mem.upd_same hb
  refine SoundCall.go tk15 pl15 mixed Try.func15 cb15 rfl (Nat.le_of_ble_eq_true rfl) ?_
  refine s_seq ?_
  refine s_region ?_
  refine o_q (q_as (v_raw rfl)) rfl rfl rfl ?_
  refine o_nil ?_
  refine s_seq ?_
  refine s_region ?_
  refine o_q (q_mv (v_raw rfl)) rfl rfl rfl ?_
  refine o_q (q_mv ((by first | exact v_raw rfl | exact v_sptr rfl))) rfl rfl rfl ?_
  refine o_q (q_nil rfl) rfl rfl rfl ?_
  refine o_q (q_fr fo66_2 rfl) rfl rfl rfl ?_
  refine o_q (q_ldm ag22 sz22 rfl (by repeat first | exact Mem.upd_self _ _ _ | assumption | refine Mem.upd_ne (by assumption) ?_) rfl (v_sl rfl)) rfl rfl rfl ?_
  refine o_q (q_len rfl und22 rfl) rfl rfl rfl ?_
  refine o_q (q_min rfl rfl) rfl rfl rfl ?_
  refine o_q (q_as (v_raw rfl)) rfl rfl rfl ?_
  refine o_nil ?_
  refine s_seq ?_
  refine s_seq ?_
  refine s_region ?_
  refine o_q (q_mv ((by first | exact v_raw rfl | exact v_sptr rfl))) rfl rfl rfl ?_
  refine o_call ((snd19 b o _ hb hn)) goes19 (ac ((by first | exact v_raw rfl | exact v_sptr rfl)) ac_nil) rfl ?_
  refine o_q (q_mv (v_raw rfl)) rfl rfl rfl ?_
  refine o_cases (want := false) (j := 2) rfl rfl (fun h1 => ?_) (fun h1 => ?_)
  · have k1 := h1; try simp only [decide_eq_true_eq, decide_eq_false_iff_not, Bool.not_eq_true', Bool.not_eq_false', Bool.not_true, Bool.not_false, List.length_map, Decidable.not_not] at k1
    refine o_yes rfl rfl rfl h1 ?_
    refine o_q (q_mv (v_raw rfl)) rfl rfl rfl ?_
    refine o_yes rfl rfl rfl h1 ?_
    refine o_q (q_mv ((by first | exact v_raw rfl | exact v_sptr rfl))) rfl rfl rfl ?_
    refine o_yes rfl rfl rfl h1 ?_
    refine o_q (q_nil rfl) rfl rfl rfl ?_
    refine o_yes rfl rfl rfl h1 ?_
    refine o_q (q_fr fo66_4 rfl) rfl rfl rfl ?_
    refine o_yes rfl rfl rfl h1 ?_
    refine o_q (q_ldm ag3 sz3 rfl (by repeat first | exact Mem.upd_self _ _ _ | assumption | refine Mem.upd_ne (by assumption) ?_) rfl (v_raw rfl)) rfl rfl rfl ?_
    refine o_yes rfl rfl rfl h1 ?_
    refine o_q (q_leq rfl rfl) rfl rfl rfl ?_
    refine o_q (q_pick_c (t := false) rfl h1 (v_raw rfl)) rfl rfl rfl ?_
    refine o_nil ?_
    refine s_cond rfl (fun h2 => ?_) (fun h2 => ?_)
    · have k2 := h2; try simp only [decide_eq_true_eq, decide_eq_false_iff_not, Bool.not_eq_true', Bool.not_eq_false', Bool.not_true, Bool.not_false, List.length_map, Decidable.not_not] at k2
      refine s_seq ?_
      refine s_region ?_
      refine o_q (q_as (v_raw rfl)) rfl rfl rfl ?_
      refine o_nil ?_
      refine s_ret ?_
      refine s_code_ret ?_
      refine s_end ?_
      first | (unfold learnO; rw [if_neg (by simp_all; done)]; exact ⟨rfl, same.symm⟩) | (unfold learnO; rw [if_neg (by simp_all; omega)]; exact ⟨rfl, same.symm⟩) | (unfold learnO; rw [if_pos (by simp_all; done)]; exact ⟨rfl, by simp [odC]; rfl⟩) | (unfold learnO; rw [if_pos (by simp_all; omega)]; exact ⟨rfl, by simp [odC]; rfl⟩)
    · have k2 := h2; try simp only [decide_eq_true_eq, decide_eq_false_iff_not, Bool.not_eq_true', Bool.not_eq_false', Bool.not_true, Bool.not_false, List.length_map, Decidable.not_not] at k2
      refine s_skip ?_
      refine s_seq ?_
      refine s_region ?_
      refine o_q (q_mv ((by first | exact v_raw rfl | exact v_sptr rfl))) rfl rfl rfl ?_
      refine o_q (q_mv (v_raw rfl)) rfl rfl rfl ?_
      refine o_q (q_nil rfl) rfl rfl rfl ?_
      refine o_q (q_fr fo66_4 rfl) rfl rfl rfl ?_
      refine o_store rfl (by repeat first | exact Mem.upd_self _ _ _ | assumption | refine Mem.upd_ne (by assumption) ?_) (by first | exact e_raw rfl | exact e_agg rfl | exact e_sl rfl | rfl) rfl sz3 rfl (Nat.le_of_ble_eq_true rfl) rfl rfl ?_
      refine o_nil ?_
      refine s_seq ?_
      refine s_region ?_
      refine o_q (q_as (v_raw rfl)) rfl rfl rfl ?_
      refine o_nil ?_
      refine s_ret ?_
      refine s_end ?_
      first | (unfold learnO; rw [if_neg (by simp_all; done)]; exact ⟨rfl, same.symm⟩) | (unfold learnO; rw [if_neg (by simp_all; omega)]; exact ⟨rfl, same.symm⟩) | (unfold learnO; rw [if_pos (by simp_all; done)]; exact ⟨rfl, by simp [odC]; rfl⟩) | (unfold learnO; rw [if_pos (by simp_all; omega)]; exact ⟨rfl, by simp [odC]; rfl⟩)
  · have k1 := h1; try simp only [decide_eq_true_eq, decide_eq_false_iff_not, Bool.not_eq_true', Bool.not_eq_false', Bool.not_true, Bool.not_false, List.length_map, Decidable.not_not] at k1
    refine o_no rfl rfl rfl rfl h1 ?_
    refine o_no rfl rfl rfl rfl h1 ?_
    refine o_no rfl rfl rfl rfl h1 ?_
    refine o_no rfl rfl rfl rfl h1 ?_
    refine o_no rfl rfl rfl rfl h1 ?_
    refine o_no rfl rfl rfl rfl h1 ?_
    refine o_q (q_pick_c (t := true) rfl h1 (v_raw rfl)) rfl rfl rfl ?_
    refine o_nil ?_
    refine s_then rfl rfl ?_
    refine s_seq ?_
    refine s_region ?_
    refine o_q (q_as (v_raw rfl)) rfl rfl rfl ?_
    refine o_nil ?_
    refine s_ret ?_
    refine s_code_ret ?_
    refine s_end ?_
    first | (unfold learnO; rw [if_neg (by simp_all; done)]; exact ⟨rfl, same.symm⟩) | (unfold learnO; rw [if_neg (by simp_all; omega)]; exact ⟨rfl, same.symm⟩) | (unfold learnO; rw [if_pos (by simp_all; done)]; exact ⟨rfl, by simp [odC]; rfl⟩) | (unfold learnO; rw [if_pos (by simp_all; omega)]; exact ⟨rfl, by simp [odC]; rfl⟩)

def tk12 : Nat → Nat → Option Nat := fun _ _ => none
def pl12 : Nat → List PStep := fun _ => []
theorem cb12 : Try.f12.body.map (codeB Try.prog Try.f12.ntmps tk12 pl12) = some true := by kernel_rfl
theorem goes12 : goesB Try.prog 12 = true := by kernel_rfl
-- (*carillon/order.Order).Add params ['*order.Order', 'int', 'string'] results [['t', 6]] own [] names ['0:o', '1:i', '2:s', '3:o', '4:i', '5:s'] calls [19, 34] paths 4

def addO (o : Od) (i : Int) (s : ByteArray) : Od × Bool := if firstO o = false ∧ i = o.log.length then putO o s else (o, false)
set_option maxHeartbeats 4000000 in
set_option maxRecDepth 20000 in
theorem snd12 (b : Nat) (o : Od) (i : Int) (s : ByteArray) (M : Mem) (hb : M b = some (.cells (odC o))) (hn : o.nodes ≠ []) (hs : s.size < 2 ^ 61) (hse : 0 ≤ o.self ∧ o.self < 7) (hha : o.has.length = 7) (hlg : o.log.length + 2 ≤ 2 ^ 43) : SoundCall Try.prog 12 [ptr b, int i, str s] M fun r M' => r = bool (addO o i s).2 ∧ M' = M.upd b (.cells (odC (addO o i s).1)) := by
  have hlm : (List.map str o.log).length = o.log.length := List.length_map _
  have same : M.upd b (.cells (odC o)) = M := Mem.upd_same hb
  refine SoundCall.go tk12 pl12 mixed Try.func12 cb12 rfl (Nat.le_of_ble_eq_true rfl) ?_
  refine s_seq ?_
  refine s_region ?_
  refine o_q (q_as (v_raw rfl)) rfl rfl rfl ?_
  refine o_nil ?_
  refine s_scope 0 rfl ?_
  refine s_seq ?_
  refine s_seq ?_
  refine s_region ?_
  refine o_q (q_mv ((by first | exact v_raw rfl | exact v_sptr rfl))) rfl rfl rfl ?_
  refine o_call ((snd19 b o _ hb hn)) goes19 (ac ((by first | exact v_raw rfl | exact v_sptr rfl)) ac_nil) rfl ?_
  refine o_q (q_mv (v_raw rfl)) rfl rfl rfl ?_
  refine o_cases (want := false) (j := 2) rfl rfl (fun h1 => ?_) (fun h1 => ?_)
  · have k1 := h1; try simp only [decide_eq_true_eq, decide_eq_false_iff_not, Bool.not_eq_true', Bool.not_eq_false', Bool.not_true, Bool.not_false, List.length_map, Decidable.not_not] at k1
    refine o_yes rfl rfl rfl h1 ?_
    refine o_q (q_mv (v_raw rfl)) rfl rfl rfl ?_
    refine o_yes rfl rfl rfl h1 ?_
    refine o_q (q_mv ((by first | exact v_raw rfl | exact v_sptr rfl))) rfl rfl rfl ?_
    refine o_yes rfl rfl rfl h1 ?_
    refine o_q (q_nil rfl) rfl rfl rfl ?_
    refine o_yes rfl rfl rfl h1 ?_
    refine o_q (q_fr fo66_2 rfl) rfl rfl rfl ?_
    refine o_yes rfl rfl rfl h1 ?_
    refine o_q (q_ldm ag22 sz22 rfl (by repeat first | exact Mem.upd_self _ _ _ | assumption | refine Mem.upd_ne (by assumption) ?_) rfl (v_sl rfl)) rfl rfl rfl ?_
    refine o_yes rfl rfl rfl h1 ?_
    refine o_q (q_len rfl und22 rfl) rfl rfl rfl ?_
    refine o_yes rfl rfl rfl h1 ?_
    refine o_q (q_neq rfl rfl) rfl rfl rfl ?_
    refine o_q (q_pick_c (t := false) rfl h1 (v_raw rfl)) rfl rfl rfl ?_
    refine o_nil ?_
    refine s_cond rfl (fun h2 => ?_) (fun h2 => ?_)
    · have k2 := h2; try simp only [decide_eq_true_eq, decide_eq_false_iff_not, Bool.not_eq_true', Bool.not_eq_false', Bool.not_true, Bool.not_false, List.length_map, Decidable.not_not] at k2
      refine s_goto ?_
      refine s_code_goto ?_
      refine s_goto_here ?_
      refine aFrom_right rfl ?_
      refine aFrom_right rfl ?_
      refine aFrom_left rfl ?_
      refine aFrom_here ?_
      refine s_seq ?_
      refine s_region ?_
      refine o_q (q_as (v_raw rfl)) rfl rfl rfl ?_
      refine o_nil ?_
      refine s_ret ?_
      refine s_nog_ret ?_
      refine s_end ?_
      first | (unfold addO; rw [if_pos (by simp_all; done)]; exact ⟨congrArg bool (by simp_all), rfl⟩) | (unfold addO; rw [if_pos (by simp_all; omega)]; exact ⟨congrArg bool (by simp_all), rfl⟩) | (unfold addO; rw [if_neg (by simp_all; done)]; exact ⟨rfl, same.symm⟩) | (unfold addO; rw [if_neg (by simp_all; omega)]; exact ⟨rfl, same.symm⟩)
    · have k2 := h2; try simp only [decide_eq_true_eq, decide_eq_false_iff_not, Bool.not_eq_true', Bool.not_eq_false', Bool.not_true, Bool.not_false, List.length_map, Decidable.not_not] at k2
      refine s_skip ?_
      refine s_seq ?_
      refine s_seq ?_
      refine s_region ?_
      refine o_q (q_mv ((by first | exact v_raw rfl | exact v_sptr rfl))) rfl rfl rfl ?_
      refine o_q (q_mv (v_raw rfl)) rfl rfl rfl ?_
      refine o_callx (snd34 b o s _ hb hs hse hha hlg) goes34 (ac ((by first | exact v_raw rfl | exact v_sptr rfl)) (ac (v_raw rfl) ac_nil)) rfl ?_
      rintro r M' ⟨rfl, rfl⟩
      refine o_nil ?_
      refine s_cond rfl (fun h3 => ?_) (fun h3 => ?_)
      · have k3 := h3; try simp only [decide_eq_true_eq, decide_eq_false_iff_not, Bool.not_eq_true', Bool.not_eq_false', Bool.not_true, Bool.not_false, List.length_map, Decidable.not_not] at k3
        refine s_seq ?_
        refine s_region ?_
        refine o_q (q_as (v_raw rfl)) rfl rfl rfl ?_
        refine o_nil ?_
        refine s_ret ?_
        refine s_code_ret ?_
        refine s_scp_ret ?_
        refine s_end ?_
        first | (unfold addO; rw [if_pos (by simp_all; done)]; exact ⟨congrArg bool (by simp_all), rfl⟩) | (unfold addO; rw [if_pos (by simp_all; omega)]; exact ⟨congrArg bool (by simp_all), rfl⟩) | (unfold addO; rw [if_neg (by simp_all; done)]; exact ⟨rfl, same.symm⟩) | (unfold addO; rw [if_neg (by simp_all; omega)]; exact ⟨rfl, same.symm⟩)
      · have k3 := h3; try simp only [decide_eq_true_eq, decide_eq_false_iff_not, Bool.not_eq_true', Bool.not_eq_false', Bool.not_true, Bool.not_false, List.length_map, Decidable.not_not] at k3
        refine s_skip ?_
        refine s_seq ?_
        refine s_label ?_
        refine s_seq ?_
        refine s_region ?_
        refine o_q (q_as (v_raw rfl)) rfl rfl rfl ?_
        refine o_nil ?_
        refine s_ret ?_
        refine s_scp_ret ?_
        refine s_end ?_
        first | (unfold addO; rw [if_pos (by simp_all; done)]; exact ⟨congrArg bool (by simp_all), rfl⟩) | (unfold addO; rw [if_pos (by simp_all; omega)]; exact ⟨congrArg bool (by simp_all), rfl⟩) | (unfold addO; rw [if_neg (by simp_all; done)]; exact ⟨rfl, same.symm⟩) | (unfold addO; rw [if_neg (by simp_all; omega)]; exact ⟨rfl, same.symm⟩)
  · have k1 := h1; try simp only [decide_eq_true_eq, decide_eq_false_iff_not, Bool.not_eq_true', Bool.not_eq_false', Bool.not_true, Bool.not_false, List.length_map, Decidable.not_not] at k1
    refine o_no rfl rfl rfl rfl h1 ?_
    refine o_no rfl rfl rfl rfl h1 ?_
    refine o_no rfl rfl rfl rfl h1 ?_
    refine o_no rfl rfl rfl rfl h1 ?_
    refine o_no rfl rfl rfl rfl h1 ?_
    refine o_no rfl rfl rfl rfl h1 ?_
    refine o_no rfl rfl rfl rfl h1 ?_
    refine o_q (q_pick_c (t := true) rfl h1 (v_raw rfl)) rfl rfl rfl ?_
    refine o_nil ?_
    refine s_then rfl rfl ?_
    refine s_goto ?_
    refine s_code_goto ?_
    refine s_goto_here ?_
    refine aFrom_right rfl ?_
    refine aFrom_right rfl ?_
    refine aFrom_left rfl ?_
    refine aFrom_here ?_
    refine s_seq ?_
    refine s_region ?_
    refine o_q (q_as (v_raw rfl)) rfl rfl rfl ?_
    refine o_nil ?_
    refine s_ret ?_
    refine s_nog_ret ?_
    refine s_end ?_
    first | (unfold addO; rw [if_pos (by simp_all; done)]; exact ⟨congrArg bool (by simp_all), rfl⟩) | (unfold addO; rw [if_pos (by simp_all; omega)]; exact ⟨congrArg bool (by simp_all), rfl⟩) | (unfold addO; rw [if_neg (by simp_all; done)]; exact ⟨rfl, same.symm⟩) | (unfold addO; rw [if_neg (by simp_all; omega)]; exact ⟨rfl, same.symm⟩)

def tk10 : Nat → Nat → Option Nat := fun _ _ => none
def pl10 : Nat → List PStep := fun _ => []
theorem cb10 : Try.f10.body.map (codeB Try.prog Try.f10.ntmps tk10 pl10) = some true := by kernel_rfl
theorem goes10 : goesB Try.prog 10 = true := by kernel_rfl
-- (*carillon/order.Order).Propose params ['*order.Order', 'string'] results [['t', 4], ['t', 5]] own [] names ['0:o', '1:s', '2:o', '3:s'] calls [19, 34, 35] paths 3

def propO (o : Od) (s : ByteArray) : Od × Int × Int := if firstO o then (if (putO o s).2 then (settleO (putO o s).1, o.log.length, 0) else (o, 0, 8)) else (o, 0, 11)
theorem put_no {o : Od} {s : ByteArray} (h : (putO o s).2 = false) : (putO o s).1 = o := by
  unfold putO at *
  split
  · rfl
  · rename_i hc; rw [if_neg hc] at h; cases h
theorem put_nodes (o : Od) (s : ByteArray) : (putO o s).1.nodes = o.nodes ∧ (putO o s).1.has.length = o.has.length := by
  unfold putO; split <;> simp
theorem put_log {o : Od} {s : ByteArray} (h : (putO o s).2 = true) : (putO o s).1.log = o.log ++ [s] := by
  unfold putO at *
  split
  · rename_i hc; rw [if_pos hc] at h; cases h
  · rfl
theorem settle_log (o : Od) : (settleO o).log = o.log := rfl
set_option maxHeartbeats 4000000 in
set_option maxRecDepth 20000 in
theorem snd10 (b : Nat) (o : Od) (s : ByteArray) (M : Mem) (hb : M b = some (.cells (odC o))) (h0 : 0 < o.nodes.length) (hs : s.size < 2 ^ 61) (hse : 0 ≤ o.self ∧ o.self < 7) (hha : o.has.length = 7) (hlg : o.log.length + 2 ≤ 2 ^ 43) (h7 : o.nodes.length ≤ 7) (hnr : ∀ n ∈ o.nodes, 0 ≤ n ∧ n < 7) : SoundCall Try.prog 10 [ptr b, str s] M fun r M' => r = .tup [int (propO o s).2.1, int (propO o s).2.2] ∧ M' = M.upd b (.cells (odC (propO o s).1)) := by
  have hn : o.nodes ≠ [] := fun h => by rw [h] at h0; simp at h0
  have same : M.upd b (.cells (odC o)) = M := Mem.upd_same hb
  obtain ⟨hpn, hph⟩ := put_nodes o s
  have hll : ((List.map str (settleO (putO o s).1).log).length : Int) < 2 ^ 44 := by
    rw [List.length_map, settle_log]
    unfold putO
    split <;> simp <;> omega
  refine SoundCall.go tk10 pl10 mixed Try.func10 cb10 rfl (Nat.le_of_ble_eq_true rfl) ?_
  refine s_seq ?_
  refine s_region ?_
  refine o_q (q_as (v_raw rfl)) rfl rfl rfl ?_
  refine o_q (q_as (v_raw rfl)) rfl rfl rfl ?_
  refine o_nil ?_
  refine s_seq ?_
  refine s_seq ?_
  refine s_region ?_
  refine o_q (q_mv ((by first | exact v_raw rfl | exact v_sptr rfl))) rfl rfl rfl ?_
  refine o_call ((snd19 b o _ hb hn)) goes19 (ac ((by first | exact v_raw rfl | exact v_sptr rfl)) ac_nil) rfl ?_
  refine o_q (q_not rfl) rfl rfl rfl ?_
  refine o_nil ?_
  refine s_cond rfl (fun h1 => ?_) (fun h1 => ?_)
  · have k1 := h1; try simp only [decide_eq_true_eq, decide_eq_false_iff_not, Bool.not_eq_true', Bool.not_eq_false', Bool.not_true, Bool.not_false, List.length_map, Decidable.not_not] at k1
    refine s_seq ?_
    refine s_region ?_
    refine o_q (q_as (v_raw rfl)) rfl rfl rfl ?_
    refine o_q (q_as (v_raw rfl)) rfl rfl rfl ?_
    refine o_nil ?_
    refine s_ret ?_
    refine s_code_ret ?_
    refine s_end ?_
    have e : propO o s = (o, 0, 11) := by unfold propO; rw [if_neg (by simp [k1])]
    rw [e]
    exact ret_many (.inl rfl) rfl (rl_t rfl (rl_t rfl rl_nil)) rfl ⟨rfl, same.symm⟩
  · have k1 := h1; try simp only [decide_eq_true_eq, decide_eq_false_iff_not, Bool.not_eq_true', Bool.not_eq_false', Bool.not_true, Bool.not_false, List.length_map, Decidable.not_not] at k1
    refine s_skip ?_
    refine s_seq ?_
    refine s_seq ?_
    refine s_region ?_
    refine o_q (q_mv ((by first | exact v_raw rfl | exact v_sptr rfl))) rfl rfl rfl ?_
    refine o_q (q_mv (v_raw rfl)) rfl rfl rfl ?_
    refine o_callx (snd34 b o s _ hb hs hse hha hlg) goes34 (ac ((by first | exact v_raw rfl | exact v_sptr rfl)) (ac (v_raw rfl) ac_nil)) rfl ?_
    rintro r M' ⟨rfl, rfl⟩
    refine o_q (q_not rfl) rfl rfl rfl ?_
    refine o_nil ?_
    refine s_cond rfl (fun h2 => ?_) (fun h2 => ?_)
    · have k2 := h2; try simp only [decide_eq_true_eq, decide_eq_false_iff_not, Bool.not_eq_true', Bool.not_eq_false', Bool.not_true, Bool.not_false, List.length_map, Decidable.not_not] at k2
      refine s_seq ?_
      refine s_region ?_
      refine o_q (q_as (v_raw rfl)) rfl rfl rfl ?_
      refine o_q (q_as (v_raw rfl)) rfl rfl rfl ?_
      refine o_nil ?_
      refine s_ret ?_
      refine s_code_ret ?_
      refine s_end ?_
      have e : propO o s = (o, 0, 8) := by
        unfold propO; rw [if_pos k1, if_neg (by simp [k2])]
      rw [e]
      exact ret_many (.inl rfl) rfl (rl_t rfl (rl_t rfl rl_nil)) rfl ⟨rfl, by rw [put_no k2]⟩
    · have k2 := h2; try simp only [decide_eq_true_eq, decide_eq_false_iff_not, Bool.not_eq_true', Bool.not_eq_false', Bool.not_true, Bool.not_false, List.length_map, Decidable.not_not] at k2
      refine s_skip ?_
      refine s_seq ?_
      refine s_region ?_
      refine o_q (q_mv ((by first | exact v_raw rfl | exact v_sptr rfl))) rfl rfl rfl ?_
      refine o_callx ((snd35 b (putO o s).1 _ (by repeat first | exact Mem.upd_self _ _ _ | assumption | refine Mem.upd_ne (by assumption) ?_) (by rw [hpn]; exact h7) (by rw [hpn]; exact h0) (by rw [hpn]; exact hnr) (by rw [hph]; exact hha)).leaves) goes35 (ac ((by first | exact v_raw rfl | exact v_sptr rfl)) ac_nil) rfl ?_
      rintro r M' ⟨rfl, rfl⟩
      refine o_nil ?_
      refine s_seq ?_
      refine s_region ?_
      refine o_q (q_mv ((by first | exact v_raw rfl | exact v_sptr rfl))) rfl rfl rfl ?_
      refine o_q (q_nil rfl) rfl rfl rfl ?_
      refine o_q (q_fr fo66_2 rfl) rfl rfl rfl ?_
      refine o_q (q_ldm ag22 sz22 rfl (by repeat first | exact Mem.upd_self _ _ _ | assumption | refine Mem.upd_ne (by assumption) ?_) rfl (v_sl rfl)) rfl rfl rfl ?_
      refine o_q (q_len rfl und22 rfl) rfl rfl rfl ?_
      refine o_q (q_sub rfl rfl (wrap64 (by omega) (by omega))) rfl rfl rfl ?_
      refine o_q (q_as (v_raw rfl)) rfl rfl rfl ?_
      refine o_q (q_as (v_raw rfl)) rfl rfl rfl ?_
      refine o_nil ?_
      refine s_ret ?_
      refine s_end ?_
      have e : propO o s = (settleO (putO o s).1, (o.log.length : Int), 0) := by
        unfold propO; rw [if_pos k1, if_pos k2]
      rw [e]
      exact ret_many (.inl rfl) rfl (rl_t rfl (rl_t rfl rl_nil)) rfl ⟨congrArg (fun n => AVal.tup [int n, int 0]) (by rw [List.length_map, settle_log, put_log k2, List.length_append]; simp), by rw [Mem.upd_upd]⟩

def tk13 : Nat → Nat → Option Nat := fun _ _ => none
def pl13 : Nat → List PStep
  | 3 => [.q 0, .q 1, .q 2, .q 3, .q 4, .q 5, .q 6, .q 7, .q 8, .q 9, .q 10, .q 11, .q 12, .s 13 [11, 10]]
  | _ => []
theorem cb13 : Try.f13.body.map (codeB Try.prog Try.f13.ntmps tk13 pl13) = some true := by kernel_rfl
theorem goes13 : goesB Try.prog 13 = true := by kernel_rfl
-- (*carillon/order.Order).Has params ['*order.Order', 'int', 'int'] results [['t', 6]] own [] names ['0:o', '1:node', '2:n', '3:o', '4:node', '5:n'] calls [35, 36] paths 4

def otherO (o : Od) (v : Int) : Bool := firstO o && decide (v ≠ o.self) && decide (v ∈ o.nodes)
def setH (o : Od) (v n : Int) : Od := ⟨o.self, o.nodes, o.log, o.bytes, o.sure, o.has.set v.toNat (max (hv o v) n)⟩
def hasO (o : Od) (v n : Int) : Od × Bool := if otherO o v = true ∧ 0 ≤ n ∧ n ≤ o.log.length then (settleO (setH o v n), true) else (o, false)
set_option maxHeartbeats 4000000 in
set_option maxRecDepth 20000 in
theorem snd13 (b : Nat) (o : Od) (v n : Int) (M : Mem) (hb : M b = some (.cells (odC o))) (h0 : 0 < o.nodes.length) (hha : o.has.length = 7) (h7 : o.nodes.length ≤ 7) (hnr : ∀ n ∈ o.nodes, 0 ≤ n ∧ n < 7) : SoundCall Try.prog 13 [ptr b, int v, int n] M fun r M' => r = bool (hasO o v n).2 ∧ M' = M.upd b (.cells (odC (hasO o v n).1)) := by
  have hn : o.nodes ≠ [] := fun h => by rw [h] at h0; simp at h0
  have hlm : (List.map str o.log).length = o.log.length := List.length_map _
  have same : M.upd b (.cells (odC o)) = M := Mem.upd_same hb
  refine SoundCall.go tk13 pl13 mixed Try.func13 cb13 rfl (Nat.le_of_ble_eq_true rfl) ?_
  refine s_seq ?_
  refine s_region ?_
  refine o_q (q_as (v_raw rfl)) rfl rfl rfl ?_
  refine o_nil ?_
  refine s_seq ?_
  refine s_seq ?_
  refine s_region ?_
  refine o_q (q_mv ((by first | exact v_raw rfl | exact v_sptr rfl))) rfl rfl rfl ?_
  refine o_q (q_mv (v_raw rfl)) rfl rfl rfl ?_
  refine o_call ((snd36 b o v _ hb hn (by omega))) goes36 (ac ((by first | exact v_raw rfl | exact v_sptr rfl)) (ac (v_raw rfl) ac_nil)) rfl ?_
  refine o_q (q_not rfl) rfl rfl rfl ?_
  refine o_q (q_mv (v_raw rfl)) rfl rfl rfl ?_
  refine o_cases (want := false) (j := 4) rfl rfl (fun h1 => ?_) (fun h1 => ?_)
  · have k1 := h1; try simp only [decide_eq_true_eq, decide_eq_false_iff_not, Bool.not_eq_true', Bool.not_eq_false', Bool.not_true, Bool.not_false, List.length_map, Decidable.not_not] at k1
    refine o_yes rfl rfl rfl h1 ?_
    refine o_q (q_mv (v_raw rfl)) rfl rfl rfl ?_
    refine o_yes rfl rfl rfl h1 ?_
    refine o_q (q_lss rfl rfl) rfl rfl rfl ?_
    refine o_q (q_pick_c (t := false) rfl h1 (v_raw rfl)) rfl rfl rfl ?_
    refine o_q (q_mv (v_raw rfl)) rfl rfl rfl ?_
    refine o_cases (want := false) (j := 8) rfl rfl (fun h2 => ?_) (fun h2 => ?_)
    · have k2 := h2; try simp only [decide_eq_true_eq, decide_eq_false_iff_not, Bool.not_eq_true', Bool.not_eq_false', Bool.not_true, Bool.not_false, List.length_map, Decidable.not_not] at k2
      refine o_yes rfl rfl rfl h2 ?_
      refine o_q (q_mv (v_raw rfl)) rfl rfl rfl ?_
      refine o_yes rfl rfl rfl h2 ?_
      refine o_q (q_mv ((by first | exact v_raw rfl | exact v_sptr rfl))) rfl rfl rfl ?_
      refine o_yes rfl rfl rfl h2 ?_
      refine o_q (q_nil rfl) rfl rfl rfl ?_
      refine o_yes rfl rfl rfl h2 ?_
      refine o_q (q_fr fo66_2 rfl) rfl rfl rfl ?_
      refine o_yes rfl rfl rfl h2 ?_
      refine o_q (q_ldm ag22 sz22 rfl (by repeat first | exact Mem.upd_self _ _ _ | assumption | refine Mem.upd_ne (by assumption) ?_) rfl (v_sl rfl)) rfl rfl rfl ?_
      refine o_yes rfl rfl rfl h2 ?_
      refine o_q (q_len rfl und22 rfl) rfl rfl rfl ?_
      refine o_yes rfl rfl rfl h2 ?_
      refine o_q (q_gtr rfl rfl) rfl rfl rfl ?_
      refine o_q (q_pick_c (t := false) rfl h2 (v_raw rfl)) rfl rfl rfl ?_
      refine o_nil ?_
      refine s_cond rfl (fun h3 => ?_) (fun h3 => ?_)
      · have k3 := h3; try simp only [decide_eq_true_eq, decide_eq_false_iff_not, Bool.not_eq_true', Bool.not_eq_false', Bool.not_true, Bool.not_false, List.length_map, Decidable.not_not] at k3
        refine s_seq ?_
        refine s_region ?_
        refine o_q (q_as (v_raw rfl)) rfl rfl rfl ?_
        refine o_nil ?_
        refine s_ret ?_
        refine s_code_ret ?_
        refine s_end ?_
        unfold hasO
        split
        · first | exact ⟨rfl, by rw [Mem.upd_upd]⟩ | (exfalso; rename_i hc; obtain ⟨h1, h2, h3⟩ := hc; first | omega | (simp_all [otherO]; done))
        · first | exact ⟨rfl, same.symm⟩ | (exfalso; rename_i hc; exact hc ⟨by assumption, by omega, by omega⟩)
      · have k3 := h3; try simp only [decide_eq_true_eq, decide_eq_false_iff_not, Bool.not_eq_true', Bool.not_eq_false', Bool.not_true, Bool.not_false, List.length_map, Decidable.not_not] at k3
        have hot : otherO o v = true := by simp_all [otherO]
        have hvm : v ∈ o.nodes := by simp [otherO] at hot; exact hot.2
        have hvr := hnr v hvm
        have hpl : (0 + 5 + v.toNat * 1) + 1 ≤ (odC o).length := by simp [odC, hha]; omega
        refine s_skip ?_
        refine s_seq ?_
        refine s_draw rfl ?_
        refine d_q rfl (q_mv ((by first | exact v_raw rfl | exact v_sptr rfl))) rfl rfl rfl ?_
        refine d_q rfl (q_mv (v_raw rfl)) rfl rfl rfl ?_
        refine d_q rfl (q_mv ((by first | exact v_raw rfl | exact v_sptr rfl))) rfl rfl rfl ?_
        refine d_q rfl (q_mv (v_raw rfl)) rfl rfl rfl ?_
        refine d_q rfl (q_nil rfl) rfl rfl rfl ?_
        refine d_q rfl (q_fr fo66_5 rfl) rfl rfl rfl ?_
        refine d_q rfl (q_idxa und64 sz3 rfl rfl (by omega) (by omega)) rfl rfl rfl ?_
        refine d_q rfl (q_ldm ag3 sz3 rfl (by repeat first | exact Mem.upd_self _ _ _ | assumption | refine Mem.upd_ne (by assumption) ?_) (od_get (n := v) (by omega) (by omega)) (v_raw rfl)) rfl rfl rfl ?_
        refine d_q rfl (q_mv (v_raw rfl)) rfl rfl rfl ?_
        refine d_q rfl (q_max rfl rfl) rfl rfl rfl ?_
        refine d_q rfl (q_nil rfl) rfl rfl rfl ?_
        refine d_q rfl (q_fr fo66_5 rfl) rfl rfl rfl ?_
        refine d_q rfl (q_idxa und64 sz3 rfl rfl (by omega) (by omega)) rfl rfl rfl ?_
        refine d_s rfl ?_
        refine o_store rfl (by repeat first | exact Mem.upd_self _ _ _ | assumption | refine Mem.upd_ne (by assumption) ?_) (by first | exact e_raw rfl | exact e_agg rfl | exact e_sl rfl | rfl) rfl sz3 rfl hpl rfl (show _ = odC (setH o v n) from od_set (p := [int o.self, .sl (o.nodes.map int) false, .sl (o.log.map str) true, int o.bytes, int o.sure]) (has := o.has) (n := v.toNat) rfl (by omega) (by omega)) ?_
        refine o_nil ⟨(by simp [Mem.upd, *]), ?_⟩
        refine d_nil ?_
        refine s_seq ?_
        refine s_region ?_
        refine o_q (q_mv ((by first | exact v_raw rfl | exact v_sptr rfl))) rfl rfl rfl ?_
        refine o_callx ((snd35 b (setH o v n) _ (by repeat first | exact Mem.upd_self _ _ _ | assumption | refine Mem.upd_ne (by assumption) ?_) h7 h0 hnr (by simp [setH, hha])).leaves) goes35 (ac ((by first | exact v_raw rfl | exact v_sptr rfl)) ac_nil) rfl ?_
        rintro r M' ⟨rfl, rfl⟩
        refine o_nil ?_
        refine s_seq ?_
        refine s_region ?_
        refine o_q (q_as (v_raw rfl)) rfl rfl rfl ?_
        refine o_nil ?_
        refine s_ret ?_
        refine s_end ?_
        unfold hasO
        split
        · first | exact ⟨rfl, by rw [Mem.upd_upd]⟩ | (exfalso; rename_i hc; obtain ⟨h1, h2, h3⟩ := hc; first | omega | (simp_all [otherO]; done))
        · first | exact ⟨rfl, same.symm⟩ | (exfalso; rename_i hc; exact hc ⟨by assumption, by omega, by omega⟩)
    · have k2 := h2; try simp only [decide_eq_true_eq, decide_eq_false_iff_not, Bool.not_eq_true', Bool.not_eq_false', Bool.not_true, Bool.not_false, List.length_map, Decidable.not_not] at k2
      refine o_no rfl rfl rfl rfl h2 ?_
      refine o_no rfl rfl rfl rfl h2 ?_
      refine o_no rfl rfl rfl rfl h2 ?_
      refine o_no rfl rfl rfl rfl h2 ?_
      refine o_no rfl rfl rfl rfl h2 ?_
      refine o_no rfl rfl rfl rfl h2 ?_
      refine o_no rfl rfl rfl rfl h2 ?_
      refine o_q (q_pick_c (t := true) rfl h2 (v_raw rfl)) rfl rfl rfl ?_
      refine o_nil ?_
      refine s_then rfl rfl ?_
      refine s_seq ?_
      refine s_region ?_
      refine o_q (q_as (v_raw rfl)) rfl rfl rfl ?_
      refine o_nil ?_
      refine s_ret ?_
      refine s_code_ret ?_
      refine s_end ?_
      unfold hasO
      split
      · first | exact ⟨rfl, by rw [Mem.upd_upd]⟩ | (exfalso; rename_i hc; obtain ⟨h1, h2, h3⟩ := hc; first | omega | (simp_all [otherO]; done))
      · first | exact ⟨rfl, same.symm⟩ | (exfalso; rename_i hc; exact hc ⟨by assumption, by omega, by omega⟩)
  · have k1 := h1; try simp only [decide_eq_true_eq, decide_eq_false_iff_not, Bool.not_eq_true', Bool.not_eq_false', Bool.not_true, Bool.not_false, List.length_map, Decidable.not_not] at k1
    refine o_no rfl rfl rfl rfl h1 ?_
    refine o_no rfl rfl rfl rfl h1 ?_
    refine o_q (q_pick_c (t := true) rfl h1 (v_raw rfl)) rfl rfl rfl ?_
    refine o_q (q_mv (v_raw rfl)) rfl rfl rfl ?_
    refine o_no rfl rfl rfl rfl rfl ?_
    refine o_no rfl rfl rfl rfl rfl ?_
    refine o_no rfl rfl rfl rfl rfl ?_
    refine o_no rfl rfl rfl rfl rfl ?_
    refine o_no rfl rfl rfl rfl rfl ?_
    refine o_no rfl rfl rfl rfl rfl ?_
    refine o_no rfl rfl rfl rfl rfl ?_
    refine o_q (q_pick_c (t := true) rfl rfl (v_raw rfl)) rfl rfl rfl ?_
    refine o_nil ?_
    refine s_then rfl rfl ?_
    refine s_seq ?_
    refine s_region ?_
    refine o_q (q_as (v_raw rfl)) rfl rfl rfl ?_
    refine o_nil ?_
    refine s_ret ?_
    refine s_code_ret ?_
    refine s_end ?_
    unfold hasO
    split
    · first | exact ⟨rfl, by rw [Mem.upd_upd]⟩ | (exfalso; rename_i hc; obtain ⟨h1, h2, h3⟩ := hc; first | omega | (simp_all [otherO]; done))
    · first | exact ⟨rfl, same.symm⟩ | (exfalso; rename_i hc; exact hc ⟨by assumption, by omega, by omega⟩)

def tk31 : Nat → Nat → Option Nat
  | 0, 0 => some 0
  | 2, 0 => some 0
  | 3, 3 => some 0
  | _, _ => none
def pl31 : Nat → List PStep := fun _ => []
theorem cb31 : Try.f31.body.map (codeB Try.prog Try.f31.ntmps tk31 pl31) = some true := by kernel_rfl
theorem goes31 : goesB Try.prog 31 = true := by kernel_rfl
-- slices.Clone[[]int,int] params ['[]int'] results [['t', 2]] own [5] names ['0:s', '1:s'] calls [] paths 2
set_option maxHeartbeats 4000000 in
set_option maxRecDepth 20000 in
theorem snd31 (l : List Int) (o : Bool) (M : Mem) (hl : l.length ≤ 2 ^ 43) : SoundCall Try.prog 31 [.sl (l.map int) o] M fun r M' => r = .sl (l.map int) true ∧ M' = M := by
  refine SoundCall.go tk31 pl31 mixed Try.func31 cb31 rfl (Nat.le_of_ble_eq_true rfl) ?_
  refine s_seq ?_
  refine s_region ?_
  refine o_q (q_as_const rfl) rfl rfl rfl ?_
  refine o_nil ?_
  refine s_seq ?_
  refine s_seq ?_
  refine s_region ?_
  refine o_q (q_mv (v_sl rfl)) rfl rfl rfl ?_
  refine o_nilcmp und25 rfl rfl (.inl rfl) (fun nh1 h1n => ?_)
  refine o_nil ?_
  refine s_cond rfl (fun h2 => ?_) (fun h2 => ?_)
  · have k2 := h2; try simp only [decide_eq_true_eq, decide_eq_false_iff_not, Bool.not_eq_true', Bool.not_eq_false', Bool.not_true, Bool.not_false, List.length_map, Decidable.not_not] at k2
    obtain rfl : l = [] := by
      rcases l with _ | ⟨a, l⟩
      · rfl
      · have := h1n (by simp); subst this; cases h2
    refine s_seq ?_
    refine s_region ?_
    refine o_q (q_as_const rfl) rfl rfl rfl ?_
    refine o_nil ?_
    refine s_ret ?_
    refine s_code_ret ?_
    refine s_end ?_
    exact ⟨rfl, rfl⟩
  · have k2 := h2; try simp only [decide_eq_true_eq, decide_eq_false_iff_not, Bool.not_eq_true', Bool.not_eq_false', Bool.not_true, Bool.not_false, List.length_map, Decidable.not_not] at k2
    refine s_skip ?_
    refine s_seq ?_
    refine s_region ?_
    refine o_q (q_bs slt25 pn rfl Els.nil (by decide)) rfl rfl rfl ?_
    refine o_q (q_mv (v_sl rfl)) rfl rfl rfl ?_
    refine o_qs (q_app slt25 rfl rfl rfl rfl (by first | exact Els.nil | exact elsInt) (by first | exact (by first | exact Els.nil | exact elsInt) | exact Els.cons rfl rfl Els.nil) (by simp; omega)) rfl rfl rfl rfl ?_
    refine o_qs (q_as_own rfl) rfl rfl rfl rfl ?_
    refine o_nil ?_
    refine s_ret ?_
    refine s_end ?_
    exact ⟨rfl, rfl⟩

def tk32 : Nat → Nat → Option Nat
  | 0, 0 => some 0
  | 2, 0 => some 0
  | 3, 3 => some 0
  | _, _ => none
def pl32 : Nat → List PStep := fun _ => []
theorem cb32 : Try.f32.body.map (codeB Try.prog Try.f32.ntmps tk32 pl32) = some true := by kernel_rfl
theorem goes32 : goesB Try.prog 32 = true := by kernel_rfl
-- slices.Clone[[]string,string] params ['[]string'] results [['t', 2]] own [5] names ['0:s', '1:s'] calls [] paths 2
set_option maxHeartbeats 4000000 in
set_option maxRecDepth 20000 in
theorem snd32 (l : List ByteArray) (o : Bool) (M : Mem) (hl : l.length ≤ 2 ^ 43) : SoundCall Try.prog 32 [.sl (l.map str) o] M fun r M' => r = .sl (l.map str) true ∧ M' = M := by
  refine SoundCall.go tk32 pl32 mixed Try.func32 cb32 rfl (Nat.le_of_ble_eq_true rfl) ?_
  refine s_seq ?_
  refine s_region ?_
  refine o_q (q_as_const rfl) rfl rfl rfl ?_
  refine o_nil ?_
  refine s_seq ?_
  refine s_seq ?_
  refine s_region ?_
  refine o_q (q_mv (v_sl rfl)) rfl rfl rfl ?_
  refine o_nilcmp und22 rfl rfl (.inl rfl) (fun nh1 h1n => ?_)
  refine o_nil ?_
  refine s_cond rfl (fun h2 => ?_) (fun h2 => ?_)
  · have k2 := h2; try simp only [decide_eq_true_eq, decide_eq_false_iff_not, Bool.not_eq_true', Bool.not_eq_false', Bool.not_true, Bool.not_false, List.length_map, Decidable.not_not] at k2
    obtain rfl : l = [] := by
      rcases l with _ | ⟨a, l⟩
      · rfl
      · have := h1n (by simp); subst this; cases h2
    refine s_seq ?_
    refine s_region ?_
    refine o_q (q_as_const rfl) rfl rfl rfl ?_
    refine o_nil ?_
    refine s_ret ?_
    refine s_code_ret ?_
    refine s_end ?_
    exact ⟨rfl, rfl⟩
  · have k2 := h2; try simp only [decide_eq_true_eq, decide_eq_false_iff_not, Bool.not_eq_true', Bool.not_eq_false', Bool.not_true, Bool.not_false, List.length_map, Decidable.not_not] at k2
    refine s_skip ?_
    refine s_seq ?_
    refine s_region ?_
    refine o_q (q_bs slt22 pn rfl Els.nil (by decide)) rfl rfl rfl ?_
    refine o_q (q_mv (v_sl rfl)) rfl rfl rfl ?_
    refine o_qs (q_app slt22 rfl rfl rfl rfl (by first | exact Els.nil | exact elsStr) (by first | exact (by first | exact Els.nil | exact elsStr) | exact Els.cons rfl rfl Els.nil) (by simp; omega)) rfl rfl rfl rfl ?_
    refine o_qs (q_as_own rfl) rfl rfl rfl rfl ?_
    refine o_nil ?_
    refine s_ret ?_
    refine s_end ?_
    exact ⟨rfl, rfl⟩

def tk27 : Nat → Nat → Option Nat
  | 0, 0 => some 0
  | 1, 5 => some 0
  | _, _ => none
def pl27 : Nat → List PStep := fun _ => []
theorem cb27 : Try.f27.body.map (codeB Try.prog Try.f27.ntmps tk27 pl27) = some true := by kernel_rfl
theorem goes27 : goesB Try.prog 27 = true := by kernel_rfl
-- (*carillon/order.Order).Log params ['*order.Order'] results [['t', 2]] own [] names ['0:o', '1:o'] calls [32] paths 1
set_option maxHeartbeats 4000000 in
set_option maxRecDepth 20000 in
theorem snd27 (b : Nat) (o : Od) (M : Mem) (hb : M b = some (.cells (odC o))) (hlg : o.log.length + 2 ≤ 2 ^ 43) : SoundCall Try.prog 27 [ptr b] M fun r M' => r = .sl (o.log.map str) true ∧ M' = M := by
  refine SoundCall.go tk27 pl27 mixed Try.func27 cb27 rfl (Nat.le_of_ble_eq_true rfl) ?_
  refine s_seq ?_
  refine s_region ?_
  refine o_q (q_as_const rfl) rfl rfl rfl ?_
  refine o_nil ?_
  refine s_seq ?_
  refine s_region ?_
  refine o_q (q_mv ((by first | exact v_raw rfl | exact v_sptr rfl))) rfl rfl rfl ?_
  refine o_q (q_nil rfl) rfl rfl rfl ?_
  refine o_q (q_fr fo66_2 rfl) rfl rfl rfl ?_
  refine o_q (q_ldm ag22 sz22 rfl (by repeat first | exact Mem.upd_self _ _ _ | assumption | refine Mem.upd_ne (by assumption) ?_) rfl (v_sl rfl)) rfl rfl rfl ?_
  refine o_call ((snd32 o.log _ _ (by omega))) goes32 (ac (v_sl rfl) ac_nil) rfl ?_
  refine o_qs (q_as_own rfl) rfl rfl rfl rfl ?_
  refine o_nil ?_
  refine s_ret ?_
  refine s_end ?_
  exact ⟨rfl, rfl⟩

def tk11 : Nat → Nat → Option Nat := fun _ _ => none
def pl11 : Nat → List PStep := fun _ => []
theorem cb11 : Try.f11.body.map (codeB Try.prog Try.f11.ntmps tk11 pl11) = some true := by kernel_rfl
theorem goes11 : goesB Try.prog 11 = true := by kernel_rfl
-- (*carillon/order.Order).Wants params ['*order.Order', 'int', 'int'] results [['t', 6], ['t', 7]] own [] names ['0:o', '1:node', '2:most', '3:o', '4:node', '5:most', '8:at', '9:l'] calls [32, 36] paths 2

theorem q_sl_lo {T : Nat → AVal} {M : Mem} {x y : Operand} {dst : Option Nat} {ty : TypeId} {pos : String} {af : Array Edge} {g : Option (Nat × Bool)} {α : Type} {f : α → AVal} {st e : TypeId} {sz n : Nat} {l : List α} {own : Bool} (hu : Try.prog.underlying st = some (.slice e)) (hs : sizeT Try.prog e = some sz) (hx : ev T x = .sl (l.map f) own) (hl : Els sz (l.map f))
    (hlo : aBound T 0 (some y) = some n) (h1 : n ≤ l.length) : qstep Try.prog none (mkO dst (.slice st x (some y) none none) ty pos af g) T M = some (⟨none, .sl ((l.drop n).map f) false⟩, []) := by
  have h := q_slice (dst := dst) (ty := ty) (pos := pos) (af := af) (g := g) (M := M) hu hs hx hl hlo ab_none (by rw [List.length_map]; exact h1) (Nat.le_refl _)
  rw [List.take_length, ← List.map_drop] at h
  exact h
theorem q_sl_hi {T : Nat → AVal} {M : Mem} {x y : Operand} {dst : Option Nat} {ty : TypeId} {pos : String} {af : Array Edge} {g : Option (Nat × Bool)} {α : Type} {f : α → AVal} {st e : TypeId} {sz n : Nat} {l : List α} {own : Bool} (hu : Try.prog.underlying st = some (.slice e)) (hs : sizeT Try.prog e = some sz) (hx : ev T x = .sl (l.map f) own) (hl : Els sz (l.map f))
    (hhi : aBound T (l.map f).length (some y) = some n) (h1 : n ≤ l.length) : qstep Try.prog none (mkO dst (.slice st x none (some y) none) ty pos af g) T M = some (⟨none, .sl ((l.take n).map f) false⟩, []) := by
  have h := q_slice (dst := dst) (ty := ty) (pos := pos) (af := af) (g := g) (M := M) hu hs hx hl ab_none hhi (Nat.zero_le _) (by rw [List.length_map]; exact h1)
  rw [List.drop_zero, ← List.map_take] at h
  exact h
def wantsO (o : Od) (v most : Int) : Int × List ByteArray := if otherO o v then (hv o v, (o.log.drop (hv o v).toNat).take (max most 0).toNat) else (-1, [])
theorem take_minS (l : List ByteArray) (n : Int) : l.take (min (max n 0) (l.length : Int)).toNat = l.take (max n 0).toNat := by
  rcases Nat.lt_or_ge (max n 0).toNat l.length with h | h
  · congr 1; omega
  · rw [List.take_of_length_le h, List.take_of_length_le (by omega)]
set_option maxHeartbeats 4000000 in
set_option maxRecDepth 20000 in
theorem snd11 (b : Nat) (o : Od) (v most : Int) (M : Mem) (hb : M b = some (.cells (odC o))) (h0 : 0 < o.nodes.length) (hha : o.has.length = 7) (h7 : o.nodes.length ≤ 7) (hnr : ∀ n ∈ o.nodes, 0 ≤ n ∧ n < 7) (hhA : ∀ w ∈ o.nodes, 0 ≤ hv o w ∧ hv o w ≤ o.log.length) (hlg : o.log.length + 2 ≤ 2 ^ 43) : SoundCall Try.prog 11 [ptr b, int v, int most] M fun r M' => r = .tup [int (wantsO o v most).1, .sl ((wantsO o v most).2.map str) false] ∧ M' = M := by
  have hn : o.nodes ≠ [] := fun h => by rw [h] at h0; simp at h0
  refine SoundCall.go tk11 pl11 mixed Try.func11 cb11 rfl (Nat.le_of_ble_eq_true rfl) ?_
  refine s_seq ?_
  refine s_region ?_
  refine o_q (q_as (v_raw rfl)) rfl rfl rfl ?_
  refine o_q (q_as (v_sl rfl)) rfl rfl rfl ?_
  refine o_nil ?_
  refine s_seq ?_
  refine s_seq ?_
  refine s_region ?_
  refine o_q (q_mv ((by first | exact v_raw rfl | exact v_sptr rfl))) rfl rfl rfl ?_
  refine o_q (q_mv (v_raw rfl)) rfl rfl rfl ?_
  refine o_call ((snd36 b o v _ hb hn (by omega))) goes36 (ac ((by first | exact v_raw rfl | exact v_sptr rfl)) (ac (v_raw rfl) ac_nil)) rfl ?_
  refine o_q (q_not rfl) rfl rfl rfl ?_
  refine o_nil ?_
  refine s_cond rfl (fun h1 => ?_) (fun h1 => ?_)
  · have k1 := h1; try simp only [decide_eq_true_eq, decide_eq_false_iff_not, Bool.not_eq_true', Bool.not_eq_false', Bool.not_true, Bool.not_false, List.length_map, Decidable.not_not] at k1
    have hot : otherO o v = false := by simp_all [otherO]
    refine s_seq ?_
    refine s_region ?_
    refine o_q (q_as (v_raw rfl)) rfl rfl rfl ?_
    refine o_q (q_as (v_sl rfl)) rfl rfl rfl ?_
    refine o_nil ?_
    refine s_ret ?_
    refine s_code_ret ?_
    refine s_end ?_
    exact ret_many (.inl rfl) rfl (rl_t rfl (rl_t rfl rl_nil)) rfl ⟨by unfold wantsO; rw [hot]; rfl, rfl⟩
  · have k1 := h1; try simp only [decide_eq_true_eq, decide_eq_false_iff_not, Bool.not_eq_true', Bool.not_eq_false', Bool.not_true, Bool.not_false, List.length_map, Decidable.not_not] at k1
    have hot : otherO o v = true := by simp_all [otherO]
    have hvm : v ∈ o.nodes := by simp [otherO] at hot; exact hot.2
    have hhb := hhA v hvm
    have hvr := hnr v hvm
    have hlm : (List.map str (o.log.drop (hv o v).toNat)).length = (o.log.drop (hv o v).toNat).length := List.length_map _
    refine s_skip ?_
    refine s_seq ?_
    refine s_region ?_
    refine o_q (q_mv ((by first | exact v_raw rfl | exact v_sptr rfl))) rfl rfl rfl ?_
    refine o_q (q_mv (v_raw rfl)) rfl rfl rfl ?_
    refine o_q (q_nil rfl) rfl rfl rfl ?_
    refine o_q (q_fr fo66_5 rfl) rfl rfl rfl ?_
    refine o_q (q_idxa und64 sz3 rfl rfl (by omega) (by omega)) rfl rfl rfl ?_
    refine o_q (q_ldm ag3 sz3 rfl (by repeat first | exact Mem.upd_self _ _ _ | assumption | refine Mem.upd_ne (by assumption) ?_) (od_get (n := v) (by omega) (by omega)) (v_raw rfl)) rfl rfl rfl ?_
    refine o_q (q_as (v_raw rfl)) rfl rfl rfl ?_
    refine o_nil ?_
    refine s_seq ?_
    refine s_region ?_
    refine o_q (q_mv ((by first | exact v_raw rfl | exact v_sptr rfl))) rfl rfl rfl ?_
    refine o_q (q_nil rfl) rfl rfl rfl ?_
    refine o_q (q_fr fo66_2 rfl) rfl rfl rfl ?_
    refine o_q (q_ldm ag22 sz22 rfl (by repeat first | exact Mem.upd_self _ _ _ | assumption | refine Mem.upd_ne (by assumption) ?_) rfl (v_sl rfl)) rfl rfl rfl ?_
    refine o_q (q_mv (v_raw rfl)) rfl rfl rfl ?_
    refine o_q (q_sl_lo (n := (hv o v).toNat) und22 sz9 rfl elsStr (ab rfl (by omega)) (by omega)) rfl rfl rfl ?_
    refine o_q (q_as (v_sl rfl)) rfl rfl rfl ?_
    refine o_nil ?_
    refine s_seq ?_
    refine s_region ?_
    refine o_q (q_mv (v_raw rfl)) rfl rfl rfl ?_
    refine o_q (q_mv (v_sl rfl)) rfl rfl rfl ?_
    refine o_q (q_mv (v_raw rfl)) rfl rfl rfl ?_
    refine o_q (q_max rfl rfl) rfl rfl rfl ?_
    refine o_q (q_mv (v_sl rfl)) rfl rfl rfl ?_
    refine o_q (q_len rfl und22 rfl) rfl rfl rfl ?_
    refine o_q (q_min rfl rfl) rfl rfl rfl ?_
    refine o_q (q_sl_hi (n := (min (max most 0) ((o.log.drop (hv o v).toNat).length : Int)).toNat) und22 sz9 rfl elsStr (ab rfl (by rw [List.length_map]; omega)) (by omega)) rfl rfl rfl ?_
    refine o_call ((snd32 _ _ _ (by rw [List.length_take, List.length_drop]; omega))) goes32 (ac (v_sl rfl) ac_nil) rfl ?_
    refine o_q (q_as (v_raw rfl)) rfl rfl rfl ?_
    refine o_q (q_as (v_sl rfl)) rfl rfl rfl ?_
    refine o_nil ?_
    refine s_ret ?_
    refine s_end ?_
    exact ret_many (.inl rfl) rfl (rl_t rfl (rl_t rfl rl_nil)) rfl ⟨by unfold wantsO; rw [if_pos hot, ← take_minS]; rfl, rfl⟩
end C18
