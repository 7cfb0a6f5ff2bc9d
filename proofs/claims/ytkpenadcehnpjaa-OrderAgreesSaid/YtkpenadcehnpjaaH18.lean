import Derived.Test.YtkpenadcehnpjaaG18
import Derived.Test.YtkpenadcehnpjaaProg
/-! Chapter 18: orders: what their functions compute. -/
open Go Go.Proofs Go.Am
set_option linter.unusedVariables false
set_option linter.unusedSimpArgs false
set_option autoImplicit false
namespace C18
theorem ag55 : aggT Try.prog 55 = some true := by kernel_rfl
theorem ag56 : aggT Try.prog 56 = some false := by kernel_rfl
theorem ag58 : aggT Try.prog 58 = some true := by kernel_rfl
theorem by3 : bytesT Try.prog 3 = some 8 := by kernel_rfl
theorem by56 : bytesT Try.prog 56 = some 24 := by kernel_rfl
theorem bz58 : (zeroT Try.prog 58).map (fun z => z.cells.toList.map AVal.raw) = some [.raw (.int .i64 0), .raw (.int .i64 0), .raw (.slice none 0 0)] := by kernel_rfl
theorem bp58 : (aPlaces Try.prog 58).isSome = true := by kernel_rfl
theorem fo55_0 : fo Try.prog 55 0 = some (0, 1) := by kernel_rfl
theorem fo55_1 : fo Try.prog 55 1 = some (1, 1) := by kernel_rfl
theorem fo55_2 : fo Try.prog 55 2 = some (2, 1) := by kernel_rfl
theorem fo55_3 : fo Try.prog 55 3 = some (3, 1) := by kernel_rfl
theorem fo55_4 : fo Try.prog 55 4 = some (4, 1) := by kernel_rfl
theorem fo58_0 : fo Try.prog 58 0 = some (0, 1) := by kernel_rfl
theorem fo58_1 : fo Try.prog 58 1 = some (1, 1) := by kernel_rfl
theorem fo58_2 : fo Try.prog 58 2 = some (2, 1) := by kernel_rfl
theorem slt56 : SlT Try.prog 56 58 3 40 := ⟨by kernel_rfl, by kernel_rfl, by kernel_rfl, by kernel_rfl, by decide⟩
theorem sz55 : sizeT Try.prog 55 = some 5 := by kernel_rfl
theorem sz56 : sizeT Try.prog 56 = some 1 := by kernel_rfl
theorem sz58 : sizeT Try.prog 58 = some 3 := by kernel_rfl
theorem und52 : Try.prog.underlying 52 = some (.slice 55) := by kernel_rfl
theorem und53 : Try.prog.underlying 53 = some (.slice 56) := by kernel_rfl
theorem und56 : Try.prog.underlying 56 = some (.slice 58) := by kernel_rfl
theorem zc3 : zeroCellsT Try.prog 3 = some [.raw (.int .i64 0)] := by kernel_rfl
theorem zc55 : zeroCellsT Try.prog 55 = some [.raw (.int .i64 0), .raw (.int .i64 0), .raw (.int .i64 0), .raw (.int .i64 0), .raw (.string { data := #[] })] := by kernel_rfl
theorem zc56 : zeroCellsT Try.prog 56 = some [.sl [] true] := by kernel_rfl
theorem zc58 : zeroCellsT Try.prog 58 = some [.raw (.int .i64 0), .raw (.int .i64 0), .sl [] true] := by kernel_rfl
def tk29 : Nat → Nat → Option Nat := fun _ _ => none
def pl29 : Nat → List PStep
  | 6 => [.q 0, .q 1, .q 2, .q 3, .q 4, .q 5, .q 6, .q 7, .q 8, .q 9, .q 10, .s 11 [9, 8, 7, 4, 3, 2, 1, 0], .q 12, .q 13, .q 14, .q 15, .q 16, .q 17, .q 18, .q 20, .q 21, .q 22, .q 23, .s 19 [23, 22, 21, 20, 17, 16, 15, 13, 12, 10, 9, 8, 7, 6, 5, 4, 3, 2, 1, 0], .q 24, .q 25, .q 26, .q 27, .q 28, .q 29, .q 30, .q 32, .q 33, .s 31 [33, 32, 29, 28, 27, 25, 24, 23, 22, 21, 20, 18, 17, 16, 15, 14, 13, 12, 10, 9, 8, 7, 6, 5, 4, 3, 2, 1, 0], .q 34, .q 35]
  | 13 => [.q 0, .q 1, .q 2, .q 3, .q 5, .q 6, .q 7, .q 8, .s 4 [8, 7, 6, 5, 2, 1, 0], .q 9]
  | _ => []
theorem cb29 : Try.f29.body.map (codeB Try.prog Try.f29.ntmps tk29 pl29) = some true := by kernel_rfl
theorem goes29 : goesB Try.prog 29 = true := by kernel_rfl
-- carillon/carillonlaw18.agree params ['[]*order.Order', '[]int'] results [['t', 4]] own [] names ['0:l', '1:sure', '2:l', '3:sure', '5:first', '6:i', '7:own', '8:many', '9:k'] calls [14, 16, 26, 27] paths 4

abbrev rc {α : Type} (n : Nat) (g : Nat → α) : List α := (List.range n).map g
theorem rc_len {α : Type} (n : Nat) (g : Nat → α) : (rc n g).length = n := by simp [rc]
theorem rc_get {α : Type} {n w : Nat} {g : Nat → α} (h : w < (rc n g).length) : (rc n g)[w] = g w := by simp [rc]
theorem rc_get? {α : Type} {n w : Nat} {g : Nat → α} (h : w < n) : (rc n g)[w]? = some (g w) := by simp [rc, h]
def stf {α : Type} (g : Nat → α) (w : Nat) (v : α) : Nat → α := fun j => if j = w then v else g j
theorem rc_set {α : Type} {n w : Nat} {g : Nat → α} {v : α} : (rc n g).set w v = rc n (stf g w v) := by
  apply List.ext_getElem
  · simp [rc]
  · intro i h1 h2
    rw [List.getElem_set]
    simp only [rc, List.getElem_map, List.getElem_range, stf]
    by_cases e : w = i
    · rw [if_pos e, if_pos e.symm]
    · rw [if_neg e, if_neg (fun h => e h.symm)]
theorem rc_congr {α : Type} {n : Nat} {g g' : Nat → α} (h : ∀ j, j < n → g j = g' j) : rc n g = rc n g' := List.map_congr_left fun j hj => h j (List.mem_range.1 hj)
def cnt (n : Nat) (p : Nat → Bool) : Nat := (List.range n).countP p
theorem cnt_mono {n : Nat} {p q : Nat → Bool} (h : ∀ k, k < n → p k = true → q k = true) : cnt n p ≤ cnt n q := List.countP_mono_left fun k hk => h k (List.mem_range.1 hk)
theorem cnt_succ (k : Nat) (p : Nat → Bool) : cnt (k + 1) p = cnt k p + if p k then 1 else 0 := by simp [cnt, List.range_succ, List.countP_append, List.countP_singleton]
theorem cnt_le (k : Nat) (p : Nat → Bool) : cnt k p ≤ k := by have := List.countP_le_length (p := p) (l := List.range k); rw [List.length_range] at this; exact this
def svI (f : Nat → Od) (sv : Nat → Int) (i : Nat) : Nat → Int := fun j => if j < i then (f j).sure else sv j
theorem sv_set {n i : Nat} {f : Nat → Od} {sv : Nat → Int} : (rc n (svI f sv i)).set i (f i).sure = rc n (svI f sv (i + 1)) := by
  rw [rc_set]
  refine rc_congr fun j hj => ?_
  unfold stf svI
  by_cases e : j = i
  · subst e; rw [if_pos rfl, if_pos (by omega)]
  · rw [if_neg e]
    by_cases e2 : j < i
    · rw [if_pos e2, if_pos (by omega)]
    · rw [if_neg e2, if_neg (by omega)]
theorem sv_end {n : Nat} {f : Nat → Od} {sv : Nat → Int} : rc n (svI f sv n) = rc n fun j => (f j).sure := rc_congr fun j hj => if_pos hj
theorem pre_take' {a b : List ByteArray} (h : a <+: b) : b.take a.length = a := by
  obtain ⟨t, ht⟩ := h
  exact pre_take ht.symm
/-- What `agree` looks for. -/
structure Agree (n : Nat) (f : Nat → Od) (sv : Nat → Int) : Prop where
  ok : ∀ i, i < n → OK (f i)
  pre : ∀ i, i < n → (f i).log <+: (f 0).log
  sv : ∀ i, i < n → sv i ≤ (f i).sure
  maj : ∀ i, i < n → n < 2 * cnt n fun k => decide ((f i).sure ≤ (f k).log.length)
  len : (f 0).log.length + 2 ≤ 2 ^ 43
abbrev svC (n : Nat) (g : Nat → Int) : List AVal := (rc n g).map fun n => (AVal.raw (.int .i64 n))
theorem sv_piece {n off w : Nat} {g : Nat → Int} (h : off = w) (hw : w < n) : piece false (svC n g) off 1 = some (.raw (.int .i64 (g w))) := by
  have hl : w < (rc n g).length := by rw [rc_len]; exact hw
  have := pcI (l := rc n g) h hl
  rw [rc_get] at this
  exact this
theorem sv_splice {n off w : Nat} {f : Nat → Od} {g : Nat → Int} (h : off = w) (hw : w < n) : splice (svC n (svI f g w)) off ((AVal.raw (.int .i64 (f w).sure)).cells.map AVal.shut) = svC n (svI f g (w + 1)) := by
  have hl : w < (rc n (svI f g w)).length := by rw [rc_len]; exact hw
  rw [sp_set h hl, sv_set]
set_option maxHeartbeats 4000000 in
set_option maxRecDepth 20000 in
theorem snd29 (bs : List Nat) (o1 : Bool) (n E : Nat) (f : Nat → Od) (sv : Nat → Int) (M : Mem) (hE : M E = some (.cells (svC n sv))) (hb : ∀ i, ∀ h : i < bs.length, M bs[i] = some (.cells (odC (f i)))) (hbE : ∀ b ∈ bs, b ≠ E) (hbn : bs.length = n) (hn1 : 1 ≤ n) (hn7 : n ≤ 7) (hA : Agree n f sv) : SoundCall Try.prog 29 [.sl (bs.map ptr) o1, rsl E n n] M fun r M' => r = bool true ∧ M' = M.upd E (.cells (svC n fun j => (f j).sure)) := by
  have hB : ∀ i, ∀ h : i < bs.length, ∀ l, (M.upd E l) bs[i] = some (.cells (odC (f i))) := fun i h l => Mem.upd_ne (hbE _ (List.getElem_mem _)) (hb i h)
  have hsame : M.upd E (.cells (svC n (svI f sv 0))) = M := by
    have e : svC n (svI f sv 0) = svC n sv := by
      show (rc n (svI f sv 0)).map _ = _
      rw [rc_congr (g := svI f sv 0) (g' := sv) fun j hj => if_neg (Nat.not_lt_zero j)]
    rw [e]; exact Mem.upd_same hE
  have hml : (List.map ptr bs).length = n := by rw [List.length_map]; exact hbn
  have hlen0 := hA.len
  refine SoundCall.go tk29 pl29 mixed Try.func29 cb29 rfl (Nat.le_of_ble_eq_true rfl) ?_
  refine s_seq ?_
  refine s_region ?_
  refine o_q (q_as (v_raw rfl)) rfl rfl rfl ?_
  refine o_nil ?_
  refine s_seq ?_
  refine s_region ?_
  refine o_q (q_mv (v_sl rfl)) rfl rfl rfl ?_
  refine o_q (q_idx und26 sz27 rfl rfl (by omega) (gm 0 (by first | omega | simp)) rfl) rfl rfl rfl ?_
  refine o_q (q_ld ag27 sz27 rfl (gm 0 (by first | omega | simp)) rfl ((by first | exact v_raw rfl | exact v_sptr rfl))) rfl rfl rfl ?_
  refine o_call ((snd27 bs[0] (f 0) _ (hb 0 (by omega)) (by omega))) goes27 (ac ((by first | exact v_raw rfl | exact v_sptr rfl)) ac_nil) rfl ?_
  refine o_q (q_as (v_sl rfl)) rfl rfl rfl ?_
  refine o_nil ?_
  refine s_seq ?_
  refine s_seq ?_
  refine s_region ?_
  refine o_q (q_as (v_raw rfl)) rfl rfl rfl ?_
  refine o_nil ?_
  refine s_block ?_
  refine s_loop (fun m S => ∃ T, ∃ i : Nat, S = ⟨setT (setT (setT (setT T 0 (.sl (bs.map ptr) o1)) 1 (rsl E n n)) 5 (.sl ((f 0).log.map str) false)) 6 (int (i : Nat)), M.upd E (.cells (svC n (svI f sv i)))⟩ ∧ i ≤ n ∧ m = n - i) n ?_ ?_
  · exact ⟨_, 0, (by rw [hsame]; exact St.mkT (kp (kp (kp (kp rfl rfl) rfl) rfl) rfl).symm), by omega, rfl⟩
  rintro m S ⟨T, i, rfl, hin, rfl⟩
  refine s_seq ?_
  refine s_seq ?_
  refine s_region ?_
  refine o_q (q_mv (v_raw rfl)) rfl rfl rfl ?_
  refine o_q (q_mv (v_sl rfl)) rfl rfl rfl ?_
  refine o_q (q_len rfl und26 rfl) rfl rfl rfl ?_
  refine o_q (q_lss rfl rfl) rfl rfl rfl ?_
  refine o_nil ?_
  refine s_cond rfl (fun h1 => ?_) (fun h1 => ?_)
  · have k1 := h1; try simp only [decide_eq_true_eq, decide_eq_false_iff_not, Bool.not_eq_true', Bool.not_eq_false', Bool.not_true, Bool.not_false, List.length_map, Decidable.not_not] at k1
    have hok := hA.ok i (by omega)
    have hpre := hA.pre i (by omega)
    have hpl := hpre.length_le
    have hsv := hA.sv i (by omega)
    have hsu := hok.sure1
    have hmaj := hA.maj i (by omega)
    have hsi : svI f sv i i = sv i := if_neg (Nat.lt_irrefl i)
    have hsi' : svI f sv (i + 1) i = (f i).sure := if_pos (by omega)
    have m7 : (List.map str (f i).log).length = (f i).log.length := List.length_map _
    have m5 : (List.map str (f 0).log).length = (f 0).log.length := List.length_map _
    have hpos : 0 ≤ i := Nat.zero_le _
    have hsl : (svC n (svI f sv i)).length = n := by simp
    refine s_skip ?_
    refine s_seq ?_
    refine s_block ?_
    refine s_seq ?_
    refine s_region ?_
    refine o_q (q_mv (v_sl rfl)) rfl rfl rfl ?_
    refine o_q (q_mv (v_raw rfl)) rfl rfl rfl ?_
    refine o_q (q_idx und26 sz27 rfl rfl (by omega) (gm i (by first | omega | simp)) rfl) rfl rfl rfl ?_
    refine o_q (q_ld ag27 sz27 rfl (gm i (by first | omega | simp)) rfl ((by first | exact v_raw rfl | exact v_sptr rfl))) rfl rfl rfl ?_
    refine o_call ((snd27 bs[i] (f i) _ (hB i (by omega) _) (by omega))) goes27 (ac ((by first | exact v_raw rfl | exact v_sptr rfl)) ac_nil) rfl ?_
    refine o_q (q_as (v_sl rfl)) rfl rfl rfl ?_
    refine o_nil ?_
    refine s_seq ?_
    refine s_seq ?_
    refine s_draw rfl ?_
    refine d_q rfl (q_mv (v_sl rfl)) rfl rfl rfl ?_
    refine d_q rfl (q_len rfl und22 rfl) rfl rfl rfl ?_
    refine d_q rfl (q_mv (v_sl rfl)) rfl rfl rfl ?_
    refine d_q rfl (q_len rfl und22 rfl) rfl rfl rfl ?_
    refine d_q rfl (q_gtr rfl rfl) rfl rfl rfl ?_
    refine d_q rfl (q_mv (v_raw rfl)) rfl rfl rfl ?_
    refine d_yes rfl (q_mv (v_sl rfl)) rfl rfl rfl (decide_eq_false (by omega)) rfl rfl ?_
    refine d_yes rfl (q_mv (v_sl rfl)) rfl rfl rfl (decide_eq_false (by omega)) rfl rfl ?_
    refine d_yes rfl (q_mv (v_sl rfl)) rfl rfl rfl (decide_eq_false (by omega)) rfl rfl ?_
    refine d_yes rfl (q_len rfl und22 rfl) rfl rfl rfl (decide_eq_false (by omega)) rfl rfl ?_
    refine d_yes rfl (q_sl_hi (n := (f i).log.length) und22 sz9 rfl elsStr (ab rfl (by rw [List.length_map])) (by omega)) rfl rfl rfl (decide_eq_false (by omega)) rfl rfl ?_
    refine d_s rfl ?_
    refine o_yes rfl rfl rfl (decide_eq_false (by omega)) ?_
    refine o_call ((snd26 (f i).log _ ((f 0).log.take (f i).log.length) _ _ (by omega))) goes26 (ac (v_sl rfl) (ac (v_sl rfl) ac_nil)) rfl ?_
    refine o_nil ⟨(by simp [Mem.upd, *]), ?_⟩
    refine d_yes rfl (q_not rfl) rfl rfl rfl (decide_eq_false (by omega)) rfl rfl ?_
    refine d_q rfl (q_pick_c (t := false) rfl (decide_eq_false (by omega)) (v_raw rfl)) rfl rfl rfl ?_
    refine d_q rfl (q_mv (v_raw rfl)) rfl rfl rfl ?_
    refine d_yes rfl (q_mv (v_sl rfl)) rfl rfl rfl (by rw [decide_eq_true (pre_take' hpre).symm]; rfl) rfl rfl ?_
    refine d_yes rfl (q_mv (v_raw rfl)) rfl rfl rfl (by rw [decide_eq_true (pre_take' hpre).symm]; rfl) rfl rfl ?_
    refine d_yes rfl (q_idx und26 sz27 rfl rfl (by omega) (gm i (by first | omega | simp)) rfl) rfl rfl rfl (by rw [decide_eq_true (pre_take' hpre).symm]; rfl) rfl rfl ?_
    refine d_yes rfl (q_ld ag27 sz27 rfl (gm i (by first | omega | simp)) rfl ((by first | exact v_raw rfl | exact v_sptr rfl))) rfl rfl rfl (by rw [decide_eq_true (pre_take' hpre).symm]; rfl) rfl rfl ?_
    refine d_yes rfl (q_mv (v_raw rfl)) rfl rfl rfl (by rw [decide_eq_true (pre_take' hpre).symm]; rfl) rfl rfl ?_
    refine d_yes rfl (q_mv (v_raw rfl)) rfl rfl rfl (by rw [decide_eq_true (pre_take' hpre).symm]; rfl) rfl rfl ?_
    refine d_yes rfl (q_idxr und25 sz3 rfl rfl (by omega) (by omega)) rfl rfl rfl (by rw [decide_eq_true (pre_take' hpre).symm]; rfl) rfl rfl ?_
    refine d_yes rfl (q_ldm ag3 sz3 rfl (by repeat first | exact Mem.upd_self _ _ _ | assumption | refine Mem.upd_ne (by assumption) ?_) (sv_piece (w := i) (by omega) (by omega)) (v_raw rfl)) rfl rfl rfl (by rw [decide_eq_true (pre_take' hpre).symm]; rfl) rfl rfl ?_
    refine d_s rfl ?_
    refine o_yes rfl rfl rfl (by rw [decide_eq_true (pre_take' hpre).symm]; rfl) ?_
    refine o_call ((sureE rfl (hB i (by omega) _))) goes16 (ac ((by first | exact v_raw rfl | exact v_sptr rfl)) ac_nil) rfl ?_
    refine o_nil ⟨(by simp [Mem.upd, *]), ?_⟩
    refine d_yes rfl (q_lss rfl rfl) rfl rfl rfl (by rw [decide_eq_true (pre_take' hpre).symm]; rfl) rfl rfl ?_
    refine d_q rfl (q_pick_c (t := false) rfl (by rw [decide_eq_true (pre_take' hpre).symm]; rfl) (v_raw rfl)) rfl rfl rfl ?_
    refine d_q rfl (q_mv (v_raw rfl)) rfl rfl rfl ?_
    refine d_yes rfl (q_mv (v_sl rfl)) rfl rfl rfl (decide_eq_false (by omega)) rfl rfl ?_
    refine d_yes rfl (q_mv (v_raw rfl)) rfl rfl rfl (decide_eq_false (by omega)) rfl rfl ?_
    refine d_yes rfl (q_idx und26 sz27 rfl rfl (by omega) (gm i (by first | omega | simp)) rfl) rfl rfl rfl (decide_eq_false (by omega)) rfl rfl ?_
    refine d_yes rfl (q_ld ag27 sz27 rfl (gm i (by first | omega | simp)) rfl ((by first | exact v_raw rfl | exact v_sptr rfl))) rfl rfl rfl (decide_eq_false (by omega)) rfl rfl ?_
    refine d_yes rfl (q_mv (v_sl rfl)) rfl rfl rfl (decide_eq_false (by omega)) rfl rfl ?_
    refine d_yes rfl (q_len rfl und22 rfl) rfl rfl rfl (decide_eq_false (by omega)) rfl rfl ?_
    refine d_s rfl ?_
    refine o_yes rfl rfl rfl (decide_eq_false (by omega)) ?_
    refine o_call ((sureE rfl (hB i (by omega) _))) goes16 (ac ((by first | exact v_raw rfl | exact v_sptr rfl)) ac_nil) rfl ?_
    refine o_nil ⟨(by simp [Mem.upd, *]), ?_⟩
    refine d_yes rfl (q_gtr rfl rfl) rfl rfl rfl (decide_eq_false (by omega)) rfl rfl ?_
    refine d_q rfl (q_pick_c (t := false) rfl (decide_eq_false (by omega)) (v_raw rfl)) rfl rfl rfl ?_
    refine d_nil ?_
    refine s_else rfl (decide_eq_false (by omega)) ?_
    refine s_skip ?_
    refine s_seq ?_
    refine s_region ?_
    refine o_q (q_mv (v_raw rfl)) rfl rfl rfl ?_
    refine o_q (q_mv (v_raw rfl)) rfl rfl rfl ?_
    refine o_q (q_mv (v_sl rfl)) rfl rfl rfl ?_
    refine o_q (q_mv (v_raw rfl)) rfl rfl rfl ?_
    refine o_q (q_idx und26 sz27 rfl rfl (by omega) (gm i (by first | omega | simp)) rfl) rfl rfl rfl ?_
    refine o_q (q_ld ag27 sz27 rfl (gm i (by first | omega | simp)) rfl ((by first | exact v_raw rfl | exact v_sptr rfl))) rfl rfl rfl ?_
    refine o_call ((sureE rfl (hB i (by omega) _))) goes16 (ac ((by first | exact v_raw rfl | exact v_sptr rfl)) ac_nil) rfl ?_
    refine o_q (q_idxr und25 sz3 rfl rfl (by omega) (by omega)) rfl rfl rfl ?_
    refine o_store rfl (by repeat first | exact Mem.upd_self _ _ _ | assumption | refine Mem.upd_ne (by assumption) ?_) (by first | exact e_raw rfl | exact e_agg rfl | exact e_sl rfl | rfl) rfl sz3 rfl (by omega) rfl (sv_splice (by omega) (by omega)) ?_
    refine o_nil ?_
    refine s_seq ?_
    refine s_region ?_
    refine o_q (q_as (v_raw rfl)) rfl rfl rfl ?_
    refine o_nil ?_
    refine s_seq ?_
    refine s_seq ?_
    refine s_region ?_
    refine o_q (q_as (v_raw rfl)) rfl rfl rfl ?_
    refine o_nil ?_
    refine s_block ?_
    refine s_loop (fun m S => ∃ T, ∃ k : Nat, S = ⟨setT (setT (setT (setT (setT (setT T 0 (.sl (bs.map ptr) o1)) 1 (rsl E n n)) 5 (.sl ((f 0).log.map str) false)) 6 (int (i : Nat))) 8 (int (cnt k fun k => decide ((f i).sure ≤ (f k).log.length) : Nat))) 9 (int (k : Nat)), M.upd E (.cells (svC n (svI f sv (i + 1))))⟩ ∧ k ≤ n ∧ m = n - k) n ?_ ?_
    · exact ⟨_, 0, (by rw [Mem.upd_upd]; exact St.mkT (kp (kp (kp (kp (kp (kp rfl rfl) rfl) rfl) rfl) rfl) rfl).symm), by omega, rfl⟩
    rintro m S ⟨T, k, rfl, hkn, rfl⟩
    refine s_seq ?_
    refine s_seq ?_
    refine s_region ?_
    refine o_q (q_mv (v_raw rfl)) rfl rfl rfl ?_
    refine o_q (q_mv (v_sl rfl)) rfl rfl rfl ?_
    refine o_q (q_len rfl und26 rfl) rfl rfl rfl ?_
    refine o_q (q_lss rfl rfl) rfl rfl rfl ?_
    refine o_nil ?_
    refine s_cond rfl (fun h2 => ?_) (fun h2 => ?_)
    · have k2 := h2; try simp only [decide_eq_true_eq, decide_eq_false_iff_not, Bool.not_eq_true', Bool.not_eq_false', Bool.not_true, Bool.not_false, List.length_map, Decidable.not_not] at k2
      have hok' := hA.ok k (by omega)
      have hsl' : (svC n (svI f sv (i + 1))).length = n := by simp
      have hcl := cnt_le k fun k => decide ((f i).sure ≤ (f k).log.length)
      refine s_skip ?_
      refine s_seq ?_
      refine s_block ?_
      refine s_seq ?_
      refine s_draw rfl ?_
      refine d_q rfl (q_mv (v_sl rfl)) rfl rfl rfl ?_
      refine d_q rfl (q_mv (v_raw rfl)) rfl rfl rfl ?_
      refine d_q rfl (q_idx und26 sz27 rfl rfl (by omega) (gm k (by first | omega | simp)) rfl) rfl rfl rfl ?_
      refine d_q rfl (q_ld ag27 sz27 rfl (gm k (by first | omega | simp)) rfl ((by first | exact v_raw rfl | exact v_sptr rfl))) rfl rfl rfl ?_
      refine d_q rfl (q_mv (v_raw rfl)) rfl rfl rfl ?_
      refine d_q rfl (q_mv (v_raw rfl)) rfl rfl rfl ?_
      refine d_q rfl (q_idxr und25 sz3 rfl rfl (by omega) (by omega)) rfl rfl rfl ?_
      refine d_q rfl (q_ldm ag3 sz3 rfl (by repeat first | exact Mem.upd_self _ _ _ | assumption | refine Mem.upd_ne (by assumption) ?_) (sv_piece (w := i) (by omega) (by omega)) (v_raw rfl)) rfl rfl rfl ?_
      refine d_s rfl ?_
      refine o_call ((lenE rfl (hB k (by omega) _))) goes14 (ac ((by first | exact v_raw rfl | exact v_sptr rfl)) ac_nil) rfl ?_
      refine o_nil ⟨(by simp [Mem.upd, *]), ?_⟩
      refine d_q rfl (q_geq rfl rfl) rfl rfl rfl ?_
      refine d_nil ?_
      refine s_cond rfl (fun h3 => ?_) (fun h3 => ?_)
      · have k3 := h3; try simp only [decide_eq_true_eq, decide_eq_false_iff_not, Bool.not_eq_true', Bool.not_eq_false', Bool.not_true, Bool.not_false, List.length_map, Decidable.not_not] at k3
        have hcs : cnt (k + 1) (fun k => decide ((f i).sure ≤ (f k).log.length)) = cnt k (fun k => decide ((f i).sure ≤ (f k).log.length)) + 1 := by rw [cnt_succ, if_pos (decide_eq_true (by omega))]
        refine s_region ?_
        refine o_q (q_mv (v_raw rfl)) rfl rfl rfl ?_
        refine o_q (q_add rfl rfl (wrap64 (by omega) (by omega))) rfl rfl rfl ?_
        refine o_q (q_as (v_raw rfl)) rfl rfl rfl ?_
        refine o_nil ?_
        refine s_blk_normal ?_
        refine s_region ?_
        refine o_q (q_mv (v_raw rfl)) rfl rfl rfl ?_
        refine o_q (q_add rfl rfl (wrap64 (by omega) (by omega))) rfl rfl rfl ?_
        refine o_q (q_as (v_raw rfl)) rfl rfl rfl ?_
        refine o_nil ?_
        refine s_inv ?_
        exact ⟨n - (k + 1), by omega, _, k + 1, St.mkT (kp (kp (kp (kp (kp (kp rfl rfl) rfl) rfl) rfl) (congrArg int (by omega))) rfl).symm, by omega, rfl⟩
      · have k3 := h3; try simp only [decide_eq_true_eq, decide_eq_false_iff_not, Bool.not_eq_true', Bool.not_eq_false', Bool.not_true, Bool.not_false, List.length_map, Decidable.not_not] at k3
        have hcs : cnt (k + 1) (fun k => decide ((f i).sure ≤ (f k).log.length)) = cnt k (fun k => decide ((f i).sure ≤ (f k).log.length)) := by rw [cnt_succ, if_neg (by simp; omega)]; rfl
        refine s_skip ?_
        refine s_blk_normal ?_
        refine s_region ?_
        refine o_q (q_mv (v_raw rfl)) rfl rfl rfl ?_
        refine o_q (q_add rfl rfl (wrap64 (by omega) (by omega))) rfl rfl rfl ?_
        refine o_q (q_as (v_raw rfl)) rfl rfl rfl ?_
        refine o_nil ?_
        refine s_inv ?_
        exact ⟨n - (k + 1), by omega, _, k + 1, St.mkT (kp (kp (kp (kp (kp (kp rfl rfl) rfl) rfl) rfl) (congrArg int (by omega))) rfl).symm, by omega, rfl⟩
    · have k2 := h2; try simp only [decide_eq_true_eq, decide_eq_false_iff_not, Bool.not_eq_true', Bool.not_eq_false', Bool.not_true, Bool.not_false, List.length_map, Decidable.not_not] at k2
      obtain rfl : n = k := by omega
      have hcl := cnt_le n fun k => decide ((f i).sure ≤ (f k).log.length)
      refine s_exit ?_
      refine s_code_exit ?_
      refine s_inv_exit ?_
      refine s_blk_here ?_
      refine s_seq ?_
      refine s_region ?_
      refine o_q (q_mv (v_raw rfl)) rfl rfl rfl ?_
      refine o_q (q_mul rfl rfl (wrap64 (by omega) (by omega))) rfl rfl rfl ?_
      refine o_q (q_mv (v_sl rfl)) rfl rfl rfl ?_
      refine o_q (q_len rfl und26 rfl) rfl rfl rfl ?_
      refine o_q (q_leq rfl rfl) rfl rfl rfl ?_
      refine o_nil ?_
      refine s_else rfl (decide_eq_false (by omega)) ?_
      refine s_skip ?_
      refine s_blk_normal ?_
      refine s_region ?_
      refine o_q (q_mv (v_raw rfl)) rfl rfl rfl ?_
      refine o_q (q_add rfl rfl (wrap64 (by omega) (by omega))) rfl rfl rfl ?_
      refine o_q (q_as (v_raw rfl)) rfl rfl rfl ?_
      refine o_nil ?_
      refine s_inv ?_
      exact ⟨n - (i + 1), by omega, _, i + 1, St.mkT (kp (kp (kp (kp rfl rfl) rfl) rfl) rfl).symm, by omega, rfl⟩
  · have k1 := h1; try simp only [decide_eq_true_eq, decide_eq_false_iff_not, Bool.not_eq_true', Bool.not_eq_false', Bool.not_true, Bool.not_false, List.length_map, Decidable.not_not] at k1
    refine s_exit ?_
    refine s_code_exit ?_
    refine s_inv_exit ?_
    refine s_blk_here ?_
    refine s_seq ?_
    refine s_region ?_
    refine o_q (q_as (v_raw rfl)) rfl rfl rfl ?_
    refine o_nil ?_
    refine s_ret ?_
    refine s_end ?_
    exact ⟨rfl, by rw [show i = n by omega]; show M.upd E (.cells ((rc n (svI f sv n)).map _)) = _; rw [sv_end]⟩

def tk5 : Nat → Nat → Option Nat
  | 4, 0 => some 0
  | 8, 0 => some 0
  | 8, 4 => some 0
  | 9, 0 => some 0
  | 16, 0 => some 0
  | 16, 4 => some 0
  | 32, 5 => some 0
  | _, _ => none
def pl5 : Nat → List PStep
  | 26 => [.q 0, .q 1, .q 2, .q 3, .q 4, .q 5, .q 6, .q 7, .s 8 [6, 5, 4, 3, 2, 1, 0], .s 9 [7, 6, 5, 4, 1, 0]]
  | 28 => [.q 0, .q 1, .q 2, .q 3, .q 4, .s 5 [3, 1, 0]]
  | 30 => [.q 0, .q 1, .q 2, .q 3, .q 4, .q 5, .s 6 [4, 3, 2, 1, 0], .q 7, .s 8 [5, 4, 1, 0], .q 9, .q 10, .q 11, .q 12, .q 13]
  | 32 => [.q 0, .q 1, .q 2, .q 3, .q 4, .q 6, .q 7, .q 8, .q 9, .q 11, .c 10, .q 12, .q 13, .s 5 [13, 12, 10, 11, 9, 8, 7, 6, 3, 2, 1, 0], .q 14, .q 15, .s 16 []]
  | 35 => [.q 0, .q 1, .q 2, .q 3, .q 4, .q 5, .q 6, .q 7, .q 8, .q 9, .q 10, .c 11, .q 12, .q 13, .s 14 [13, 12, 11, 10, 9, 8, 7, 6, 5, 4, 3, 2, 1, 0], .s 15 []]
  | 39 => [.q 0, .q 1, .q 2, .q 3, .q 4, .q 5, .q 6, .q 7, .q 8, .q 9, .q 10, .q 11, .q 12, .s 13 [11, 10, 9, 8, 6, 5, 4, 2, 1, 0]]
  | 40 => [.q 0, .q 1, .q 2, .q 3, .q 4, .q 5, .s 6 [4, 2, 1, 0]]
  | _ => []
theorem cb5 : Try.f5.body.map (codeB Try.prog Try.f5.ntmps tk5 pl5) = some true := by kernel_rfl
theorem goes5 : goesB Try.prog 5 = true := by kernel_rfl
-- carillon/carillonlaw18.OrderAgrees params ['int', '[]string', '[]carillonlaw18.Turn'] results [['t', 6]] own [39, 61, 131, 9, 11, 42, 64] names ['0:many', '1:log', '2:turns', '3:many', '4:log', '5:turns', '7:head', '8:n', '9:nodes', '10:i', '11:l', '12:i', '13:o', '14:e', '15:told', '16:sure', '17:i', '18:t', '19:w', '20:at', '21:texts', '22:x', '23:k', '24:ok'] calls [7, 8, 9, 10, 11, 12, 13, 14, 15, 16, 29] paths 13

structure Tu where
  kind : Int
  who : Int
  n : Int
  i : Int
  s : ByteArray
  deriving Inhabited
def encTu (t : Tu) : AVal := .agg [int t.kind, int t.who, int t.n, int t.i, str t.s]
theorem elsTu {l : List Tu} : Els 5 (l.map encTu) := Els.map fun _ => ⟨rfl, rfl⟩
def okTu (t : Tu) : Prop := (-2 ^ 63 ≤ t.kind ∧ t.kind < 2 ^ 63) ∧ (-2 ^ 63 ≤ t.who ∧ t.who < 2 ^ 63) ∧ (-2 ^ 63 ≤ t.n ∧ t.n < 2 ^ 63) ∧ (-2 ^ 63 ≤ t.i ∧ t.i < 2 ^ 63) ∧ t.s.size < 2 ^ 61
/-- What was told to a node. -/
structure Tl where
  at_ : Int
  sure : Int
  texts : List ByteArray
  deriving Inhabited
def encTl (t : Tl) : AVal := .agg [int t.at_, int t.sure, .sl (t.texts.map str) false]
theorem elsTl {l : List Tl} : Els 3 (l.map encTl) := Els.map fun _ => ⟨rfl, rfl⟩
structure Good (o : Od) (t : Tl) : Prop where
  sure : t.sure ≤ o.sure
  at0 : 0 ≤ t.at_
  len : t.texts.length ≤ o.log.length
  has : ∀ k, k < t.texts.length → o.log[t.at_.toNat + k]? = t.texts[k]?
theorem Good.mono {o o' : Od} {t : Tl} (h : Good o t) (hs : o.sure ≤ o'.sure) (hp : o.log <+: o'.log) : Good o' t := by
  refine ⟨Int.le_trans h.sure hs, h.at0, Nat.le_trans h.len hp.length_le, fun k hk => ?_⟩
  have h1 := h.has k hk
  rw [List.getElem?_eq_getElem hk] at h1 ⊢
  obtain ⟨r, hr⟩ := hp
  have hlt : t.at_.toNat + k < o.log.length := (List.getElem?_eq_some_iff.1 h1).1
  rw [← hr, List.getElem?_append_left hlt]
  exact h1
structure J (n : Nat) (f : Nat → Od) (tl : Nat → List Tl) : Prop where
  ok : ∀ i, i < n → OK (f i)
  nodes : ∀ i, i < n → (f i).nodes = rng n
  self : ∀ i : Nat, i < n → (f i).self = i
  pre : ∀ i, i < n → (f i).log <+: (f 0).log
  hvl : ∀ i : Nat, i < n → hv (f 0) i ≤ (f i).log.length
  sure : ∀ i, i < n → (f i).sure ≤ (f 0).sure
  maj : n < 2 * cnt n fun k => decide ((f 0).sure ≤ (f k).log.length)
  told : ∀ w, w < n → ∀ t ∈ tl w, Good (f 0) t
theorem J.agree {n : Nat} {f : Nat → Od} {tl : Nat → List Tl} (h : J n f tl) {sv : Nat → Int} (hs : ∀ i, i < n → sv i ≤ (f i).sure) (hl : (f 0).log.length + 2 ≤ 2 ^ 43) : Agree n f sv :=
  ⟨h.ok, h.pre, hs, fun i hi => Nat.lt_of_lt_of_le h.maj (Nat.mul_le_mul_left 2 (cnt_mono fun k hk e => by
    have := h.sure i hi
    simp only [decide_eq_true_eq] at e ⊢
    omega)), hl⟩
/-- The sequencer's order becomes another one. -/
theorem J.lead {n : Nat} {f : Nat → Od} {tl : Nat → List Tl} (hn : 0 < n) (h : J n f tl) {o : Od} (hG : Gr (f 0) o) (hv' : ∀ i : Nat, i < n → hv o i ≤ (st f 0 o i).log.length) (hm : n < 2 * cnt n fun k => decide (o.sure ≤ (st f 0 o k).log.length)) : J n (st f 0 o) tl := by
  obtain ⟨t, ht, -⟩ := hG.log
  have hp : (f 0).log <+: o.log := ⟨t, ht.symm⟩
  refine ⟨fun i hi => ?_, fun i hi => ?_, fun i hi => ?_, fun i hi => ?_, fun i hi => ?_, fun i hi => ?_, ?_, fun w hw t ht => ?_⟩
  · by_cases e : i = 0
    · subst e; rw [st_same]; exact hG.ok
    · rw [st_ne e]; exact h.ok i hi
  · by_cases e : i = 0
    · subst e; rw [st_same, hG.nodes]; exact h.nodes 0 hn
    · rw [st_ne e]; exact h.nodes i hi
  · by_cases e : i = 0
    · subst e; rw [st_same, hG.self]; exact h.self 0 hn
    · rw [st_ne e]; exact h.self i hi
  · rw [st_same]
    by_cases e : i = 0
    · subst e; rw [st_same]; exact List.prefix_refl _
    · rw [st_ne e]; exact (h.pre i hi).trans hp
  · rw [st_same]; exact hv' i hi
  · rw [st_same]
    by_cases e : i = 0
    · subst e; rw [st_same]; exact Int.le_refl _
    · rw [st_ne e]; exact Int.le_trans (h.sure i hi) hG.sure
  · rw [st_same]; exact hm
  · rw [st_same]; exact (h.told w hw t ht).mono hG.sure hp
theorem st_log_le {f : Nat → Od} {j : Nat} {o : Od} (hp : (f j).log.length ≤ o.log.length) (k : Nat) : (f k).log.length ≤ (st f j o k).log.length := by
  by_cases e : k = j
  · subst e; rw [st_same]; exact hp
  · rw [st_ne e]; exact Nat.le_refl _
theorem cnt_rng {n : Nat} (p : Int → Bool) : (rng n).countP p = cnt n fun k => p k := by
  unfold rng cnt
  rw [List.countP_map]; rfl
/-- The same, when it was settled. -/
theorem J.settle {n : Nat} {f : Nat → Od} {tl : Nat → List Tl} (hn : 0 < n) (h : J n f tl) {o : Od} (hG : Gr (f 0) o) (hs : o.sure = (f 0).sure) (hv' : ∀ i : Nat, i < n → hv o i ≤ (st f 0 o i).log.length) : J n (st f 0 (settleO o)) tl := by
  have hst : ∀ k, (st f 0 (settleO o) k).log.length = (st f 0 o k).log.length := fun k => by
    by_cases e : k = 0
    · subst e; rw [st_same, st_same]; rfl
    · rw [st_ne e, st_ne e]
  obtain ⟨t, ht, -⟩ := hG.log
  have hle : (f 0).log.length ≤ o.log.length := by rw [ht, List.length_append]; omega
  refine J.lead hn h hG.settle (fun i hi => by rw [hst]; exact hv' i hi) ?_
  rcases Int.lt_or_le o.sure (medO o) with hm | hm
  · have h1 := (med_ge hG.ok.h0 (medO o)).1 (Int.le_refl _)
    rw [hG.nodes, h.nodes 0 hn, rng_len, cnt_rng] at h1
    refine Nat.lt_of_lt_of_le h1 (Nat.mul_le_mul_left 2 (cnt_mono fun k hk e => ?_))
    rw [hst]
    have := hv' k hk
    simp only [decide_eq_true_eq] at e ⊢
    show max o.sure (medO o) ≤ _
    omega
  · refine Nat.lt_of_lt_of_le h.maj (Nat.mul_le_mul_left 2 (cnt_mono fun k hk e => ?_))
    rw [hst]
    have := st_log_le (f := f) (j := 0) (o := o) hle k
    simp only [decide_eq_true_eq] at e ⊢
    show max o.sure (medO o) ≤ _
    omega
theorem J.same {n : Nat} {f : Nat → Od} {tl : Nat → List Tl} (h : J n f tl) (j : Nat) : J n (st f j (f j)) tl := by
  have : st f j (f j) = f := by
    funext k
    by_cases e : k = j
    · subst e; exact st_same _ _ _
    · exact st_ne e
  rw [this]; exact h
theorem J.prop {n : Nat} {f : Nat → Od} {tl : Nat → List Tl} (hn : 0 < n) (hn7 : n ≤ 7) (h : J n f tl) (s : ByteArray) : J n (st f 0 (propO (f 0) s).1) tl := by
  unfold propO
  split
  · split
    · rename_i hf hp
      have hok := h.ok 0 hn
      have hG : Gr (f 0) (putO (f 0) s).1 := put_gr hok
      have e : (putO (f 0) s).1 = ⟨(f 0).self, (f 0).nodes, (f 0).log ++ [s], addB (f 0) s, (f 0).sure, (f 0).has.set (f 0).self.toNat ((f 0).log.length + 1 : Nat)⟩ := by
        unfold putO at hp ⊢
        split
        · rename_i hc; rw [if_pos hc] at hp; cases hp
        · rfl
      refine h.settle hn hG (by rw [e]) fun i hi => ?_
      have hvi := hv_set (o := f 0) (v := (f 0).self) (w := i) (n := ((f 0).log.length + 1 : Nat)) hok.hse ⟨by omega, by omega⟩ hok.has
      rw [h.self 0 hn] at hvi
      have hvi' : hv (putO (f 0) s).1 i = if (i : Int) = ((0 : Nat) : Int) then (((f 0).log.length + 1 : Nat) : Int) else hv (f 0) i := by
        rw [e]; show ((f 0).has.set (f 0).self.toNat _).getD _ 0 = _; rw [h.self 0 hn]; exact hvi
      rw [hvi']
      by_cases e0 : i = 0
      · subst e0; rw [if_pos rfl, st_same, e]; simp
      · rw [if_neg (by omega), st_ne e0]; exact h.hvl i hi
    · exact h.same 0
  · exact h.same 0
theorem J.has {n w : Nat} {f : Nat → Od} {tl : Nat → List Tl} (hn7 : n ≤ 7) (hw : w < n) (h : J n f tl) : J n (st f 0 (hasO (f 0) w (f w).log.length).1) tl := by
  have hn : 0 < n := by omega
  unfold hasO
  split
  · rename_i hc
    obtain ⟨ho, h0, hl⟩ := hc
    have hok := h.ok 0 hn
    have hvm := (other_mem ho).2.2
    have hv' : ∀ i : Nat, i < n → hv (setH (f 0) w (f w).log.length) i = if (i : Int) = w then max (hv (f 0) w) (f w).log.length else hv (f 0) i := fun i hi => hv_set (o := f 0) (v := w) (w := i) (n := max (hv (f 0) w) (f w).log.length) ⟨by omega, by omega⟩ ⟨by omega, by omega⟩ hok.has
    have hb : ∀ i : Nat, i < n → hv (setH (f 0) w (f w).log.length) i ≤ (st f 0 (setH (f 0) w (f w).log.length) i).log.length := fun i hi => by
      have e1 : (st f 0 (setH (f 0) w (f w).log.length) i).log = (f i).log := by
        by_cases e : i = 0
        · subst e; rw [st_same]; rfl
        · rw [st_ne e]
      rw [hv' i hi, e1]
      by_cases e : i = w
      · subst e; rw [if_pos rfl]; have := h.hvl i hi; omega
      · rw [if_neg (by omega)]; exact h.hvl i hi
    refine h.settle hn ⟨⟨hok.rise, hok.mem, by simp [setH, hok.has], fun v hw' => ?_, hok.sure0, hok.sure1⟩, rfl, rfl, ⟨[], by simp [setH], by simp⟩, Int.le_refl _⟩ rfl hb
    show 0 ≤ ((f 0).has.set (w : Int).toNat (max (hv (f 0) w) (f w).log.length)).getD v.toNat 0 ∧ ((f 0).has.set (w : Int).toNat (max (hv (f 0) w) (f w).log.length)).getD v.toNat 0 ≤ (f 0).log.length
    have hvn := hok.hnr v hw'
    rw [hv_set ⟨by omega, by omega⟩ hvn hok.has]
    have := hok.hvb v hw'; have := hok.hvb w hvm
    split <;> omega
  · exact h.same 0
/-- Another node's order grows. -/
theorem J.foll {n w : Nat} {f : Nat → Od} {tl : Nat → List Tl} (hw0 : w ≠ 0) (hw : w < n) (h : J n f tl) {o : Od} (hG : Gr (f w) o) (hp : o.log <+: (f 0).log) (hs : o.sure ≤ (f 0).sure) : J n (st f w o) tl := by
  obtain ⟨t, ht, -⟩ := hG.log
  have hle : (f w).log.length ≤ o.log.length := by rw [ht, List.length_append]; omega
  have h0 : st f w o 0 = f 0 := st_ne (fun e => hw0 e.symm)
  refine ⟨fun i hi => ?_, fun i hi => ?_, fun i hi => ?_, fun i hi => ?_, fun i hi => ?_, fun i hi => ?_, ?_, fun w' hw' t ht => ?_⟩
  · by_cases e : i = w
    · subst e; rw [st_same]; exact hG.ok
    · rw [st_ne e]; exact h.ok i hi
  · by_cases e : i = w
    · subst e; rw [st_same, hG.nodes]; exact h.nodes i hi
    · rw [st_ne e]; exact h.nodes i hi
  · by_cases e : i = w
    · subst e; rw [st_same, hG.self]; exact h.self i hi
    · rw [st_ne e]; exact h.self i hi
  · rw [h0]
    by_cases e : i = w
    · subst e; rw [st_same]; exact hp
    · rw [st_ne e]; exact h.pre i hi
  · rw [h0]
    have := h.hvl i hi
    have := st_log_le (f := f) (j := w) (o := o) hle i
    omega
  · rw [h0]
    by_cases e : i = w
    · subst e; rw [st_same]; exact hs
    · rw [st_ne e]; exact h.sure i hi
  · rw [h0]
    refine Nat.lt_of_lt_of_le h.maj (Nat.mul_le_mul_left 2 (cnt_mono fun k hk e => ?_))
    have := st_log_le (f := f) (j := w) (o := o) hle k
    simp only [decide_eq_true_eq] at e ⊢
    omega
  · rw [h0]; exact h.told w' hw' t ht
theorem first_J {n w : Nat} {f : Nat → Od} {tl : Nat → List Tl} (hw : w < n) (h : J n f tl) : firstO (f w) = decide (w = 0) := by
  rw [first_rng (by omega) (h.nodes w hw), h.self w hw]
  by_cases e : w = 0
  · rw [decide_eq_true e, decide_eq_true (by omega)]
  · rw [decide_eq_false e, decide_eq_false (by omega)]
theorem J.add {n w k : Nat} {f : Nat → Od} {tl : Nat → List Tl} (hw : w < n) (h : J n f tl) {t : Tl} (ht : Good (f 0) t) (hk : k < t.texts.length) : J n (st f w (addO (f w) (t.at_ + k) t.texts[k]).1) tl := by
  unfold addO
  split
  · rename_i hc
    obtain ⟨hf, hi⟩ := hc
    rw [first_J hw h] at hf
    have hw0 : w ≠ 0 := by simpa using hf
    have hG : Gr (f w) (putO (f w) t.texts[k]).1 := put_gr (h.ok w hw)
    refine h.foll hw0 hw hG ?_ ?_
    · unfold putO
      split
      · exact h.pre w hw
      · have h1 := ht.has k hk
        have h2 := ht.at0
        obtain ⟨r, hr⟩ := h.pre w hw
        rw [show t.at_.toNat + k = (f w).log.length by omega, List.getElem?_eq_getElem hk, ← hr, List.getElem?_append_right (Nat.le_refl _), Nat.sub_self] at h1
        obtain ⟨r', e⟩ : ∃ r', r = t.texts[k] :: r' := by
          cases r with
          | nil => simp at h1
          | cons a r => simp at h1; exact ⟨r, by rw [h1]⟩
        exact ⟨r', by rw [← hr, e]; simp⟩
    · have : (putO (f w) t.texts[k]).1.sure = (f w).sure := by unfold putO; split <;> rfl
      rw [this]; exact h.sure w hw
  · exact h.same w
theorem J.learn {n w : Nat} {f : Nat → Od} {tl : Nat → List Tl} (hw : w < n) (h : J n f tl) {t : Tl} (ht : Good (f 0) t) : J n (st f w (learnO (f w) t.sure).1) tl := by
  have hG : Gr (f w) (learnO (f w) t.sure).1 := learn_gr (h.ok w hw)
  unfold learnO at hG ⊢
  split
  · rename_i hc
    rw [if_pos hc] at hG
    have hf := hc.1
    rw [first_J hw h] at hf
    have hw0 : w ≠ 0 := by simpa using hf
    refine h.foll hw0 hw hG (h.pre w hw) ?_
    have := ht.sure
    show min t.sure (f w).log.length ≤ _
    omega
  · exact h.same w
theorem J.tell {n w : Nat} {f : Nat → Od} {tl : Nat → List Tl} (hw : w < n) (h : J n f tl) {t : Tl} (ht : Good (f 0) t) : J n f (stf tl w (tl w ++ [t])) := by
  refine ⟨h.ok, h.nodes, h.self, h.pre, h.hvl, h.sure, h.maj, fun w' hw' t' ht' => ?_⟩
  unfold stf at ht'
  split at ht'
  · rename_i e; subst e
    rcases List.mem_append.1 ht' with ht' | ht'
    · exact h.told w' hw' t' ht'
    · rw [List.mem_singleton.1 ht']; exact ht
  · exact h.told w' hw' t' ht'
theorem J.wants {n w : Nat} {f : Nat → Od} {tl : Nat → List Tl} (hw0 : 0 < w) (hw : w < n) (h : J n f tl) (most : Int) : Good (f 0) ⟨(wantsO (f 0) w most).1, (f 0).sure, (wantsO (f 0) w most).2⟩ := by
  have hn : 0 < n := by omega
  have ho : otherO (f 0) w = true := by
    unfold otherO
    rw [first_J hn h, h.self 0 hn, h.nodes 0 hn, decide_eq_true (rng_mem.2 ⟨by omega, by omega⟩), decide_eq_true (show (w : Int) ≠ ((0 : Nat) : Int) by omega)]; rfl
  have hb := (h.ok 0 hn).hvb w (other_mem ho).2.2
  have e : wantsO (f 0) w most = (hv (f 0) w, ((f 0).log.drop (hv (f 0) w).toNat).take (max most 0).toNat) := by unfold wantsO; rw [if_pos ho]
  rw [e]
  refine ⟨Int.le_refl _, hb.1, ?_, fun k hk => ?_⟩
  · show (((f 0).log.drop (hv (f 0) w).toNat).take (max most 0).toNat).length ≤ _
    rw [List.length_take, List.length_drop]; omega
  · rw [List.length_take, List.length_drop] at hk
    show (f 0).log[(hv (f 0) w).toNat + k]? = (((f 0).log.drop (hv (f 0) w).toNat).take (max most 0).toNat)[k]?
    rw [List.getElem?_take, if_pos (by omega), List.getElem?_drop]
theorem J.new {n : Nat} (hn : 0 < n) (hn7 : n ≤ 7) {log : List ByteArray} {f : Nat → Od} (hf : ∀ j, j < n → f j = newO (j : Nat) (rng n) log) : J n f fun _ => [] := by
  have hok : ∀ i, i < n → OK (f i) := fun i hi => by rw [hf i hi]; exact new_ok (rng_new hn7 hi)
  have hlog : ∀ i, i < n → (f i).log = log := fun i hi => by rw [hf i hi]; rfl
  have hsu : ∀ i, i < n → (f i).sure = log.length := fun i hi => by rw [hf i hi]; rfl
  refine ⟨hok, fun i hi => by rw [hf i hi]; rfl, fun i hi => by rw [hf i hi]; rfl, fun i hi => by rw [hlog i hi, hlog 0 hn]; exact List.prefix_refl _, fun i hi => ?_, fun i hi => by rw [hsu i hi, hsu 0 hn]; exact Int.le_refl _, ?_, fun w hw t ht => absurd ht List.not_mem_nil⟩
  · rw [hlog i hi, hf 0 hn, new_hv (rng_new hn7 hn) (rng_mem.2 ⟨by omega, by omega⟩)]; exact Int.le_refl _
  · have : (cnt n fun k => decide ((f 0).sure ≤ (f k).log.length)) = n := by
      have := List.countP_eq_length (p := fun k => decide ((f 0).sure ≤ (f k).log.length)) (l := List.range n)
      rw [List.length_range] at this
      exact this.2 fun k hk => by rw [hsu 0 hn, hlog k (List.mem_range.1 hk)]; simp
    omega
theorem J.len {n w : Nat} {f : Nat → Od} {tl : Nat → List Tl} (h : J n f tl) (hw : w < n) : (f w).log.length ≤ (f 0).log.length := (h.pre w hw).length_le
abbrev tlC (n : Nat) (tl : Nat → List Tl) : List AVal := rc n fun j => .sl ((tl j).map encTl) true
theorem tl_take {n off w : Nat} {tl : Nat → List Tl} (h : off = w) (hw : w < n) : (tlC n tl)[off]? = some (.sl ((tl w).map encTl) true) := by rw [h]; exact rc_get? hw
theorem tl_piece {n off w : Nat} {tl : Nat → List Tl} (h : off = w) (hw : w < n) : piece false (tlC n tl) off 1 = some (.sl ((tl w).map encTl) true) := by
  show (tlC n tl)[off]? = _
  rw [h]; exact rc_get? hw
theorem tl_set {n a b w : Nat} {tl : Nat → List Tl} {X : AVal} {t : Tl} (ha : a = w) (hb : b = w) : ((tlC n tl).set a X).set b (.sl ((tl w).map encTl ++ [encTl t]) true) = tlC n (stf tl w (tl w ++ [t])) := by
  subst ha; subst hb
  rw [List.set_set, rc_set]
  refine rc_congr fun j hj => ?_
  unfold stf
  by_cases e : j = b
  · rw [if_pos e, if_pos e, List.map_append]; rfl
  · rw [if_neg e, if_neg e]
theorem Hp.out {M M' : Mem} {bs : List Nat} {f : Nat → Od} (h : Hp M M' bs f) {c : Nat} (hc : ∀ i, ∀ hi : i < bs.length, bs[i] ≠ c) (hM : M c = none) (o : AObj) : Hp M (M'.upd c o) bs f :=
  ⟨Mem.le_upd h.le hM, h.nd, h.fr, fun i hi => Mem.upd_ne (hc i hi) (h.hb i hi)⟩
theorem Hp.ne {M M' : Mem} {bs : List Nat} {f : Nat → Od} (h : Hp M M' bs f) {c : Nat} (hc : M' c = none) : ∀ i, ∀ hi : i < bs.length, bs[i] ≠ c := fun i hi => Mem.fresh_ne hc (h.hb i hi)
theorem Hp.nm {M M' : Mem} {bs : List Nat} {f : Nat → Od} (h : Hp M M' bs f) {c : Nat} (hc : M' c = none) : M c = none := Mem.none_of_le h.le hc
theorem st_sure {f : Nat → Od} {w j : Nat} {o : Od} (h : (f w).sure ≤ o.sure) : (f j).sure ≤ (st f w o j).sure := by
  by_cases e : j = w
  · subst e; rw [st_same]; exact h
  · rw [st_ne e]; exact Int.le_refl _
theorem add_same0 {n w : Nat} {g : Nat → Od} {tl : Nat → List Tl} (hw : w < n) (h : J n g tl) (i : Int) (s : ByteArray) : st g w (addO (g w) i s).1 0 = g 0 := by
  by_cases e : w = 0
  · subst e
    rw [st_same]
    unfold addO
    rw [if_neg (fun hc => by rw [first_J hw h] at hc; simp at hc)]
  · exact st_ne (fun e' => e e'.symm)
theorem learn_same0 {n w : Nat} {g : Nat → Od} {tl : Nat → List Tl} (hw : w < n) (h : J n g tl) (i : Int) : st g w (learnO (g w) i).1 0 = g 0 := by
  by_cases e : w = 0
  · subst e
    rw [st_same]
    unfold learnO
    rw [if_neg (fun hc => by rw [first_J hw h] at hc; simp at hc)]
  · exact st_ne (fun e' => e e'.symm)
theorem prop_log_mem {o : Od} {s x : ByteArray} (h : x ∈ (propO o s).1.log) : x ∈ o.log ∨ x = s := by
  unfold propO at h
  split at h
  · split at h
    · rw [settle_log] at h
      unfold putO at h
      split at h
      · exact .inl h
      · rcases List.mem_append.1 h with h | h
        · exact .inl h
        · exact .inr (List.mem_singleton.1 h)
    · exact .inl h
  · exact .inl h
theorem has_log (o : Od) (v n : Int) : (hasO o v n).1.log = o.log := by
  unfold hasO
  split <;> rfl
theorem gr_len {o o' : Od} (h : Gr o o') : o'.log.length ≤ o.log.length + 1 := by
  obtain ⟨t, ht, h1⟩ := h.log
  rw [ht, List.length_append]; omega
theorem stf_len {tl : Nat → List Tl} {w i : Nat} {t : Tl} (h : ∀ j, (tl j).length ≤ i) (j : Nat) : (stf tl w (tl w ++ [t]) j).length ≤ i + 1 := by
  unfold stf
  have := h j; have := h w
  split
  · rw [List.length_append, List.length_singleton]; omega
  · omega
theorem rep_tl (n : Nat) : (List.replicate n [AVal.sl [] true]).flatten = tlC n fun _ => [] := by
  unfold tlC rc
  induction n with
  | zero => rfl
  | succ n ih => rw [List.replicate_succ', List.flatten_append, ih, List.range_succ, List.map_append]; rfl
theorem rep_sv (n : Nat) : (List.replicate n [AVal.raw (.int .i64 0)]).flatten = svC n fun _ => 0 := by
  unfold svC rc
  induction n with
  | zero => rfl
  | succ n ih => rw [List.replicate_succ', List.flatten_append, ih, List.range_succ, List.map_append, List.map_append]; rfl
theorem good_txt {o : Od} {t : Tl} (h : Good o t) {k : Nat} (hk : k < t.texts.length) : t.at_ + (k : Int) < o.log.length ∧ t.texts[k] ∈ o.log := by
  have h1 := h.has k hk
  rw [List.getElem?_eq_getElem hk] at h1
  obtain ⟨h2, h3⟩ := List.getElem?_eq_some_iff.1 h1
  have := h.at0
  exact ⟨by omega, h3 ▸ List.getElem_mem _⟩
set_option maxHeartbeats 4000000 in
set_option maxRecDepth 20000 in
theorem snd5 (many : Int) (log : List ByteArray) (o2 : Bool) (l : List Tu) (o3 : Bool) (M : Mem) (hmany : -2 ^ 63 ≤ many ∧ many < 2 ^ 63) (hlog : log.length < 2 ^ 60) (hsz : ∀ s ∈ log, s.size < 2 ^ 61) (hl : l.length < 2 ^ 60) (hq : ∀ t ∈ l, okTu t) : SoundCall Try.prog 5 [int many, .sl (log.map str) o2, .sl (l.map encTu) o3] M fun r M' => r = bool true ∧ M.le M' := by
  obtain ⟨n, hp, hn1, hn7⟩ : ∃ n : Nat, pick many (7 : Nat) = ((n - 1 : Nat) : Int) ∧ 1 ≤ n ∧ n ≤ 7 := by
    obtain ⟨p, hp, hp7⟩ := pickN many 7 (by decide)
    exact ⟨p + 1, hp, by omega, by omega⟩
  obtain ⟨lg, hlg⟩ : ∃ lg, lg = log.take (min (log.length : Int) 10).toNat := ⟨_, rfl⟩
  have hll : lg.length ≤ 10 := by rw [hlg, List.length_take]; omega
  have hls : ∀ s ∈ lg, s.size < 2 ^ 61 := fun s hs => hsz s (List.mem_of_mem_take (hlg ▸ hs))
  refine SoundCall.go tk5 pl5 mixed Try.func5 cb5 rfl (Nat.le_of_ble_eq_true rfl) ?_
  refine s_seq ?_
  refine s_region ?_
  refine o_q (q_as (v_raw rfl)) rfl rfl rfl ?_
  refine o_nil ?_
  refine s_seq ?_
  refine s_region ?_
  refine o_callx (snd7 _) goes7 ac_nil rfl ?_
  rintro r M0 ⟨rfl, hle⟩
  refine o_q (q_as (v_raw rfl)) rfl rfl rfl ?_
  refine o_nil ?_
  refine s_seq ?_
  refine s_region ?_
  refine o_q (q_mv (v_raw rfl)) rfl rfl rfl ?_
  refine o_call ((pickE _ hp (by decide) (by decide) hmany)) goes8 (ac (v_raw rfl) (ac (v_raw rfl) ac_nil)) rfl ?_
  refine o_q (q_add rfl rfl (wrap64 (by omega) (by omega))) rfl rfl rfl ?_
  refine o_q (q_as (v_raw rfl)) rfl rfl rfl ?_
  refine o_nil ?_
  refine s_seq ?_
  refine s_region ?_
  refine o_q (q_mv (v_sl rfl)) rfl rfl rfl ?_
  refine o_q (q_mv (v_sl rfl)) rfl rfl rfl ?_
  refine o_q (q_len rfl und22 rfl) rfl rfl rfl ?_
  refine o_q (q_min rfl rfl) rfl rfl rfl ?_
  refine o_q (q_sl_hi (n := (min (log.length : Int) 10).toNat) und22 sz9 rfl elsStr (ab rfl (by rw [List.length_map]; omega)) (by omega)) rfl rfl rfl ?_
  refine o_q (q_as (v_sl rfl)) rfl rfl rfl ?_
  refine o_nil ?_
  refine s_seq ?_
  refine s_region ?_
  refine o_q (q_as_const rfl) rfl rfl rfl ?_
  refine o_nil ?_
  refine s_seq ?_
  refine s_seq ?_
  refine s_region ?_
  refine o_q (q_as (v_raw rfl)) rfl rfl rfl ?_
  refine o_nil ?_
  refine s_block ?_
  refine s_loop (fun m S => ∃ T, ∃ k : Nat, S = ⟨setT (setT (setT (setT (setT (setT T 1 (.sl (lg.map str) false)) 2 (.sl (l.map encTu) o3)) 7 (bool true)) 8 (int (n : Nat))) 9 (.sl ((rng k).map int) true)) 10 (int (k : Nat)), M0⟩ ∧ k ≤ n ∧ m = n - k) n ?_ ?_
  · exact ⟨_, 0, St.mkT (kp (kp (kp (kp (kp (kp rfl (congrArg (fun l => AVal.sl (List.map str l) false) hlg.symm)) rfl) rfl) (congrArg int (show (1 : Int) + ((n - 1 : Nat) : Int) = n by omega))) rfl) rfl).symm, by omega, rfl⟩
  rintro m S ⟨T, k, rfl, hkn, rfl⟩
  refine s_seq ?_
  refine s_seq ?_
  refine s_region ?_
  refine o_q (q_mv (v_raw rfl)) rfl rfl rfl ?_
  refine o_q (q_mv (v_raw rfl)) rfl rfl rfl ?_
  refine o_q (q_lss rfl rfl) rfl rfl rfl ?_
  refine o_nil ?_
  refine s_cond rfl (fun h1 => ?_) (fun h1 => ?_)
  · have k1 := h1; try simp only [decide_eq_true_eq, decide_eq_false_iff_not, Bool.not_eq_true', Bool.not_eq_false', Bool.not_true, Bool.not_false, List.length_map, Decidable.not_not] at k1
    have hrk := rng_len k
    refine s_skip ?_
    refine s_seq ?_
    refine s_block ?_
    refine s_region ?_
    refine o_qs (q_mv_own rfl) rfl rfl rfl rfl ?_
    refine o_q (q_mv (v_raw rfl)) rfl rfl rfl ?_
    refine o_q (q_bs slt25 (pc (v_raw rfl) pn) rfl (Els.cons rfl rfl Els.nil) (by decide)) rfl rfl rfl ?_
    refine o_qs (q_app slt25 rfl rfl rfl rfl (by first | exact Els.nil | exact elsInt) (by first | exact (by first | exact Els.nil | exact elsInt) | exact Els.cons rfl rfl Els.nil) (by simp; omega)) rfl rfl rfl rfl ?_
    refine o_qs (q_as_own rfl) rfl rfl rfl rfl ?_
    refine o_nil ?_
    refine s_blk_normal ?_
    refine s_region ?_
    refine o_q (q_mv (v_raw rfl)) rfl rfl rfl ?_
    refine o_q (q_add rfl rfl (wrap64 (by omega) (by omega))) rfl rfl rfl ?_
    refine o_q (q_as (v_raw rfl)) rfl rfl rfl ?_
    refine o_nil ?_
    refine s_inv ?_
    exact ⟨n - (k + 1), by omega, _, k + 1, St.mkT (kp (kp (kp (kp (kp (kp rfl rfl) rfl) rfl) rfl) (app_eq rfl (rng_succ k))) rfl).symm, by omega, rfl⟩
  · have k1 := h1; try simp only [decide_eq_true_eq, decide_eq_false_iff_not, Bool.not_eq_true', Bool.not_eq_false', Bool.not_true, Bool.not_false, List.length_map, Decidable.not_not] at k1
    refine s_exit ?_
    refine s_code_exit ?_
    refine s_inv_exit ?_
    refine s_blk_here ?_
    refine s_seq ?_
    refine s_region ?_
    refine o_q (q_as_const rfl) rfl rfl rfl ?_
    refine o_nil ?_
    refine s_seq ?_
    refine s_seq ?_
    refine s_region ?_
    refine o_q (q_as (v_raw rfl)) rfl rfl rfl ?_
    refine o_nil ?_
    refine s_block ?_
    refine s_loop (fun m S => ∃ T, ∃ M' : Mem, ∃ bs : List Nat, ∃ f : Nat → Od, S = ⟨setT (setT (setT (setT (setT (setT (setT T 1 (.sl (lg.map str) false)) 2 (.sl (l.map encTu) o3)) 7 (bool true)) 8 (int (n : Nat))) 9 (.sl ((rng n).map int) true)) 11 (.sl (bs.map ptr) true)) 12 (int (bs.length : Nat)), M'⟩ ∧ Hp M M' bs f ∧ (∀ j, j < bs.length → f j = newO (j : Nat) (rng n) lg) ∧ bs.length ≤ n ∧ m = n - bs.length) n ?_ ?_
    · obtain rfl : k = n := by omega
      exact ⟨_, _, [], fun _ => newO 0 [] [], St.mkT (kp (kp (kp (kp (kp (kp (kp rfl rfl) rfl) rfl) rfl) rfl) rfl) rfl).symm, Hp.nil hle _, fun j hj => absurd hj (Nat.not_lt_zero j), Nat.zero_le _, rfl⟩
    rintro m S ⟨T, M', bs, f, rfl, hH, hf, hbl, rfl⟩
    refine s_seq ?_
    refine s_seq ?_
    refine s_region ?_
    refine o_q (q_mv (v_raw rfl)) rfl rfl rfl ?_
    refine o_q (q_mv (v_raw rfl)) rfl rfl rfl ?_
    refine o_q (q_lss rfl rfl) rfl rfl rfl ?_
    refine o_nil ?_
    refine s_cond rfl (fun h2 => ?_) (fun h2 => ?_)
    · have k2 := h2; try simp only [decide_eq_true_eq, decide_eq_false_iff_not, Bool.not_eq_true', Bool.not_eq_false', Bool.not_true, Bool.not_false, List.length_map, Decidable.not_not] at k2
      refine s_skip ?_
      refine s_seq ?_
      refine s_block ?_
      refine s_seq ?_
      refine s_region ?_
      refine o_q (q_mv (v_raw rfl)) rfl rfl rfl ?_
      refine o_q (q_mv (v_sl rfl)) rfl rfl rfl ?_
      refine o_q (q_mv (v_sl rfl)) rfl rfl rfl ?_
      refine o_callx ((newT (self := (bs.length : Nat)) (nodes := rng n) (log := lg) _ _ _ (rng_new hn7 (by omega)) (by rw [rng_len]; omega) (by omega) hls)) goes9 (ac (v_raw rfl) (ac (v_sl rfl) (ac (v_sl rfl) ac_nil))) rfl ?_
      rintro r M2 ⟨b, hb, rfl, rfl⟩
      refine o_q (q_mv (v_tup rfl)) rfl rfl rfl ?_
      refine o_q (q_ext rfl rfl ((by first | exact v_raw rfl | exact v_sptr rfl))) rfl rfl rfl ?_
      refine o_q (q_ext rfl rfl (v_raw rfl)) rfl rfl rfl ?_
      refine o_q (q_as ((by first | exact v_raw rfl | exact v_sptr rfl))) rfl rfl rfl ?_
      refine o_q (q_as (v_raw rfl)) rfl rfl rfl ?_
      refine o_nil ?_
      refine s_seq ?_
      refine s_seq ?_
      refine s_region ?_
      refine o_q (q_mv (v_raw rfl)) rfl rfl rfl ?_
      refine o_q (q_neq rfl rfl) rfl rfl rfl ?_
      refine o_q (q_mv (v_raw rfl)) rfl rfl rfl ?_
      refine o_yes rfl rfl rfl rfl ?_
      refine o_q (q_mv ((by first | exact v_raw rfl | exact v_sptr rfl))) rfl rfl rfl ?_
      refine o_yes rfl rfl rfl rfl ?_
      refine o_q (q_peql und27 rfl rfl) rfl rfl rfl ?_
      refine o_q (q_pick_c (t := false) rfl rfl (v_raw rfl)) rfl rfl rfl ?_
      refine o_nil ?_
      refine s_else rfl rfl ?_
      refine s_skip ?_
      refine s_region ?_
      refine o_qs (q_mv_own rfl) rfl rfl rfl rfl ?_
      refine o_q (q_mv ((by first | exact v_raw rfl | exact v_sptr rfl))) rfl rfl rfl ?_
      refine o_q (q_bs slt26 (pc ((by first | exact v_raw rfl | exact v_sptr rfl)) pn) rfl (Els.cons rfl rfl Els.nil) (by decide)) rfl rfl rfl ?_
      refine o_qs (q_app slt26 rfl rfl rfl rfl (by first | exact Els.nil | exact elsPtr) (by first | exact (by first | exact Els.nil | exact elsPtr) | exact Els.cons rfl rfl Els.nil) (by simp; omega)) rfl rfl rfl rfl ?_
      refine o_qs (q_as_own rfl) rfl rfl rfl rfl ?_
      refine o_nil ?_
      refine s_blk_normal ?_
      refine s_region ?_
      refine o_q (q_mv (v_raw rfl)) rfl rfl rfl ?_
      refine o_q (q_add rfl rfl (wrap64 (by omega) (by omega))) rfl rfl rfl ?_
      refine o_q (q_as (v_raw rfl)) rfl rfl rfl ?_
      refine o_nil ?_
      refine s_inv ?_
      exact ⟨n - (bs.length + 1), by omega, _, _, bs ++ [b], st f bs.length (newO (bs.length : Nat) (rng n) lg), St.mkT (kp (kp (kp (kp (kp (kp (kp rfl rfl) rfl) rfl) rfl) rfl) (app_eq rfl rfl)) (congrArg int (by rw [List.length_append, List.length_singleton]; omega))).symm, hH.new hb _, fun j hj => (by rw [List.length_append, List.length_singleton] at hj; by_cases e : j = bs.length; (subst e; exact st_same _ _ _); (rw [st_ne e]; exact hf j (by omega))), by rw [List.length_append, List.length_singleton]; omega, by rw [List.length_append, List.length_singleton]⟩
    · have k2 := h2; try simp only [decide_eq_true_eq, decide_eq_false_iff_not, Bool.not_eq_true', Bool.not_eq_false', Bool.not_true, Bool.not_false, List.length_map, Decidable.not_not] at k2
      have hbn : bs.length = n := by omega
      have hJ0 := J.new hn1 hn7 (fun j hj => hf j (by omega))
      refine s_exit ?_
      refine s_code_exit ?_
      refine s_inv_exit ?_
      refine s_blk_here ?_
      refine s_seq ?_
      refine s_region ?_
      refine o_q (q_mv (v_raw rfl)) rfl rfl rfl ?_
      refine o_makeSlice und53 sz56 by56 zc56 rfl (by decide) rfl rfl (by omega) (by omega) (by omega) (by omega) (fun B1 hB1 => ?_)
      have nD := hH.ne hB1
      have mD := hH.nm hB1
      refine o_q (q_as (v_raw rfl)) rfl rfl rfl ?_
      refine o_nil ?_
      refine s_seq ?_
      refine s_region ?_
      refine o_q (q_mv (v_raw rfl)) rfl rfl rfl ?_
      refine o_makeSlice und25 sz3 by3 zc3 rfl (by decide) rfl rfl (by omega) (by omega) (by omega) (by omega) (fun B2 hB2 => ?_)
      have hH2 := hH.out nD mD (.cells (List.replicate (n : Int).toNat [AVal.sl [] true]).flatten)
      have nE := hH2.ne hB2
      have hM2 := hH2.nm hB2
      have f12 : B1 ≠ B2 := Mem.fresh_ne hB2 (Mem.upd_self _ _ _)
      have f21 := f12.symm
      have hf0 := hf 0 (by omega)
      refine o_q (q_as (v_raw rfl)) rfl rfl rfl ?_
      refine o_nil ?_
      refine s_seq ?_
      refine s_seq ?_
      refine s_region ?_
      refine o_q (q_as (v_raw rfl)) rfl rfl rfl ?_
      refine o_nil ?_
      refine s_block ?_
      refine s_loop (fun m S => ∃ T, ∃ Mw : Mem, ∃ f : Nat → Od, ∃ tl : Nat → List Tl, ∃ sv : Nat → Int, ∃ i : Nat, S = ⟨setT (setT (setT (setT (setT (setT (setT T 2 (.sl (l.map encTu) o3)) 7 (bool true)) 8 (int (n : Nat))) 11 (.sl (bs.map ptr) true)) 15 (rsl B1 n n)) 16 (rsl B2 n n)) 17 (int (i : Nat)), Mw⟩ ∧ Hp M Mw bs f ∧ Mw B1 = some (.cells (tlC n tl)) ∧ Mw B2 = some (.cells (svC n sv)) ∧ J n f tl ∧ (∀ j, j < n → sv j ≤ (f j).sure) ∧ (f 0).log.length ≤ 10 + i ∧ (∀ s ∈ (f 0).log, s.size < 2 ^ 61) ∧ (∀ j, (tl j).length ≤ i) ∧ i ≤ 200 ∧ i ≤ l.length ∧ m = l.length - i) l.length ?_ ?_
      · exact ⟨_, _, f, fun _ => [], fun _ => 0, 0, (by rw [show (n : Int).toNat = n from rfl, rep_tl, rep_sv]; exact St.mkT (kp (kp (kp (kp (kp (kp (kp rfl rfl) rfl) rfl) rfl) rfl) rfl) rfl).symm), hH2.out nE hM2 _, (by rw [show (n : Int).toNat = n from rfl, rep_tl]; exact (by repeat first | exact Mem.upd_self _ _ _ | assumption | refine Mem.upd_ne (by assumption) ?_)), (by repeat first | exact Mem.upd_self _ _ _ | assumption | refine Mem.upd_ne (by assumption) ?_), hJ0, fun j hj => (hJ0.ok j hj).sure0, by rw [hf0]; exact hll, by rw [hf0]; exact hls, fun _ => Nat.le_refl _, by omega, by omega, rfl⟩
      rintro m S ⟨T, Mw, f, tl, sv, i, rfl, hH, hD, hE, hJ, hsv, hfl, hss, hTl, hi200, hi, rfl⟩
      refine s_seq ?_
      refine s_seq ?_
      refine s_region ?_
      refine o_q (q_mv (v_raw rfl)) rfl rfl rfl ?_
      refine o_q (q_mv (v_sl rfl)) rfl rfl rfl ?_
      refine o_q (q_len rfl und52 rfl) rfl rfl rfl ?_
      refine o_q (q_lss rfl rfl) rfl rfl rfl ?_
      refine o_q (q_mv (v_raw rfl)) rfl rfl rfl ?_
      refine o_cases (want := true) (j := 4) rfl rfl (fun h3 => ?_) (fun h3 => ?_)
      · have k3 := h3; try simp only [decide_eq_true_eq, decide_eq_false_iff_not, Bool.not_eq_true', Bool.not_eq_false', Bool.not_true, Bool.not_false, List.length_map, Decidable.not_not] at k3
        refine o_yes rfl rfl rfl h3 ?_
        refine o_q (q_mv (v_raw rfl)) rfl rfl rfl ?_
        refine o_yes rfl rfl rfl h3 ?_
        refine o_q (q_lss rfl rfl) rfl rfl rfl ?_
        refine o_q (q_pick_c (t := true) rfl h3 (v_raw rfl)) rfl rfl rfl ?_
        refine o_nil ?_
        refine s_cond rfl (fun h4 => ?_) (fun h4 => ?_)
        · have k4 := h4; try simp only [decide_eq_true_eq, decide_eq_false_iff_not, Bool.not_eq_true', Bool.not_eq_false', Bool.not_true, Bool.not_false, List.length_map, Decidable.not_not] at k4
          have hti := hq l[i] (List.getElem_mem _)
          obtain ⟨w, hw, hw2⟩ := pickN l[i].who n (by omega)
          obtain ⟨e, he, he2⟩ := pickN l[i].kind 4 (by decide)
          obtain ⟨e5, he5, he52⟩ := pickN l[i].n 5 (by decide)
          have hok0 := hJ.ok 0 (by omega)
          have hokw := hJ.ok w hw2
          have hlw := hJ.len hw2
          have hm2 : M B2 = none := hM2
          have q0 := (nD 0 (by omega)).symm
          have qw := (nD w (by omega)).symm
          have p0 := (nE 0 (by omega)).symm
          have pw := (nE w (by omega)).symm
          have q0' := nD 0 (by omega)
          have qw' := nD w (by omega)
          have p0' := nE 0 (by omega)
          have pw' := nE w (by omega)
          have htl := hTl w
          refine s_skip ?_
          refine s_seq ?_
          refine s_block ?_
          refine s_seq ?_
          refine s_region ?_
          refine o_q (q_mv (v_sl rfl)) rfl rfl rfl ?_
          refine o_q (q_mv (v_raw rfl)) rfl rfl rfl ?_
          refine o_q (q_idx und52 sz55 rfl rfl (by omega) (gm i (by first | omega | simp)) rfl) rfl rfl rfl ?_
          refine o_q (q_lde ag55 sz55 rfl (gm i (by first | omega | simp)) rfl rfl) rfl rfl rfl ?_
          refine o_alloc zc55 (fun B3 hB3 => ?_)
          have n3 := hH.ne hB3
          have m3 := hH.nm hB3
          have f13 : B1 ≠ B3 := Mem.fresh_ne hB3 hD
          have f31 := f13.symm
          have f23 : B2 ≠ B3 := Mem.fresh_ne hB3 hE
          have f32 := f23.symm
          have n30 := n3 0 (by omega)
          have n3w := n3 w (by omega)
          have n30' := n30.symm
          have n3w' := n3w.symm
          refine o_storew rfl (by repeat first | exact Mem.upd_self _ _ _ | assumption | refine Mem.upd_ne (by assumption) ?_) (by first | exact e_agg rfl | rfl) rfl sz55 rfl rfl rfl rfl ?_
          refine o_nil ?_
          refine s_seq ?_
          refine s_region ?_
          refine o_q (q_fr fo55_1 rfl) rfl rfl rfl ?_
          refine o_q (q_ldm ag3 sz3 rfl (by repeat first | exact Mem.upd_self _ _ _ | assumption | refine Mem.upd_ne (by assumption) ?_) rfl (v_raw rfl)) rfl rfl rfl ?_
          refine o_q (q_mv (v_raw rfl)) rfl rfl rfl ?_
          refine o_call ((pickE _ hw (by omega) (by omega) hti.2.1)) goes8 (ac (v_raw rfl) (ac (v_raw rfl) ac_nil)) rfl ?_
          refine o_q (q_as (v_raw rfl)) rfl rfl rfl ?_
          refine o_nil ?_
          refine s_seq ?_
          refine s_seq ?_
          refine s_region ?_
          refine o_q (q_fr fo55_0 rfl) rfl rfl rfl ?_
          refine o_q (q_ldm ag3 sz3 rfl (by repeat first | exact Mem.upd_self _ _ _ | assumption | refine Mem.upd_ne (by assumption) ?_) rfl (v_raw rfl)) rfl rfl rfl ?_
          refine o_call ((pickE _ he (by decide) (by decide) hti.1)) goes8 (ac (v_raw rfl) (ac (v_raw rfl) ac_nil)) rfl ?_
          refine o_nil ?_
          refine s_cut (fun S => ∃ T, ∃ Mw : Mem, ∃ f' : Nat → Od, ∃ tl' : Nat → List Tl, S = ⟨setT (setT (setT (setT (setT (setT (setT T 2 (.sl (l.map encTu) o3)) 7 (bool true)) 8 (int (n : Nat))) 11 (.sl (bs.map ptr) true)) 15 (rsl B1 n n)) 16 (rsl B2 n n)) 17 (int (i : Nat)), Mw⟩ ∧ Hp M Mw bs f' ∧ Mw B1 = some (.cells (tlC n tl')) ∧ Mw B2 = some (.cells (svC n sv)) ∧ J n f' tl' ∧ (∀ j, j < n → (f j).sure ≤ (f' j).sure) ∧ (f' 0).log.length ≤ (f 0).log.length + 1 ∧ (∀ s ∈ (f' 0).log, s.size < 2 ^ 61) ∧ (∀ j, (tl' j).length ≤ i + 1)) ?_ ?_
          · skip
            refine s_block ?_
            refine s_seq ?_
            refine s_region ?_
            refine o_q (q_eql rfl rfl) rfl rfl rfl ?_
            refine o_q (q_as (v_raw rfl)) rfl rfl rfl ?_
            refine o_nil ?_
            refine s_cond rfl (fun h5 => ?_) (fun h5 => ?_)
            · have k5 := h5; try simp only [decide_eq_true_eq, decide_eq_false_iff_not, Bool.not_eq_true', Bool.not_eq_false', Bool.not_true, Bool.not_false, List.length_map, Decidable.not_not] at k5
              refine s_draw rfl ?_
              refine d_q rfl (q_mv (v_sl rfl)) rfl rfl rfl ?_
              refine d_q rfl (q_idx und26 sz27 rfl rfl (by omega) (gm 0 (by first | omega | simp)) rfl) rfl rfl rfl ?_
              refine d_q rfl (q_ld ag27 sz27 rfl (gm 0 (by first | omega | simp)) rfl ((by first | exact v_raw rfl | exact v_sptr rfl))) rfl rfl rfl ?_
              refine d_q rfl (q_fr fo55_4 rfl) rfl rfl rfl ?_
              refine d_q rfl (q_ldm ag9 sz9 rfl (by repeat first | exact Mem.upd_self _ _ _ | assumption | refine Mem.upd_ne (by assumption) ?_) rfl (v_raw rfl)) rfl rfl rfl ?_
              refine d_s rfl ?_
              refine o_callx ((prop10 (((hH.out n3 m3 _).out n3 m3 _).hb 0 (by omega)) hok0 hti.2.2.2.2 (by omega))) goes10 (ac ((by first | exact v_raw rfl | exact v_sptr rfl)) (ac (v_raw rfl) ac_nil)) rfl ?_
              rintro r M2 ⟨rfl, rfl⟩
              refine o_nil ⟨(by simp [Mem.upd, *]), ?_⟩
              refine d_nil ?_
              refine s_blk_normal ?_
              refine s_inv ?_
              exact ⟨_, _, st f 0 (propO (f 0) l[i].s).1, tl, St.mkT (kp (kp (kp (kp (kp (kp (kp rfl rfl) rfl) rfl) rfl) rfl) rfl) rfl).symm, (((hH.out n3 m3 _).out n3 m3 _).upd (by omega) _), (by repeat first | exact Mem.upd_self _ _ _ | assumption | refine Mem.upd_ne (by assumption) ?_), (by repeat first | exact Mem.upd_self _ _ _ | assumption | refine Mem.upd_ne (by assumption) ?_), (hJ.prop hn1 hn7 _), fun j hj => st_sure (prop_gr hok0).sure, by rw [st_same]; exact gr_len (prop_gr hok0), fun s hs => by rw [st_same] at hs; exact (prop_log_mem hs).elim (hss s) (fun e => by rw [e]; exact hti.2.2.2.2), fun j => Nat.le_succ_of_le (hTl j)⟩
            · have k5 := h5; try simp only [decide_eq_true_eq, decide_eq_false_iff_not, Bool.not_eq_true', Bool.not_eq_false', Bool.not_true, Bool.not_false, List.length_map, Decidable.not_not] at k5
              refine s_seq ?_
              refine s_region ?_
              refine o_q (q_eql rfl rfl) rfl rfl rfl ?_
              refine o_q (q_as (v_raw rfl)) rfl rfl rfl ?_
              refine o_nil ?_
              refine s_cond rfl (fun h6 => ?_) (fun h6 => ?_)
              · have k6 := h6; try simp only [decide_eq_true_eq, decide_eq_false_iff_not, Bool.not_eq_true', Bool.not_eq_false', Bool.not_true, Bool.not_false, List.length_map, Decidable.not_not] at k6
                refine s_seq ?_
                refine s_draw rfl ?_
                refine d_q rfl (q_mv (v_sl rfl)) rfl rfl rfl ?_
                refine d_q rfl (q_idx und26 sz27 rfl rfl (by omega) (gm 0 (by first | omega | simp)) rfl) rfl rfl rfl ?_
                refine d_q rfl (q_ld ag27 sz27 rfl (gm 0 (by first | omega | simp)) rfl ((by first | exact v_raw rfl | exact v_sptr rfl))) rfl rfl rfl ?_
                refine d_q rfl (q_mv (v_raw rfl)) rfl rfl rfl ?_
                refine d_q rfl (q_fr fo55_2 rfl) rfl rfl rfl ?_
                refine d_q rfl (q_ldm ag3 sz3 rfl (by repeat first | exact Mem.upd_self _ _ _ | assumption | refine Mem.upd_ne (by assumption) ?_) rfl (v_raw rfl)) rfl rfl rfl ?_
                refine d_s rfl ?_
                refine o_call ((pickE _ he5 (by decide) (by decide) hti.2.2.1)) goes8 (ac (v_raw rfl) (ac (v_raw rfl) ac_nil)) rfl ?_
                refine o_nil ⟨(by simp [Mem.upd, *]), ?_⟩
                refine d_q rfl (q_add rfl rfl (wrap64 (by omega) (by omega))) rfl rfl rfl ?_
                refine d_s rfl ?_
                refine o_call ((wants11 (((hH.out n3 m3 _).out n3 m3 _).hb 0 (by omega)) hok0 (by omega))) goes11 (ac ((by first | exact v_raw rfl | exact v_sptr rfl)) (ac (v_raw rfl) (ac (v_raw rfl) ac_nil))) rfl ?_
                refine o_nil ⟨(by simp [Mem.upd, *]), ?_⟩
                refine d_q rfl (q_mv (v_tup rfl)) rfl rfl rfl ?_
                refine d_q rfl (q_ext rfl rfl (v_raw rfl)) rfl rfl rfl ?_
                refine d_q rfl (q_ext rfl rfl (v_sl rfl)) rfl rfl rfl ?_
                refine d_q rfl (q_as (v_raw rfl)) rfl rfl rfl ?_
                refine d_q rfl (q_as (v_sl rfl)) rfl rfl rfl ?_
                refine d_nil ?_
                refine s_seq ?_
                refine s_region ?_
                refine o_q (q_mv (v_raw rfl)) rfl rfl rfl ?_
                refine o_q (q_gtr rfl rfl) rfl rfl rfl ?_
                refine o_nil ?_
                refine s_cond rfl (fun h7 => ?_) (fun h7 => ?_)
                · have k7 := h7; try simp only [decide_eq_true_eq, decide_eq_false_iff_not, Bool.not_eq_true', Bool.not_eq_false', Bool.not_true, Bool.not_false, List.length_map, Decidable.not_not] at k7
                  refine s_draw rfl ?_
                  refine d_q rfl (q_mv (v_raw rfl)) rfl rfl rfl ?_
                  refine d_q rfl (q_mv (v_raw rfl)) rfl rfl rfl ?_
                  refine d_q rfl (q_mv (v_raw rfl)) rfl rfl rfl ?_
                  refine d_q rfl (q_mv (v_raw rfl)) rfl rfl rfl ?_
                  refine d_q rfl (q_idxr und53 sz56 rfl rfl (by omega) (by omega)) rfl rfl rfl ?_
                  refine d_q rfl (q_mv (v_raw rfl)) rfl rfl rfl ?_
                  refine d_q rfl (q_mv (v_sl rfl)) rfl rfl rfl ?_
                  refine d_q rfl (q_idx und26 sz27 rfl rfl (by omega) (gm 0 (by first | omega | simp)) rfl) rfl rfl rfl ?_
                  refine d_q rfl (q_ld ag27 sz27 rfl (gm 0 (by first | omega | simp)) rfl ((by first | exact v_raw rfl | exact v_sptr rfl))) rfl rfl rfl ?_
                  refine d_q rfl (q_mv (v_sl rfl)) rfl rfl rfl ?_
                  refine d_cm (bs[0]) rfl (fun M' hM' => (sureE (o := f 0) rfl (hM'.symm.trans (((hH.out n3 m3 _).out n3 m3 _).hb 0 (by omega))))) goes16 (ac ((by first | exact v_raw rfl | exact v_sptr rfl)) ac_nil) rfl ?_
                  refine d_q rfl (q_b (cs := [_, _, _]) bz58 bp58 (bf fo58_0 (e_raw rfl) rfl rfl (Nat.le_of_ble_eq_true rfl) rfl (bf fo58_1 (e_raw rfl) rfl rfl (Nat.le_of_ble_eq_true rfl) rfl (bf fo58_2 (e_sl rfl) rfl rfl (Nat.le_of_ble_eq_true rfl) rfl bf_nil)))) rfl rfl rfl ?_
                  refine d_q rfl (q_bs slt56 (pc (v_agg rfl) pn) rfl (Els.cons rfl rfl Els.nil) (by decide)) rfl rfl rfl ?_
                  refine d_s rfl ?_
                  refine o_take rfl rfl (by repeat first | exact Mem.upd_self _ _ _ | assumption | refine Mem.upd_ne (by assumption) ?_) (tl_take (w := w) (by omega) (by omega)) ag56 sz56 ?_
                  refine o_nil ⟨(by simp [Mem.upd, *]), ?_⟩
                  refine d_qs rfl (q_app slt56 rfl rfl rfl rfl (by first | exact Els.nil | exact elsTl) (by first | exact (by first | exact Els.nil | exact elsTl) | exact Els.cons rfl rfl Els.nil) (by simp; omega)) rfl rfl rfl rfl ?_
                  refine d_q rfl (q_idxr und53 sz56 rfl rfl (by omega) (by omega)) rfl rfl rfl ?_
                  refine d_s rfl ?_
                  refine o_store_own rfl (by repeat first | exact Mem.upd_self _ _ _ | assumption | refine Mem.upd_ne (by assumption) ?_) rfl sz56 (by rw [List.length_set, rc_len]; omega) ?_
                  refine o_nil ⟨(by simp [Mem.upd, *]), ?_⟩
                  refine d_nil ?_
                  refine s_blk_normal ?_
                  refine s_inv ?_
                  exact ⟨_, _, f, stf tl w (tl w ++ [⟨(wantsO (f 0) w (1 + (e5 : Int))).1, (f 0).sure, (wantsO (f 0) w (1 + (e5 : Int))).2⟩]), St.mkT (kp (kp (kp (kp (kp (kp (kp rfl rfl) rfl) rfl) rfl) rfl) rfl) rfl).symm, ((((hH.out n3 m3 _).out n3 m3 _).out nD mD _).out nD mD _), ((Mem.upd_self _ _ _).trans (congrArg (fun l => some (AObj.cells l)) (tl_set (w := w) (tl := tl) (t := ⟨(wantsO (f 0) w (1 + (e5 : Int))).1, (f 0).sure, (wantsO (f 0) w (1 + (e5 : Int))).2⟩) (by omega) (by omega)))), (by repeat first | exact Mem.upd_self _ _ _ | assumption | refine Mem.upd_ne (by assumption) ?_), (hJ.tell hw2 (hJ.wants (by omega) hw2 _)), fun j hj => Int.le_refl _, by omega, hss, fun j => stf_len hTl j⟩
                · have k7 := h7; try simp only [decide_eq_true_eq, decide_eq_false_iff_not, Bool.not_eq_true', Bool.not_eq_false', Bool.not_true, Bool.not_false, List.length_map, Decidable.not_not] at k7
                  refine s_skip ?_
                  refine s_blk_normal ?_
                  refine s_inv ?_
                  exact ⟨_, _, f, tl, St.mkT (kp (kp (kp (kp (kp (kp (kp rfl rfl) rfl) rfl) rfl) rfl) rfl) rfl).symm, ((hH.out n3 m3 _).out n3 m3 _), (by repeat first | exact Mem.upd_self _ _ _ | assumption | refine Mem.upd_ne (by assumption) ?_), (by repeat first | exact Mem.upd_self _ _ _ | assumption | refine Mem.upd_ne (by assumption) ?_), hJ, fun j hj => Int.le_refl _, by omega, hss, fun j => Nat.le_succ_of_le (hTl j)⟩
              · have k6 := h6; try simp only [decide_eq_true_eq, decide_eq_false_iff_not, Bool.not_eq_true', Bool.not_eq_false', Bool.not_true, Bool.not_false, List.length_map, Decidable.not_not] at k6
                refine s_seq ?_
                refine s_region ?_
                refine o_q (q_eql rfl rfl) rfl rfl rfl ?_
                refine o_q (q_as (v_raw rfl)) rfl rfl rfl ?_
                refine o_nil ?_
                refine s_cond rfl (fun h8 => ?_) (fun h8 => ?_)
                · have k8 := h8; try simp only [decide_eq_true_eq, decide_eq_false_iff_not, Bool.not_eq_true', Bool.not_eq_false', Bool.not_true, Bool.not_false, List.length_map, Decidable.not_not] at k8
                  refine s_seq ?_
                  refine s_region ?_
                  refine o_q (q_mv (v_raw rfl)) rfl rfl rfl ?_
                  refine o_q (q_mv (v_raw rfl)) rfl rfl rfl ?_
                  refine o_q (q_idxr und53 sz56 rfl rfl (by omega) (by omega)) rfl rfl rfl ?_
                  refine o_q (q_ldm ag56 sz56 rfl (by repeat first | exact Mem.upd_self _ _ _ | assumption | refine Mem.upd_ne (by assumption) ?_) (tl_piece (w := w) (by omega) (by omega)) (v_sl rfl)) rfl rfl rfl ?_
                  refine o_q (q_len rfl und56 rfl) rfl rfl rfl ?_
                  refine o_q (q_gtr rfl rfl) rfl rfl rfl ?_
                  refine o_nil ?_
                  refine s_cond rfl (fun h9 => ?_) (fun h9 => ?_)
                  · have k9 := h9; try simp only [decide_eq_true_eq, decide_eq_false_iff_not, Bool.not_eq_true', Bool.not_eq_false', Bool.not_true, Bool.not_false, List.length_map, Decidable.not_not] at k9
                    have hml2 : (List.map encTl (tl w)).length = (tl w).length := List.length_map _
                    obtain ⟨p, hp', hp2⟩ := pickN l[i].i (List.map encTl (tl w)).length (by omega)
                    obtain ⟨x, hx⟩ : ∃ x, (tl w)[p]'(by omega) = x := ⟨_, rfl⟩
                    have hgd : Good (f 0) x := hx ▸ hJ.told w hw2 _ (List.getElem_mem _)
                    have hgl := hgd.len
                    refine s_seq ?_
                    refine s_draw rfl ?_
                    refine d_q rfl (q_mv (v_raw rfl)) rfl rfl rfl ?_
                    refine d_q rfl (q_mv (v_raw rfl)) rfl rfl rfl ?_
                    refine d_q rfl (q_idxr und53 sz56 rfl rfl (by omega) (by omega)) rfl rfl rfl ?_
                    refine d_q rfl (q_ldm ag56 sz56 rfl (by repeat first | exact Mem.upd_self _ _ _ | assumption | refine Mem.upd_ne (by assumption) ?_) (tl_piece (w := w) (by omega) (by omega)) (v_sl rfl)) rfl rfl rfl ?_
                    refine d_q rfl (q_fr fo55_3 rfl) rfl rfl rfl ?_
                    refine d_q rfl (q_ldm ag3 sz3 rfl (by repeat first | exact Mem.upd_self _ _ _ | assumption | refine Mem.upd_ne (by assumption) ?_) rfl (v_raw rfl)) rfl rfl rfl ?_
                    refine d_q rfl (q_mv (v_raw rfl)) rfl rfl rfl ?_
                    refine d_q rfl (q_mv (v_raw rfl)) rfl rfl rfl ?_
                    refine d_q rfl (q_idxr und53 sz56 rfl rfl (by omega) (by omega)) rfl rfl rfl ?_
                    refine d_q rfl (q_ldm ag56 sz56 rfl (by repeat first | exact Mem.upd_self _ _ _ | assumption | refine Mem.upd_ne (by assumption) ?_) (tl_piece (w := w) (by omega) (by omega)) (v_sl rfl)) rfl rfl rfl ?_
                    refine d_q rfl (q_len rfl und56 rfl) rfl rfl rfl ?_
                    refine d_c rfl (fun M' => (pickE _ hp' (by omega) (by omega) hti.2.2.2.1)) goes8 (ac (v_raw rfl) (ac (v_raw rfl) ac_nil)) rfl ?_
                    refine d_q rfl (q_idx und56 sz58 rfl rfl (by omega) (gm p (by first | omega | simp)) rfl) rfl rfl rfl ?_
                    refine d_q rfl (q_lde ag58 sz58 rfl (gm p (by first | omega | simp)) rfl rfl) rfl rfl rfl ?_
                    refine d_s rfl ?_
                    refine o_alloc zc58 (fun B4 hB4 => ?_)
                    have b4 := (Mem.upd_none (Mem.upd_none hB4).2).2
                    have n4 := hH.ne b4
                    have m4 := hH.nm b4
                    have f14 : B1 ≠ B4 := Mem.fresh_ne b4 hD
                    have f41 := f14.symm
                    have f24 : B2 ≠ B4 := Mem.fresh_ne b4 hE
                    have f42 := f24.symm
                    have f34 : B3 ≠ B4 := Mem.fresh_ne hB4 (Mem.upd_self _ _ _)
                    have f43 := f34.symm
                    have n4w := n4 w (by omega)
                    have n4w' := n4w.symm
                    refine o_nil ⟨(by simp [Mem.upd, *]), ?_⟩
                    refine d_s rfl ?_
                    refine o_storew rfl (by repeat first | exact Mem.upd_self _ _ _ | assumption | refine Mem.upd_ne (by assumption) ?_) (by first | exact e_agg rfl | rfl) rfl sz58 rfl rfl rfl rfl ?_
                    refine o_nil ⟨(by simp [Mem.upd, *]), ?_⟩
                    refine d_nil ?_
                    refine s_seq ?_
                    refine s_seq ?_
                    refine s_region ?_
                    refine o_q (q_as (v_raw rfl)) rfl rfl rfl ?_
                    refine o_nil ?_
                    refine s_block ?_
                    refine s_loop (fun m S => ∃ T, ∃ Mk : Mem, ∃ g : Nat → Od, ∃ k : Nat, S = ⟨setT (setT (setT (setT (setT (setT (setT (setT (setT (setT T 2 (.sl (l.map encTu) o3)) 7 (bool true)) 8 (int (n : Nat))) 11 (.sl (bs.map ptr) true)) 15 (rsl B1 n n)) 16 (rsl B2 n n)) 17 (int (i : Nat))) 19 (int (w : Nat))) 22 (ptr B4)) 23 (int (k : Nat)), Mk⟩ ∧ Hp M Mk bs g ∧ Mk B1 = some (.cells (tlC n tl)) ∧ Mk B2 = some (.cells (svC n sv)) ∧ Mk B4 = some (.cells [int x.at_, int x.sure, .sl (x.texts.map str) false]) ∧ J n g tl ∧ g 0 = f 0 ∧ (∀ j, j < n → (f j).sure ≤ (g j).sure) ∧ k ≤ x.texts.length ∧ m = x.texts.length - k) x.texts.length ?_ ?_
                    · exact ⟨_, _, f, 0, (by rw [hx]; exact St.mkT (kp (kp (kp (kp (kp (kp (kp (kp (kp (kp rfl rfl) rfl) rfl) rfl) rfl) rfl) rfl) rfl) rfl) rfl).symm), ((((hH.out n3 m3 _).out n3 m3 _).out n4 m4 _).out n4 m4 _), (by repeat first | exact Mem.upd_self _ _ _ | assumption | refine Mem.upd_ne (by assumption) ?_), (by repeat first | exact Mem.upd_self _ _ _ | assumption | refine Mem.upd_ne (by assumption) ?_), (by repeat first | exact Mem.upd_self _ _ _ | assumption | refine Mem.upd_ne (by assumption) ?_), hJ, rfl, fun j hj => Int.le_refl _, by omega, rfl⟩
                    rintro m S ⟨T, Mk, g, k, rfl, hG, hD', hE', hX, hJ', hg0, hgs, hk, rfl⟩
                    refine s_seq ?_
                    refine s_seq ?_
                    refine s_region ?_
                    refine o_q (q_mv (v_raw rfl)) rfl rfl rfl ?_
                    refine o_q (q_fr fo58_2 rfl) rfl rfl rfl ?_
                    refine o_q (q_ldm ag22 sz22 rfl (by repeat first | exact Mem.upd_self _ _ _ | assumption | refine Mem.upd_ne (by assumption) ?_) rfl (v_sl rfl)) rfl rfl rfl ?_
                    refine o_q (q_len rfl und22 rfl) rfl rfl rfl ?_
                    refine o_q (q_lss rfl rfl) rfl rfl rfl ?_
                    refine o_nil ?_
                    refine s_cond rfl (fun h10 => ?_) (fun h10 => ?_)
                    · have k10 := h10; try simp only [decide_eq_true_eq, decide_eq_false_iff_not, Bool.not_eq_true', Bool.not_eq_false', Bool.not_true, Bool.not_false, List.length_map, Decidable.not_not] at k10
                      have hgk := good_txt hgd (k := k) (by omega)
                      have hat0 := hgd.at0
                      have hokg := hJ'.ok w hw2
                      have hlgw := hJ'.len hw2
                      rw [hg0] at hlgw
                      refine s_skip ?_
                      refine s_seq ?_
                      refine s_block ?_
                      refine s_draw rfl ?_
                      refine d_q rfl (q_mv (v_sl rfl)) rfl rfl rfl ?_
                      refine d_q rfl (q_mv (v_raw rfl)) rfl rfl rfl ?_
                      refine d_q rfl (q_idx und26 sz27 rfl rfl (by omega) (gm w (by first | omega | simp)) rfl) rfl rfl rfl ?_
                      refine d_q rfl (q_ld ag27 sz27 rfl (gm w (by first | omega | simp)) rfl ((by first | exact v_raw rfl | exact v_sptr rfl))) rfl rfl rfl ?_
                      refine d_q rfl (q_fr fo58_0 rfl) rfl rfl rfl ?_
                      refine d_q rfl (q_ldm ag3 sz3 rfl (by repeat first | exact Mem.upd_self _ _ _ | assumption | refine Mem.upd_ne (by assumption) ?_) rfl (v_raw rfl)) rfl rfl rfl ?_
                      refine d_q rfl (q_mv (v_raw rfl)) rfl rfl rfl ?_
                      refine d_q rfl (q_add rfl rfl (wrap64 (by omega) (by omega))) rfl rfl rfl ?_
                      refine d_q rfl (q_fr fo58_2 rfl) rfl rfl rfl ?_
                      refine d_q rfl (q_ldm ag22 sz22 rfl (by repeat first | exact Mem.upd_self _ _ _ | assumption | refine Mem.upd_ne (by assumption) ?_) rfl (v_sl rfl)) rfl rfl rfl ?_
                      refine d_q rfl (q_mv (v_raw rfl)) rfl rfl rfl ?_
                      refine d_q rfl (q_idx und22 sz9 rfl rfl (by omega) (gm k (by first | omega | simp)) rfl) rfl rfl rfl ?_
                      refine d_q rfl (q_ld ag9 sz9 rfl (gm k (by first | omega | simp)) rfl (v_raw rfl)) rfl rfl rfl ?_
                      refine d_s rfl ?_
                      refine o_callx ((add12 (hG.hb w (by omega)) hokg (hss _ hgk.2) (by omega))) goes12 (ac ((by first | exact v_raw rfl | exact v_sptr rfl)) (ac (v_raw rfl) (ac (v_raw rfl) ac_nil))) rfl ?_
                      rintro r M2 ⟨rfl, rfl⟩
                      refine o_nil ⟨(by simp [Mem.upd, *]), ?_⟩
                      refine d_nil ?_
                      refine s_blk_normal ?_
                      refine s_region ?_
                      refine o_q (q_mv (v_raw rfl)) rfl rfl rfl ?_
                      refine o_q (q_add rfl rfl (wrap64 (by omega) (by omega))) rfl rfl rfl ?_
                      refine o_q (q_as (v_raw rfl)) rfl rfl rfl ?_
                      refine o_nil ?_
                      refine s_inv ?_
                      have hJ2 := hJ'.add hw2 (t := x) (by rw [hg0]; exact hgd) (k := k) (by omega)
                      exact ⟨x.texts.length - (k + 1), by omega, _, _, st g w (addO (g w) (x.at_ + k) x.texts[k]).1, k + 1, St.mkT (kp (kp (kp (kp (kp (kp (kp (kp (kp (kp rfl rfl) rfl) rfl) rfl) rfl) rfl) rfl) rfl) rfl) rfl).symm, hG.upd (by omega) _, (by repeat first | exact Mem.upd_self _ _ _ | assumption | refine Mem.upd_ne (by assumption) ?_), (by repeat first | exact Mem.upd_self _ _ _ | assumption | refine Mem.upd_ne (by assumption) ?_), (by repeat first | exact Mem.upd_self _ _ _ | assumption | refine Mem.upd_ne (by assumption) ?_), hJ2, (add_same0 hw2 hJ' _ _).trans hg0, fun j hj => Int.le_trans (hgs j hj) (st_sure (add_gr hokg).sure), by omega, rfl⟩
                    · have k10 := h10; try simp only [decide_eq_true_eq, decide_eq_false_iff_not, Bool.not_eq_true', Bool.not_eq_false', Bool.not_true, Bool.not_false, List.length_map, Decidable.not_not] at k10
                      refine s_exit ?_
                      refine s_code_exit ?_
                      refine s_inv_exit ?_
                      refine s_blk_here ?_
                      refine s_draw rfl ?_
                      refine d_q rfl (q_mv (v_sl rfl)) rfl rfl rfl ?_
                      refine d_q rfl (q_mv (v_raw rfl)) rfl rfl rfl ?_
                      refine d_q rfl (q_idx und26 sz27 rfl rfl (by omega) (gm w (by first | omega | simp)) rfl) rfl rfl rfl ?_
                      refine d_q rfl (q_ld ag27 sz27 rfl (gm w (by first | omega | simp)) rfl ((by first | exact v_raw rfl | exact v_sptr rfl))) rfl rfl rfl ?_
                      refine d_q rfl (q_fr fo58_1 rfl) rfl rfl rfl ?_
                      refine d_q rfl (q_ldm ag3 sz3 rfl (by repeat first | exact Mem.upd_self _ _ _ | assumption | refine Mem.upd_ne (by assumption) ?_) rfl (v_raw rfl)) rfl rfl rfl ?_
                      refine d_s rfl ?_
                      refine o_callx ((learn15 (hG.hb w (by omega)) (hJ'.ok w hw2))) goes15 (ac ((by first | exact v_raw rfl | exact v_sptr rfl)) (ac (v_raw rfl) ac_nil)) rfl ?_
                      rintro r M2 ⟨rfl, rfl⟩
                      refine o_nil ⟨(by simp [Mem.upd, *]), ?_⟩
                      refine d_nil ?_
                      refine s_blk_normal ?_
                      refine s_inv ?_
                      exact ⟨_, _, st g w (learnO (g w) x.sure).1, tl, St.mkT (kp (kp (kp (kp (kp (kp (kp rfl rfl) rfl) rfl) rfl) rfl) rfl) rfl).symm, (hG.upd (by omega) _), (by repeat first | exact Mem.upd_self _ _ _ | assumption | refine Mem.upd_ne (by assumption) ?_), (by repeat first | exact Mem.upd_self _ _ _ | assumption | refine Mem.upd_ne (by assumption) ?_), (hJ'.learn hw2 (by rw [hg0]; exact hgd)), fun j hj => Int.le_trans (hgs j hj) (st_sure (learn_gr (hJ'.ok w hw2)).sure), by rw [learn_same0 hw2 hJ', hg0]; omega, by rw [learn_same0 hw2 hJ', hg0]; exact hss, fun j => Nat.le_succ_of_le (hTl j)⟩
                  · have k9 := h9; try simp only [decide_eq_true_eq, decide_eq_false_iff_not, Bool.not_eq_true', Bool.not_eq_false', Bool.not_true, Bool.not_false, List.length_map, Decidable.not_not] at k9
                    refine s_skip ?_
                    refine s_blk_normal ?_
                    refine s_inv ?_
                    exact ⟨_, _, f, tl, St.mkT (kp (kp (kp (kp (kp (kp (kp rfl rfl) rfl) rfl) rfl) rfl) rfl) rfl).symm, ((hH.out n3 m3 _).out n3 m3 _), (by repeat first | exact Mem.upd_self _ _ _ | assumption | refine Mem.upd_ne (by assumption) ?_), (by repeat first | exact Mem.upd_self _ _ _ | assumption | refine Mem.upd_ne (by assumption) ?_), hJ, fun j hj => Int.le_refl _, by omega, hss, fun j => Nat.le_succ_of_le (hTl j)⟩
                · have k8 := h8; try simp only [decide_eq_true_eq, decide_eq_false_iff_not, Bool.not_eq_true', Bool.not_eq_false', Bool.not_true, Bool.not_false, List.length_map, Decidable.not_not] at k8
                  refine s_seq ?_
                  refine s_region ?_
                  refine o_q (q_mv (v_raw rfl)) rfl rfl rfl ?_
                  refine o_q (q_gtr rfl rfl) rfl rfl rfl ?_
                  refine o_nil ?_
                  refine s_cond rfl (fun h11 => ?_) (fun h11 => ?_)
                  · have k11 := h11; try simp only [decide_eq_true_eq, decide_eq_false_iff_not, Bool.not_eq_true', Bool.not_eq_false', Bool.not_true, Bool.not_false, List.length_map, Decidable.not_not] at k11
                    refine s_draw rfl ?_
                    refine d_q rfl (q_mv (v_sl rfl)) rfl rfl rfl ?_
                    refine d_q rfl (q_idx und26 sz27 rfl rfl (by omega) (gm 0 (by first | omega | simp)) rfl) rfl rfl rfl ?_
                    refine d_q rfl (q_ld ag27 sz27 rfl (gm 0 (by first | omega | simp)) rfl ((by first | exact v_raw rfl | exact v_sptr rfl))) rfl rfl rfl ?_
                    refine d_q rfl (q_mv (v_raw rfl)) rfl rfl rfl ?_
                    refine d_q rfl (q_mv (v_sl rfl)) rfl rfl rfl ?_
                    refine d_q rfl (q_mv (v_raw rfl)) rfl rfl rfl ?_
                    refine d_q rfl (q_idx und26 sz27 rfl rfl (by omega) (gm w (by first | omega | simp)) rfl) rfl rfl rfl ?_
                    refine d_q rfl (q_ld ag27 sz27 rfl (gm w (by first | omega | simp)) rfl ((by first | exact v_raw rfl | exact v_sptr rfl))) rfl rfl rfl ?_
                    refine d_s rfl ?_
                    refine o_call ((lenE rfl (((hH.out n3 m3 _).out n3 m3 _).hb w (by omega)))) goes14 (ac ((by first | exact v_raw rfl | exact v_sptr rfl)) ac_nil) rfl ?_
                    refine o_nil ⟨(by simp [Mem.upd, *]), ?_⟩
                    refine d_s rfl ?_
                    refine o_callx ((has13 (((hH.out n3 m3 _).out n3 m3 _).hb 0 (by omega)) hok0)) goes13 (ac ((by first | exact v_raw rfl | exact v_sptr rfl)) (ac (v_raw rfl) (ac (v_raw rfl) ac_nil))) rfl ?_
                    rintro r M2 ⟨rfl, rfl⟩
                    refine o_nil ⟨(by simp [Mem.upd, *]), ?_⟩
                    refine d_nil ?_
                    refine s_blk_normal ?_
                    refine s_inv ?_
                    exact ⟨_, _, st f 0 (hasO (f 0) w (f w).log.length).1, tl, St.mkT (kp (kp (kp (kp (kp (kp (kp rfl rfl) rfl) rfl) rfl) rfl) rfl) rfl).symm, (((hH.out n3 m3 _).out n3 m3 _).upd (by omega) _), (by repeat first | exact Mem.upd_self _ _ _ | assumption | refine Mem.upd_ne (by assumption) ?_), (by repeat first | exact Mem.upd_self _ _ _ | assumption | refine Mem.upd_ne (by assumption) ?_), (hJ.has hn7 hw2), fun j hj => st_sure (has_gr hok0).sure, by rw [st_same]; exact gr_len (has_gr hok0), fun s hs => by rw [st_same, has_log] at hs; exact hss s hs, fun j => Nat.le_succ_of_le (hTl j)⟩
                  · have k11 := h11; try simp only [decide_eq_true_eq, decide_eq_false_iff_not, Bool.not_eq_true', Bool.not_eq_false', Bool.not_true, Bool.not_false, List.length_map, Decidable.not_not] at k11
                    refine s_skip ?_
                    refine s_blk_normal ?_
                    refine s_inv ?_
                    exact ⟨_, _, f, tl, St.mkT (kp (kp (kp (kp (kp (kp (kp rfl rfl) rfl) rfl) rfl) rfl) rfl) rfl).symm, ((hH.out n3 m3 _).out n3 m3 _), (by repeat first | exact Mem.upd_self _ _ _ | assumption | refine Mem.upd_ne (by assumption) ?_), (by repeat first | exact Mem.upd_self _ _ _ | assumption | refine Mem.upd_ne (by assumption) ?_), hJ, fun j hj => Int.le_refl _, by omega, hss, fun j => Nat.le_succ_of_le (hTl j)⟩
          rintro S ⟨T, Mw, f', tl', rfl, hH', hD', hE', hJ', hfs, hfl', hss', hTl'⟩
          refine s_seq ?_
          refine s_region ?_
          refine o_q (q_mv (v_sl rfl)) rfl rfl rfl ?_
          refine o_q (q_mv (v_raw rfl)) rfl rfl rfl ?_
          refine o_callx ((snd29 bs false n B2 f' sv _ hE' hH'.hb (fun b hb => by obtain ⟨j, hj, rfl⟩ := List.mem_iff_getElem.1 hb; exact nE j hj) hbn hn1 hn7 (hJ'.agree (fun j hj => Int.le_trans (hsv j hj) (hfs j hj)) (by omega)))) goes29 (ac (v_sl rfl) (ac (v_raw rfl) ac_nil)) rfl ?_
          rintro r M2 ⟨rfl, rfl⟩
          refine o_q (q_as (v_raw rfl)) rfl rfl rfl ?_
          refine o_nil ?_
          refine s_seq ?_
          refine s_region ?_
          refine o_q (q_mv (v_raw rfl)) rfl rfl rfl ?_
          refine o_q (q_not rfl) rfl rfl rfl ?_
          refine o_nil ?_
          refine s_else rfl rfl ?_
          refine s_skip ?_
          refine s_blk_normal ?_
          refine s_region ?_
          refine o_q (q_mv (v_raw rfl)) rfl rfl rfl ?_
          refine o_q (q_add rfl rfl (wrap64 (by omega) (by omega))) rfl rfl rfl ?_
          refine o_q (q_as (v_raw rfl)) rfl rfl rfl ?_
          refine o_nil ?_
          refine s_inv ?_
          exact ⟨l.length - (i + 1), by omega, _, _, f', tl', fun j => (f' j).sure, i + 1, St.mkT (kp (kp (kp (kp (kp (kp (kp rfl rfl) rfl) rfl) rfl) rfl) rfl) rfl).symm, hH'.out nE hm2 _, (by repeat first | exact Mem.upd_self _ _ _ | assumption | refine Mem.upd_ne (by assumption) ?_), (by repeat first | exact Mem.upd_self _ _ _ | assumption | refine Mem.upd_ne (by assumption) ?_), hJ', fun j hj => Int.le_refl _, by omega, hss', hTl', by omega, by omega, rfl⟩
        · have k4 := h4; try simp only [decide_eq_true_eq, decide_eq_false_iff_not, Bool.not_eq_true', Bool.not_eq_false', Bool.not_true, Bool.not_false, List.length_map, Decidable.not_not] at k4
          refine s_exit ?_
          refine s_code_exit ?_
          refine s_inv_exit ?_
          refine s_blk_here ?_
          refine s_seq ?_
          refine s_region ?_
          refine o_q (q_mv (v_raw rfl)) rfl rfl rfl ?_
          refine o_q (q_as (v_raw rfl)) rfl rfl rfl ?_
          refine o_nil ?_
          refine s_ret ?_
          refine s_end ?_
          exact ⟨rfl, hH.le⟩
      · have k3 := h3; try simp only [decide_eq_true_eq, decide_eq_false_iff_not, Bool.not_eq_true', Bool.not_eq_false', Bool.not_true, Bool.not_false, List.length_map, Decidable.not_not] at k3
        refine o_no rfl rfl rfl rfl h3 ?_
        refine o_no rfl rfl rfl rfl h3 ?_
        refine o_q (q_pick_c (t := false) rfl h3 (v_raw rfl)) rfl rfl rfl ?_
        refine o_nil ?_
        refine s_else rfl rfl ?_
        refine s_exit ?_
        refine s_code_exit ?_
        refine s_inv_exit ?_
        refine s_blk_here ?_
        refine s_seq ?_
        refine s_region ?_
        refine o_q (q_mv (v_raw rfl)) rfl rfl rfl ?_
        refine o_q (q_as (v_raw rfl)) rfl rfl rfl ?_
        refine o_nil ?_
        refine s_ret ?_
        refine s_end ?_
        exact ⟨rfl, hH.le⟩
end C18
