import Derived.Test.YtlfghpdopponaaaNt
/-! Chapter 3: the laws, walked. -/
open Go Go.Proofs Go.Am Fl
set_option linter.unusedVariables false
set_option linter.unusedSimpArgs false
namespace C3
theorem ag9 : aggT Try.prog 9 = some false := by kernel_rfl
theorem b2s26_9 : b2s Try.prog 26 9 = true := by kernel_rfl
theorem sz9 : sizeT Try.prog 9 = some 1 := by kernel_rfl
theorem und4 : Try.prog.underlying 4 = some .bool := by kernel_rfl
theorem und50 : Try.prog.underlying 50 = some (.slice 9) := by kernel_rfl
def addP (a b : Pr) : Pr := md (addZ a b)
def subP (a b : Pr) : Pr := md (subZ a b)
theorem snd14r (x y : Pr) (M : Mem) (hx : right x = true) (hy : right y = true) : SoundCall Try.prog 14 [encP x, encP y] M fun r M' => r = .tup [encP (mulP x y), int 0] ∧ M' = M := by
  have h := (snd14 x y M).det
  rw [hx, hy] at h; exact h
theorem snd17r (x y : Pr) (M : Mem) (hx : right x = true) (hy : right y = true) : SoundCall Try.prog 17 [encP x, encP y] M fun r M' => r = .tup [encP (addP x y), int 0] ∧ M' = M := by
  have h := (snd17 x y M).det
  rw [hx, hy] at h; exact h
theorem snd18r (x y : Pr) (M : Mem) (hx : right x = true) (hy : right y = true) : SoundCall Try.prog 18 [encP x, encP y] M fun r M' => r = .tup [encP (subP x y), int 0] ∧ M' = M := by
  have h := (snd18 x y M).det
  rw [hx, hy] at h; exact h
theorem snd14f (x y : Pr) (M : Mem) (h : (right x && right y) = false) : SoundCall Try.prog 14 [encP x, encP y] M fun r M' => r = .tup [encP ⟨0, 0⟩, int 1] ∧ M' = M := by
  have h' := (snd14 x y M).det
  rw [h] at h'; exact h'
theorem snd17f (x y : Pr) (M : Mem) (h : (right x && right y) = false) : SoundCall Try.prog 17 [encP x, encP y] M fun r M' => r = .tup [encP ⟨0, 0⟩, int 1] ∧ M' = M := by
  have h' := (snd17 x y M).det
  rw [h] at h'; exact h'
theorem snd18f (x y : Pr) (M : Mem) (h : (right x && right y) = false) : SoundCall Try.prog 18 [encP x, encP y] M fun r M' => r = .tup [encP ⟨0, 0⟩, int 1] ∧ M' = M := by
  have h' := (snd18 x y M).det
  rw [h] at h'; exact h'
theorem snd24r (x : Pr) (n : Int) (M : Mem) (hx : right x = true) (h0 : 0 ≤ n) (hn : n < 2 ^ 63) : SoundCall Try.prog 24 [encP x, int n] M fun r M' => r = .tup [encP (pw x n.toNat), int 0] ∧ M' = M := by
  have h := (snd24 x n M hn).det
  rw [hx, decide_eq_true h0] at h; exact h
theorem snd24f (x : Pr) (n : Int) (M : Mem) (hn : n < 2 ^ 63) (hf : (right x && decide (0 ≤ n)) = false) : SoundCall Try.prog 24 [encP x, int n] M fun r M' => r = .tup [encP ⟨0, 0⟩, int 1] ∧ M' = M := by
  have h := (snd24 x n M hn).det
  rw [hf] at h; exact h
/-- The inverse, or 0. -/
def iv (x : Pr) : Pr := if x = ⟨0, 0⟩ then ⟨0, 0⟩ else rinv x
theorem snd25r (x : Pr) (M : Mem) (hx : right x = true) : SoundCall Try.prog 25 [encP x] M fun r M' => r = .tup [encP (iv x), int (if x = ⟨0, 0⟩ then 7 else 0)] ∧ M' = M := by
  have h := (snd25 x M).det
  have e : invR x = .tup [encP (iv x), int (if x = ⟨0, 0⟩ then 7 else 0)] := by
    unfold invR iv
    by_cases h0 : x = ⟨0, 0⟩
    · rw [if_neg (fun h => h.2 h0), if_pos hx, if_pos h0, if_pos h0]
    · rw [if_pos ⟨hx, h0⟩, if_pos hx, if_neg h0, if_neg h0, inv_eq hx]
  rw [e] at h; exact h
theorem snd25f (x : Pr) (M : Mem) (hx : right x = false) : SoundCall Try.prog 25 [encP x] M fun r M' => r = .tup [encP ⟨0, 0⟩, int 1] ∧ M' = M := by
  have h := (snd25 x M).det
  have e : invR x = .tup [encP ⟨0, 0⟩, int 1] := by simp [invR, hx]
  rw [e] at h; exact h
theorem snd26r (x : Pr) (M : Mem) (hx : right x = true) : SoundCall Try.prog 26 [encP x] M fun r M' => r = .tup [encP (iv x), .raw (.bool (decide (x ≠ ⟨0, 0⟩)))] ∧ M' = M := by
  have h := (snd26 x M hx).det
  have e : rinvR x = .tup [encP (iv x), .raw (.bool (decide (x ≠ ⟨0, 0⟩)))] := by
    have hz := nrm_zero hx
    unfold rinvR iv
    by_cases h0 : x = ⟨0, 0⟩
    · rw [if_pos (hz.2 h0), if_pos h0, decide_eq_false (fun h => h (hz.2 h0)), decide_eq_false (fun h => h h0)]
    · have : ¬ nrm x = 0 := fun h => h0 (hz.1 h)
      rw [if_neg this, if_neg h0, decide_eq_true this, decide_eq_true h0]
  rw [e] at h; exact h
theorem snd27i (x : Pr) (n : Int) (M : Mem) (hx : right x = true) (h0 : 0 ≤ n) (hn : n < 2 ^ 63) : SoundCall Try.prog 27 [encP x, int n] M fun r M' => r = encP (pw x n.toNat) ∧ M' = M := by
  have h := (snd27 x n.toNat M hx (by omega)).det
  rw [show ((n.toNat : Nat) : Int) = n by omega] at h; exact h
theorem snd13r (d : Pr) (s : ByteArray) (M : Mem) (hd : right d = true) (hs : s.size < 2 ^ 62) : SoundCall Try.prog 13 [encP d, .raw (.string s)] M fun r M' => r = .tup [encP (onP d s), int 0] ∧ M' = M := by
  have h := (snd13 d s M hs).det
  rw [hd] at h; exact h
theorem snd13f (d : Pr) (s : ByteArray) (M : Mem) (hd : right d = false) (hs : s.size < 2 ^ 62) : SoundCall Try.prog 13 [encP d, .raw (.string s)] M fun r M' => r = .tup [encP ⟨0, 0⟩, int 1] ∧ M' = M := by
  have h := (snd13 d s M hs).det
  rw [hd] at h; exact h
theorem snd28r (d e : Pr) (n : Int) (M : Mem) (hn : n < 2 ^ 63) (hd : right d = true) (he : right e = true) (h0 : 0 ≤ n) : SoundCall Try.prog 28 [encP d, encP e, int n] M fun r M' => r = .tup [encP (joinP d e n.toNat), int 0] ∧ M' = M := by
  have h := (snd28 d e n M hn).det
  rw [hd, he, decide_eq_true h0] at h; exact h
theorem snd28f (d e : Pr) (n : Int) (M : Mem) (hn : n < 2 ^ 63) (hf : (right d && right e && decide (0 ≤ n)) = false) : SoundCall Try.prog 28 [encP d, encP e, int n] M fun r M' => r = .tup [encP ⟨0, 0⟩, int 1] ∧ M' = M := by
  have h := (snd28 d e n M hn).det
  rw [hf] at h; exact h
theorem snd30i (d e : Pr) (n : Int) (M : Mem) (hd : right d = true) (he : right e = true) (h0 : 0 ≤ n) (hn : n < 2 ^ 63) : SoundCall Try.prog 30 [encP d, encP e, int n] M fun r M' => r = encP (joinP d e n.toNat) ∧ M' = M := by
  have h := (snd30 d e n.toNat M hd he (by omega)).det
  rw [show ((n.toNat : Nat) : Int) = n by omega] at h; exact h
theorem und4t : Try.prog.underlying 4 = some .bool := by kernel_rfl
theorem right_t {x : Pr} {b : Bool} (M : Mem) (hx : right x = b) : SoundCall Try.prog 16 [encP x] M fun r M' => r = .raw (.bool b) ∧ M' = M := hx ▸ (snd16 x M).det
theorem right_t' {x : Pr} {b : Bool} (M : Mem) (hx : right x = b) : SoundCall Try.prog 23 [encP x] M fun r M' => r = .raw (.bool b) ∧ M' = M := hx ▸ (snd23 x M).det
theorem told_s {a : Pr} {e : Int} {b : Pr} {r : Bool} (M : Mem) (h : toldB a e b r = true) : SoundCall Try.prog 19 [encP a, int e, encP b, .raw (.bool r)] M fun t M' => t = .raw (.bool true) ∧ M' = M := h ▸ (snd19 a e b r M).det
theorem told_eq {a b : Pr} (h : a = b) : toldB a 0 b true = true := by subst h; simp [toldB]
theorem told_no (b : Pr) : toldB ⟨0, 0⟩ 1 b false = true := by simp [toldB]

theorem u8l_set1 {s : ByteArray} {j : Nat} {rest : List AVal} {b : UInt8} (h : j < s.size) : splice (u8l s ++ rest) (0 + j * 1) [.raw (.int .u8 b.toNat)] = u8l ⟨s.data.set j b h⟩ ++ rest := by
  rw [show 0 + j * 1 = j by omega]; exact u8l_set h
theorem xor_zero {b u : UInt8} (h : b ^^^ u = b) : u = 0 := by
  have h1 := congrArg (fun c => b ^^^ c) h
  simp only [← UInt8.xor_assoc, UInt8.xor_self, UInt8.zero_xor] at h1
  exact h1
def str (s : ByteArray) : AVal := .raw (.string s)
theorem strs_le {l : List ByteArray} (h : ∀ s ∈ l, s.size ≤ 140737488351232) : ∀ i, i ≤ 20 → i ≤ l.length → stepsOf (l.take i) ≤ i * 140737488351233
  | 0, _, _ => by simp [stepsOf]
  | i + 1, h20, hl => by
    rw [stepsOf_succ l (by omega)]
    have h1 := strs_le h i (by omega) (by omega)
    have h2 := h l[i] (List.getElem_mem _)
    omega

/-! ### The laws of sums and products -/
theorem mulP_comm (a b : Pr) : mulP a b = mulP b a := by unfold mulP; rw [mulZ_comm]
theorem mulP_assoc (a b c : Pr) : mulP (mulP a b) c = mulP a (mulP b c) := by unfold mulP; rw [md_mulZ, md_mulZ', mulZ_assoc]
theorem mulP_add (a b c : Pr) : mulP a (addP b c) = addP (mulP a b) (mulP a c) := by unfold mulP addP; rw [md_mulZ', md_addZ, md_addZ', mulZ_add]
theorem subP_addP (b c : Pr) (hb : right b = true) : subP (addP b c) c = b := by
  unfold subP addP
  rw [md_subZ]
  have : subZ (addZ b c) c = b := by cases b; cases c; simp only [subZ, addZ, Pr.mk.injEq]; constructor <;> omega
  rw [this, md_of_right hb]

def tk5 : Nat → Nat → Option Nat := fun _ _ => none
def pl5 : Nat → List PStep
  | 6 => [.q 0, .q 1, .q 2, .q 3, .q 5, .s 4 [5, 1, 0], .s 6 [3, 2], .q 7]
  | 7 => [.q 0, .q 1, .q 2, .q 3, .q 5, .s 4 [5, 1, 0], .s 6 [3, 2], .q 7]
  | 8 => [.q 0, .q 1, .q 2, .q 3, .q 4, .q 5, .s 6 [3, 2, 0], .s 7 [5, 4, 0], .q 8, .q 9, .q 10, .q 11, .q 12, .q 13, .q 14, .q 15, .s 16 [11, 10, 9, 8, 5, 4, 3, 2, 1, 0], .q 17, .q 18, .q 19]
  | 9 => [.q 0, .q 1, .q 2, .q 3, .q 4, .q 5, .q 6, .q 7, .q 8, .q 9, .q 10, .q 11, .q 13, .s 12 [13, 9, 8, 7, 6, 5, 4, 3, 2, 1, 0], .s 14 [11, 9, 8, 7, 6, 5, 4, 3, 2, 1, 0], .q 15, .q 16, .q 17]
  | _ => []
theorem cb5 : Try.f5.body.map (codeB Try.prog Try.f5.ntmps tk5 pl5) = some true := by kernel_rfl
theorem goes5 : goesB Try.prog 5 = true := by kernel_rfl
-- carillon/carillonlaw03.GaussReckons params ['api.Pair', 'api.Pair'] results [['t', 4]] own [] names ['0:a', '1:b', '2:a', '3:b', '5:head', '6:right', '7:x', '8:e', '9:y', '10:f', '11:z', '12:g', '13:one', '14:two', '15:three'] calls [11, 14, 16, 17, 18, 19, 20, 21, 22, 23] paths 1
set_option maxHeartbeats 4000000 in
set_option maxRecDepth 20000 in
theorem snd5a (x y : Pr) (M : Mem) (hx : right x = true) (hy : right y = true) : SoundCall Try.prog 5 [encP x, encP y] M fun r M' => r = .raw (.bool true) ∧ M.le M' := by
  have ry := right_spec.1 hy
  refine SoundCall.go tk5 pl5 mixed Try.func5 cb5 rfl (Nat.le_of_ble_eq_true rfl) ?_
  refine s_seq ?_
  refine s_region ?_
  refine o_box (by first | exact e_raw rfl | exact e_agg rfl | exact e_sl rfl) rfl rfl (fun B1 hB1 => ?_)
  have m1 : M B1 = none := by have h := hB1; repeat (first | exact h | exact Mem.none_of_le hle h | replace h := (Mem.upd_none h).2)
  refine o_box (by first | exact e_raw rfl | exact e_agg rfl | exact e_sl rfl) rfl rfl (fun B2 hB2 => ?_)
  have f1_2 : B1 ≠ B2 := Mem.fresh_ne hB2 (by repeat first | exact Mem.upd_self _ _ _ | assumption | refine Mem.upd_ne (by assumption) ?_)
  have g2_1 : B2 ≠ B1 := f1_2.symm
  have m2 : M B2 = none := by have h := hB2; repeat (first | exact h | exact Mem.none_of_le hle h | replace h := (Mem.upd_none h).2)
  refine o_q (q_as (v_raw rfl)) rfl rfl rfl ?_
  refine o_nil ?_
  refine s_seq ?_
  refine s_region ?_
  refine o_call ((snd11 _).det) goes11 ac_nil rfl ?_
  refine o_q (q_as (v_raw rfl)) rfl rfl rfl ?_
  refine o_nil ?_
  refine s_seq ?_
  refine s_region ?_
  refine o_q (q_ldmw ag23 sz23 rfl (by repeat first | exact Mem.upd_self _ _ _ | assumption | refine Mem.upd_ne (by assumption) ?_) rfl rfl) rfl rfl rfl ?_
  refine o_call (right_t _ hx) goes16 (ac (v_agg rfl) ac_nil) rfl ?_
  refine o_q (q_mv (v_raw rfl)) rfl rfl rfl ?_
  refine o_yes rfl rfl rfl rfl ?_
  refine o_q (q_ldmw ag23 sz23 rfl (by repeat first | exact Mem.upd_self _ _ _ | assumption | refine Mem.upd_ne (by assumption) ?_) rfl rfl) rfl rfl rfl ?_
  refine o_yes rfl rfl rfl rfl ?_
  refine o_call (right_t _ hy) goes16 (ac (v_agg rfl) ac_nil) rfl ?_
  refine o_q (q_pick_c (t := true) rfl rfl (v_raw rfl)) rfl rfl rfl ?_
  refine o_q (q_as (v_raw rfl)) rfl rfl rfl ?_
  refine o_nil ?_
  refine s_seq ?_
  refine s_region ?_
  refine o_q (q_ldmw ag23 sz23 rfl (by repeat first | exact Mem.upd_self _ _ _ | assumption | refine Mem.upd_ne (by assumption) ?_) rfl rfl) rfl rfl rfl ?_
  refine o_q (q_ldmw ag23 sz23 rfl (by repeat first | exact Mem.upd_self _ _ _ | assumption | refine Mem.upd_ne (by assumption) ?_) rfl rfl) rfl rfl rfl ?_
  refine o_call (snd17r x y _ hx hy) goes17 (ac (v_agg rfl) (ac (v_agg rfl) ac_nil)) rfl ?_
  refine o_q (q_mv (v_tup rfl)) rfl rfl rfl ?_
  refine o_q (q_ext rfl rfl (v_agg rfl)) rfl rfl rfl ?_
  refine o_q (q_ext rfl rfl (v_raw rfl)) rfl rfl rfl ?_
  refine o_alloc zc23 (fun B3 hB3 => ?_)
  have f1_3 : B1 ≠ B3 := Mem.fresh_ne hB3 (by repeat first | exact Mem.upd_self _ _ _ | assumption | refine Mem.upd_ne (by assumption) ?_)
  have g3_1 : B3 ≠ B1 := f1_3.symm
  have f2_3 : B2 ≠ B3 := Mem.fresh_ne hB3 (by repeat first | exact Mem.upd_self _ _ _ | assumption | refine Mem.upd_ne (by assumption) ?_)
  have g3_2 : B3 ≠ B2 := f2_3.symm
  have m3 : M B3 = none := by have h := hB3; repeat (first | exact h | exact Mem.none_of_le hle h | replace h := (Mem.upd_none h).2)
  refine o_storew rfl (by repeat first | exact Mem.upd_self _ _ _ | assumption | refine Mem.upd_ne (by assumption) ?_) (by first | exact e_agg rfl | rfl) rfl sz23 rfl rfl rfl rfl ?_
  refine o_q (q_as (v_raw rfl)) rfl rfl rfl ?_
  refine o_nil ?_
  refine s_seq ?_
  refine s_region ?_
  refine o_q (q_ldmw ag23 sz23 rfl (by repeat first | exact Mem.upd_self _ _ _ | assumption | refine Mem.upd_ne (by assumption) ?_) rfl rfl) rfl rfl rfl ?_
  refine o_q (q_ldmw ag23 sz23 rfl (by repeat first | exact Mem.upd_self _ _ _ | assumption | refine Mem.upd_ne (by assumption) ?_) rfl rfl) rfl rfl rfl ?_
  refine o_call (snd18r x y _ hx hy) goes18 (ac (v_agg rfl) (ac (v_agg rfl) ac_nil)) rfl ?_
  refine o_q (q_mv (v_tup rfl)) rfl rfl rfl ?_
  refine o_q (q_ext rfl rfl (v_agg rfl)) rfl rfl rfl ?_
  refine o_q (q_ext rfl rfl (v_raw rfl)) rfl rfl rfl ?_
  refine o_alloc zc23 (fun B4 hB4 => ?_)
  have f1_4 : B1 ≠ B4 := Mem.fresh_ne hB4 (by repeat first | exact Mem.upd_self _ _ _ | assumption | refine Mem.upd_ne (by assumption) ?_)
  have g4_1 : B4 ≠ B1 := f1_4.symm
  have f2_4 : B2 ≠ B4 := Mem.fresh_ne hB4 (by repeat first | exact Mem.upd_self _ _ _ | assumption | refine Mem.upd_ne (by assumption) ?_)
  have g4_2 : B4 ≠ B2 := f2_4.symm
  have f3_4 : B3 ≠ B4 := Mem.fresh_ne hB4 (by repeat first | exact Mem.upd_self _ _ _ | assumption | refine Mem.upd_ne (by assumption) ?_)
  have g4_3 : B4 ≠ B3 := f3_4.symm
  have m4 : M B4 = none := by have h := hB4; repeat (first | exact h | exact Mem.none_of_le hle h | replace h := (Mem.upd_none h).2)
  refine o_storew rfl (by repeat first | exact Mem.upd_self _ _ _ | assumption | refine Mem.upd_ne (by assumption) ?_) (by first | exact e_agg rfl | rfl) rfl sz23 rfl rfl rfl rfl ?_
  refine o_q (q_as (v_raw rfl)) rfl rfl rfl ?_
  refine o_nil ?_
  refine s_seq ?_
  refine s_region ?_
  refine o_q (q_ldmw ag23 sz23 rfl (by repeat first | exact Mem.upd_self _ _ _ | assumption | refine Mem.upd_ne (by assumption) ?_) rfl rfl) rfl rfl rfl ?_
  refine o_q (q_ldmw ag23 sz23 rfl (by repeat first | exact Mem.upd_self _ _ _ | assumption | refine Mem.upd_ne (by assumption) ?_) rfl rfl) rfl rfl rfl ?_
  refine o_call (snd14r x y _ hx hy) goes14 (ac (v_agg rfl) (ac (v_agg rfl) ac_nil)) rfl ?_
  refine o_q (q_mv (v_tup rfl)) rfl rfl rfl ?_
  refine o_q (q_ext rfl rfl (v_agg rfl)) rfl rfl rfl ?_
  refine o_q (q_ext rfl rfl (v_raw rfl)) rfl rfl rfl ?_
  refine o_alloc zc23 (fun B5 hB5 => ?_)
  have f1_5 : B1 ≠ B5 := Mem.fresh_ne hB5 (by repeat first | exact Mem.upd_self _ _ _ | assumption | refine Mem.upd_ne (by assumption) ?_)
  have g5_1 : B5 ≠ B1 := f1_5.symm
  have f2_5 : B2 ≠ B5 := Mem.fresh_ne hB5 (by repeat first | exact Mem.upd_self _ _ _ | assumption | refine Mem.upd_ne (by assumption) ?_)
  have g5_2 : B5 ≠ B2 := f2_5.symm
  have f3_5 : B3 ≠ B5 := Mem.fresh_ne hB5 (by repeat first | exact Mem.upd_self _ _ _ | assumption | refine Mem.upd_ne (by assumption) ?_)
  have g5_3 : B5 ≠ B3 := f3_5.symm
  have f4_5 : B4 ≠ B5 := Mem.fresh_ne hB5 (by repeat first | exact Mem.upd_self _ _ _ | assumption | refine Mem.upd_ne (by assumption) ?_)
  have g5_4 : B5 ≠ B4 := f4_5.symm
  have m5 : M B5 = none := by have h := hB5; repeat (first | exact h | exact Mem.none_of_le hle h | replace h := (Mem.upd_none h).2)
  refine o_storew rfl (by repeat first | exact Mem.upd_self _ _ _ | assumption | refine Mem.upd_ne (by assumption) ?_) (by first | exact e_agg rfl | rfl) rfl sz23 rfl rfl rfl rfl ?_
  refine o_q (q_as (v_raw rfl)) rfl rfl rfl ?_
  refine o_nil ?_
  refine s_seq ?_
  refine s_draw rfl ?_
  refine d_q rfl (q_ldmw ag23 sz23 rfl (by repeat first | exact Mem.upd_self _ _ _ | assumption | refine Mem.upd_ne (by assumption) ?_) rfl rfl) rfl rfl rfl ?_
  refine d_q rfl (q_mv (v_raw rfl)) rfl rfl rfl ?_
  refine d_q rfl (q_ldmw ag23 sz23 rfl (by repeat first | exact Mem.upd_self _ _ _ | assumption | refine Mem.upd_ne (by assumption) ?_) rfl rfl) rfl rfl rfl ?_
  refine d_q rfl (q_ldmw ag23 sz23 rfl (by repeat first | exact Mem.upd_self _ _ _ | assumption | refine Mem.upd_ne (by assumption) ?_) rfl rfl) rfl rfl rfl ?_
  refine d_q rfl (q_mv (v_raw rfl)) rfl rfl rfl ?_
  refine d_s rfl ?_
  refine o_call ((snd20 x y _).det) goes20 (ac (v_agg rfl) (ac (v_agg rfl) ac_nil)) rfl ?_
  refine o_nil ⟨(by simp [Mem.upd, *]), ?_⟩
  refine d_s rfl ?_
  refine o_call (told_s _ (told_eq (addW_eq hx (by omega) (by omega)).symm)) goes19 (ac (v_agg rfl) (ac (v_raw rfl) (ac (v_agg rfl) (ac (v_raw rfl) ac_nil)))) rfl ?_
  refine o_nil ⟨(by simp [Mem.upd, *]), ?_⟩
  refine d_q rfl (q_as (v_raw rfl)) rfl rfl rfl ?_
  refine d_nil ?_
  refine s_seq ?_
  refine s_draw rfl ?_
  refine d_q rfl (q_ldmw ag23 sz23 rfl (by repeat first | exact Mem.upd_self _ _ _ | assumption | refine Mem.upd_ne (by assumption) ?_) rfl rfl) rfl rfl rfl ?_
  refine d_q rfl (q_mv (v_raw rfl)) rfl rfl rfl ?_
  refine d_q rfl (q_ldmw ag23 sz23 rfl (by repeat first | exact Mem.upd_self _ _ _ | assumption | refine Mem.upd_ne (by assumption) ?_) rfl rfl) rfl rfl rfl ?_
  refine d_q rfl (q_ldmw ag23 sz23 rfl (by repeat first | exact Mem.upd_self _ _ _ | assumption | refine Mem.upd_ne (by assumption) ?_) rfl rfl) rfl rfl rfl ?_
  refine d_q rfl (q_mv (v_raw rfl)) rfl rfl rfl ?_
  refine d_s rfl ?_
  refine o_call ((snd21 x y _).det) goes21 (ac (v_agg rfl) (ac (v_agg rfl) ac_nil)) rfl ?_
  refine o_nil ⟨(by simp [Mem.upd, *]), ?_⟩
  refine d_s rfl ?_
  refine o_call (told_s _ (told_eq (subW_eq hx hy).symm)) goes19 (ac (v_agg rfl) (ac (v_raw rfl) (ac (v_agg rfl) (ac (v_raw rfl) ac_nil)))) rfl ?_
  refine o_nil ⟨(by simp [Mem.upd, *]), ?_⟩
  refine d_q rfl (q_as (v_raw rfl)) rfl rfl rfl ?_
  refine d_nil ?_
  refine s_seq ?_
  refine s_draw rfl ?_
  refine d_q rfl (q_mv (v_raw rfl)) rfl rfl rfl ?_
  refine d_q rfl (q_mv (v_raw rfl)) rfl rfl rfl ?_
  refine d_yes rfl (q_ldmw ag23 sz23 rfl (by repeat first | exact Mem.upd_self _ _ _ | assumption | refine Mem.upd_ne (by assumption) ?_) rfl rfl) rfl rfl rfl rfl rfl rfl ?_
  refine d_yes rfl (q_mv (v_raw rfl)) rfl rfl rfl rfl rfl rfl ?_
  refine d_yes rfl (q_ldmw ag23 sz23 rfl (by repeat first | exact Mem.upd_self _ _ _ | assumption | refine Mem.upd_ne (by assumption) ?_) rfl rfl) rfl rfl rfl rfl rfl rfl ?_
  refine d_yes rfl (q_ldmw ag23 sz23 rfl (by repeat first | exact Mem.upd_self _ _ _ | assumption | refine Mem.upd_ne (by assumption) ?_) rfl rfl) rfl rfl rfl rfl rfl rfl ?_
  refine d_s rfl ?_
  refine o_yes rfl rfl rfl rfl ?_
  refine o_call ((snd22 x y _ hx hy).det) goes22 (ac (v_agg rfl) (ac (v_agg rfl) ac_nil)) rfl ?_
  refine o_nil ⟨(by simp [Mem.upd, *]), ?_⟩
  refine d_s rfl ?_
  refine o_yes rfl rfl rfl rfl ?_
  refine o_call (told_s _ (told_eq rfl)) goes19 (ac (v_agg rfl) (ac (v_raw rfl) (ac (v_agg rfl) (ac (v_raw rfl) ac_nil)))) rfl ?_
  refine o_nil ⟨(by simp [Mem.upd, *]), ?_⟩
  refine d_q rfl (q_pick_c (t := true) rfl rfl (v_raw rfl)) rfl rfl rfl ?_
  refine d_q rfl (q_mv (v_raw rfl)) rfl rfl rfl ?_
  refine d_no rfl rfl rfl rfl rfl rfl ?_
  refine d_no rfl rfl rfl rfl rfl rfl ?_
  refine d_no rfl rfl rfl rfl rfl rfl ?_
  refine d_skip rfl rfl rfl rfl rfl ?_
  refine d_skip rfl rfl rfl rfl rfl ?_
  refine d_skip rfl rfl rfl rfl rfl ?_
  refine d_s rfl ?_
  refine o_skip rfl rfl rfl rfl ?_
  refine o_nil ⟨(by simp [Mem.upd, *]), ?_⟩
  refine d_no rfl rfl rfl rfl rfl rfl ?_
  refine d_q rfl (q_pick_c (t := true) rfl rfl (v_raw rfl)) rfl rfl rfl ?_
  refine d_q rfl (q_as (v_raw rfl)) rfl rfl rfl ?_
  refine d_nil ?_
  refine s_seq ?_
  refine s_draw rfl ?_
  refine d_q rfl (q_mv (v_raw rfl)) rfl rfl rfl ?_
  refine d_q rfl (q_mv (v_raw rfl)) rfl rfl rfl ?_
  refine d_yes rfl (q_mv (v_raw rfl)) rfl rfl rfl rfl rfl rfl ?_
  refine d_q rfl (q_pick_c (t := true) rfl rfl (v_raw rfl)) rfl rfl rfl ?_
  refine d_q rfl (q_mv (v_raw rfl)) rfl rfl rfl ?_
  refine d_yes rfl (q_mv (v_raw rfl)) rfl rfl rfl rfl rfl rfl ?_
  refine d_q rfl (q_pick_c (t := true) rfl rfl (v_raw rfl)) rfl rfl rfl ?_
  refine d_q rfl (q_mv (v_raw rfl)) rfl rfl rfl ?_
  refine d_yes rfl (q_mv (v_raw rfl)) rfl rfl rfl rfl rfl rfl ?_
  refine d_q rfl (q_pick_c (t := true) rfl rfl (v_raw rfl)) rfl rfl rfl ?_
  refine d_q rfl (q_mv (v_raw rfl)) rfl rfl rfl ?_
  refine d_yes rfl (q_ldmw ag23 sz23 rfl (by repeat first | exact Mem.upd_self _ _ _ | assumption | refine Mem.upd_ne (by assumption) ?_) rfl rfl) rfl rfl rfl rfl rfl rfl ?_
  refine d_yes rfl (q_ldmw ag23 sz23 rfl (by repeat first | exact Mem.upd_self _ _ _ | assumption | refine Mem.upd_ne (by assumption) ?_) rfl rfl) rfl rfl rfl rfl rfl rfl ?_
  refine d_s rfl ?_
  refine o_yes rfl rfl rfl rfl ?_
  refine o_call (right_t' _ hx) goes23 (ac (v_agg rfl) ac_nil) rfl ?_
  refine o_nil ⟨(by simp [Mem.upd, *]), ?_⟩
  refine d_s rfl ?_
  refine o_yes rfl rfl rfl rfl ?_
  refine o_call (right_t _ hx) goes16 (ac (v_agg rfl) ac_nil) rfl ?_
  refine o_nil ⟨(by simp [Mem.upd, *]), ?_⟩
  refine d_yes rfl (q_beql und4 rfl rfl) rfl rfl rfl rfl rfl rfl ?_
  refine d_q rfl (q_pick_c (t := true) rfl rfl (v_raw rfl)) rfl rfl rfl ?_
  refine d_q rfl (q_as (v_raw rfl)) rfl rfl rfl ?_
  refine d_nil ?_
  refine s_ret ?_
  refine s_end ?_
  exact ⟨congrArg (fun b => AVal.raw (.bool b)) (by simp), (by repeat first | exact hle | exact Mem.le_refl M | assumption | exact Mem.none_of_le hle (by assumption) | refine Mem.le_upd ?_ ?_)⟩

-- carillon/carillonlaw03.GaussReckons params ['api.Pair', 'api.Pair'] results [['t', 4]] own [] names ['0:a', '1:b', '2:a', '3:b', '5:head', '6:right', '7:x', '8:e', '9:y', '10:f', '11:z', '12:g', '13:one', '14:two', '15:three'] calls [11, 14, 16, 17, 18, 19, 20, 21, 23] paths 1
set_option maxHeartbeats 4000000 in
set_option maxRecDepth 20000 in
theorem snd5b (x y : Pr) (M : Mem) (hx : right x = true) (hy : right y = false) : SoundCall Try.prog 5 [encP x, encP y] M fun r M' => r = .raw (.bool true) ∧ M.le M' := by
  refine SoundCall.go tk5 pl5 mixed Try.func5 cb5 rfl (Nat.le_of_ble_eq_true rfl) ?_
  refine s_seq ?_
  refine s_region ?_
  refine o_box (by first | exact e_raw rfl | exact e_agg rfl | exact e_sl rfl) rfl rfl (fun B1 hB1 => ?_)
  have m1 : M B1 = none := by have h := hB1; repeat (first | exact h | exact Mem.none_of_le hle h | replace h := (Mem.upd_none h).2)
  refine o_box (by first | exact e_raw rfl | exact e_agg rfl | exact e_sl rfl) rfl rfl (fun B2 hB2 => ?_)
  have f1_2 : B1 ≠ B2 := Mem.fresh_ne hB2 (by repeat first | exact Mem.upd_self _ _ _ | assumption | refine Mem.upd_ne (by assumption) ?_)
  have g2_1 : B2 ≠ B1 := f1_2.symm
  have m2 : M B2 = none := by have h := hB2; repeat (first | exact h | exact Mem.none_of_le hle h | replace h := (Mem.upd_none h).2)
  refine o_q (q_as (v_raw rfl)) rfl rfl rfl ?_
  refine o_nil ?_
  refine s_seq ?_
  refine s_region ?_
  refine o_call ((snd11 _).det) goes11 ac_nil rfl ?_
  refine o_q (q_as (v_raw rfl)) rfl rfl rfl ?_
  refine o_nil ?_
  refine s_seq ?_
  refine s_region ?_
  refine o_q (q_ldmw ag23 sz23 rfl (by repeat first | exact Mem.upd_self _ _ _ | assumption | refine Mem.upd_ne (by assumption) ?_) rfl rfl) rfl rfl rfl ?_
  refine o_call (right_t _ hx) goes16 (ac (v_agg rfl) ac_nil) rfl ?_
  refine o_q (q_mv (v_raw rfl)) rfl rfl rfl ?_
  refine o_yes rfl rfl rfl rfl ?_
  refine o_q (q_ldmw ag23 sz23 rfl (by repeat first | exact Mem.upd_self _ _ _ | assumption | refine Mem.upd_ne (by assumption) ?_) rfl rfl) rfl rfl rfl ?_
  refine o_yes rfl rfl rfl rfl ?_
  refine o_call (right_t _ hy) goes16 (ac (v_agg rfl) ac_nil) rfl ?_
  refine o_q (q_pick_c (t := true) rfl rfl (v_raw rfl)) rfl rfl rfl ?_
  refine o_q (q_as (v_raw rfl)) rfl rfl rfl ?_
  refine o_nil ?_
  refine s_seq ?_
  refine s_region ?_
  refine o_q (q_ldmw ag23 sz23 rfl (by repeat first | exact Mem.upd_self _ _ _ | assumption | refine Mem.upd_ne (by assumption) ?_) rfl rfl) rfl rfl rfl ?_
  refine o_q (q_ldmw ag23 sz23 rfl (by repeat first | exact Mem.upd_self _ _ _ | assumption | refine Mem.upd_ne (by assumption) ?_) rfl rfl) rfl rfl rfl ?_
  refine o_call (snd17f x y _ (by simp [hx, hy])) goes17 (ac (v_agg rfl) (ac (v_agg rfl) ac_nil)) rfl ?_
  refine o_q (q_mv (v_tup rfl)) rfl rfl rfl ?_
  refine o_q (q_ext rfl rfl (v_agg rfl)) rfl rfl rfl ?_
  refine o_q (q_ext rfl rfl (v_raw rfl)) rfl rfl rfl ?_
  refine o_alloc zc23 (fun B3 hB3 => ?_)
  have f1_3 : B1 ≠ B3 := Mem.fresh_ne hB3 (by repeat first | exact Mem.upd_self _ _ _ | assumption | refine Mem.upd_ne (by assumption) ?_)
  have g3_1 : B3 ≠ B1 := f1_3.symm
  have f2_3 : B2 ≠ B3 := Mem.fresh_ne hB3 (by repeat first | exact Mem.upd_self _ _ _ | assumption | refine Mem.upd_ne (by assumption) ?_)
  have g3_2 : B3 ≠ B2 := f2_3.symm
  have m3 : M B3 = none := by have h := hB3; repeat (first | exact h | exact Mem.none_of_le hle h | replace h := (Mem.upd_none h).2)
  refine o_storew rfl (by repeat first | exact Mem.upd_self _ _ _ | assumption | refine Mem.upd_ne (by assumption) ?_) (by first | exact e_agg rfl | rfl) rfl sz23 rfl rfl rfl rfl ?_
  refine o_q (q_as (v_raw rfl)) rfl rfl rfl ?_
  refine o_nil ?_
  refine s_seq ?_
  refine s_region ?_
  refine o_q (q_ldmw ag23 sz23 rfl (by repeat first | exact Mem.upd_self _ _ _ | assumption | refine Mem.upd_ne (by assumption) ?_) rfl rfl) rfl rfl rfl ?_
  refine o_q (q_ldmw ag23 sz23 rfl (by repeat first | exact Mem.upd_self _ _ _ | assumption | refine Mem.upd_ne (by assumption) ?_) rfl rfl) rfl rfl rfl ?_
  refine o_call (snd18f x y _ (by simp [hx, hy])) goes18 (ac (v_agg rfl) (ac (v_agg rfl) ac_nil)) rfl ?_
  refine o_q (q_mv (v_tup rfl)) rfl rfl rfl ?_
  refine o_q (q_ext rfl rfl (v_agg rfl)) rfl rfl rfl ?_
  refine o_q (q_ext rfl rfl (v_raw rfl)) rfl rfl rfl ?_
  refine o_alloc zc23 (fun B4 hB4 => ?_)
  have f1_4 : B1 ≠ B4 := Mem.fresh_ne hB4 (by repeat first | exact Mem.upd_self _ _ _ | assumption | refine Mem.upd_ne (by assumption) ?_)
  have g4_1 : B4 ≠ B1 := f1_4.symm
  have f2_4 : B2 ≠ B4 := Mem.fresh_ne hB4 (by repeat first | exact Mem.upd_self _ _ _ | assumption | refine Mem.upd_ne (by assumption) ?_)
  have g4_2 : B4 ≠ B2 := f2_4.symm
  have f3_4 : B3 ≠ B4 := Mem.fresh_ne hB4 (by repeat first | exact Mem.upd_self _ _ _ | assumption | refine Mem.upd_ne (by assumption) ?_)
  have g4_3 : B4 ≠ B3 := f3_4.symm
  have m4 : M B4 = none := by have h := hB4; repeat (first | exact h | exact Mem.none_of_le hle h | replace h := (Mem.upd_none h).2)
  refine o_storew rfl (by repeat first | exact Mem.upd_self _ _ _ | assumption | refine Mem.upd_ne (by assumption) ?_) (by first | exact e_agg rfl | rfl) rfl sz23 rfl rfl rfl rfl ?_
  refine o_q (q_as (v_raw rfl)) rfl rfl rfl ?_
  refine o_nil ?_
  refine s_seq ?_
  refine s_region ?_
  refine o_q (q_ldmw ag23 sz23 rfl (by repeat first | exact Mem.upd_self _ _ _ | assumption | refine Mem.upd_ne (by assumption) ?_) rfl rfl) rfl rfl rfl ?_
  refine o_q (q_ldmw ag23 sz23 rfl (by repeat first | exact Mem.upd_self _ _ _ | assumption | refine Mem.upd_ne (by assumption) ?_) rfl rfl) rfl rfl rfl ?_
  refine o_call (snd14f x y _ (by simp [hx, hy])) goes14 (ac (v_agg rfl) (ac (v_agg rfl) ac_nil)) rfl ?_
  refine o_q (q_mv (v_tup rfl)) rfl rfl rfl ?_
  refine o_q (q_ext rfl rfl (v_agg rfl)) rfl rfl rfl ?_
  refine o_q (q_ext rfl rfl (v_raw rfl)) rfl rfl rfl ?_
  refine o_alloc zc23 (fun B5 hB5 => ?_)
  have f1_5 : B1 ≠ B5 := Mem.fresh_ne hB5 (by repeat first | exact Mem.upd_self _ _ _ | assumption | refine Mem.upd_ne (by assumption) ?_)
  have g5_1 : B5 ≠ B1 := f1_5.symm
  have f2_5 : B2 ≠ B5 := Mem.fresh_ne hB5 (by repeat first | exact Mem.upd_self _ _ _ | assumption | refine Mem.upd_ne (by assumption) ?_)
  have g5_2 : B5 ≠ B2 := f2_5.symm
  have f3_5 : B3 ≠ B5 := Mem.fresh_ne hB5 (by repeat first | exact Mem.upd_self _ _ _ | assumption | refine Mem.upd_ne (by assumption) ?_)
  have g5_3 : B5 ≠ B3 := f3_5.symm
  have f4_5 : B4 ≠ B5 := Mem.fresh_ne hB5 (by repeat first | exact Mem.upd_self _ _ _ | assumption | refine Mem.upd_ne (by assumption) ?_)
  have g5_4 : B5 ≠ B4 := f4_5.symm
  have m5 : M B5 = none := by have h := hB5; repeat (first | exact h | exact Mem.none_of_le hle h | replace h := (Mem.upd_none h).2)
  refine o_storew rfl (by repeat first | exact Mem.upd_self _ _ _ | assumption | refine Mem.upd_ne (by assumption) ?_) (by first | exact e_agg rfl | rfl) rfl sz23 rfl rfl rfl rfl ?_
  refine o_q (q_as (v_raw rfl)) rfl rfl rfl ?_
  refine o_nil ?_
  refine s_seq ?_
  refine s_draw rfl ?_
  refine d_q rfl (q_ldmw ag23 sz23 rfl (by repeat first | exact Mem.upd_self _ _ _ | assumption | refine Mem.upd_ne (by assumption) ?_) rfl rfl) rfl rfl rfl ?_
  refine d_q rfl (q_mv (v_raw rfl)) rfl rfl rfl ?_
  refine d_q rfl (q_ldmw ag23 sz23 rfl (by repeat first | exact Mem.upd_self _ _ _ | assumption | refine Mem.upd_ne (by assumption) ?_) rfl rfl) rfl rfl rfl ?_
  refine d_q rfl (q_ldmw ag23 sz23 rfl (by repeat first | exact Mem.upd_self _ _ _ | assumption | refine Mem.upd_ne (by assumption) ?_) rfl rfl) rfl rfl rfl ?_
  refine d_q rfl (q_mv (v_raw rfl)) rfl rfl rfl ?_
  refine d_s rfl ?_
  refine o_call ((snd20 x y _).det) goes20 (ac (v_agg rfl) (ac (v_agg rfl) ac_nil)) rfl ?_
  refine o_nil ⟨(by simp [Mem.upd, *]), ?_⟩
  refine d_s rfl ?_
  refine o_call (told_s _ (told_no _)) goes19 (ac (v_agg rfl) (ac (v_raw rfl) (ac (v_agg rfl) (ac (v_raw rfl) ac_nil)))) rfl ?_
  refine o_nil ⟨(by simp [Mem.upd, *]), ?_⟩
  refine d_q rfl (q_as (v_raw rfl)) rfl rfl rfl ?_
  refine d_nil ?_
  refine s_seq ?_
  refine s_draw rfl ?_
  refine d_q rfl (q_ldmw ag23 sz23 rfl (by repeat first | exact Mem.upd_self _ _ _ | assumption | refine Mem.upd_ne (by assumption) ?_) rfl rfl) rfl rfl rfl ?_
  refine d_q rfl (q_mv (v_raw rfl)) rfl rfl rfl ?_
  refine d_q rfl (q_ldmw ag23 sz23 rfl (by repeat first | exact Mem.upd_self _ _ _ | assumption | refine Mem.upd_ne (by assumption) ?_) rfl rfl) rfl rfl rfl ?_
  refine d_q rfl (q_ldmw ag23 sz23 rfl (by repeat first | exact Mem.upd_self _ _ _ | assumption | refine Mem.upd_ne (by assumption) ?_) rfl rfl) rfl rfl rfl ?_
  refine d_q rfl (q_mv (v_raw rfl)) rfl rfl rfl ?_
  refine d_s rfl ?_
  refine o_call ((snd21 x y _).det) goes21 (ac (v_agg rfl) (ac (v_agg rfl) ac_nil)) rfl ?_
  refine o_nil ⟨(by simp [Mem.upd, *]), ?_⟩
  refine d_s rfl ?_
  refine o_call (told_s _ (told_no _)) goes19 (ac (v_agg rfl) (ac (v_raw rfl) (ac (v_agg rfl) (ac (v_raw rfl) ac_nil)))) rfl ?_
  refine o_nil ⟨(by simp [Mem.upd, *]), ?_⟩
  refine d_q rfl (q_as (v_raw rfl)) rfl rfl rfl ?_
  refine d_nil ?_
  refine s_seq ?_
  refine s_draw rfl ?_
  refine d_q rfl (q_mv (v_raw rfl)) rfl rfl rfl ?_
  refine d_q rfl (q_mv (v_raw rfl)) rfl rfl rfl ?_
  refine d_no rfl rfl rfl rfl rfl rfl ?_
  refine d_no rfl rfl rfl rfl rfl rfl ?_
  refine d_no rfl rfl rfl rfl rfl rfl ?_
  refine d_no rfl rfl rfl rfl rfl rfl ?_
  refine d_s rfl ?_
  refine o_no rfl rfl rfl rfl rfl ?_
  refine o_nil ⟨(by simp [Mem.upd, *]), ?_⟩
  refine d_s rfl ?_
  refine o_no rfl rfl rfl rfl rfl ?_
  refine o_nil ⟨(by simp [Mem.upd, *]), ?_⟩
  refine d_q rfl (q_pick_c (t := false) rfl rfl (v_raw rfl)) rfl rfl rfl ?_
  refine d_q rfl (q_mv (v_raw rfl)) rfl rfl rfl ?_
  refine d_yes rfl (q_mv (v_raw rfl)) rfl rfl rfl rfl rfl rfl ?_
  refine d_yes rfl (q_not rfl) rfl rfl rfl rfl rfl rfl ?_
  refine d_yes rfl (q_mv (v_raw rfl)) rfl rfl rfl rfl rfl rfl ?_
  refine d_yes rfl (q_ldmw ag23 sz23 rfl (by repeat first | exact Mem.upd_self _ _ _ | assumption | refine Mem.upd_ne (by assumption) ?_) rfl rfl) rfl rfl rfl rfl rfl rfl ?_
  refine d_yes rfl (q_mv (v_raw rfl)) rfl rfl rfl rfl rfl rfl ?_
  refine d_yes rfl (q_b (cs := [.raw (.int .i64 0), .raw (.int .i64 0)]) bz23 bp23 bf_nil) rfl rfl rfl rfl rfl rfl ?_
  refine d_s rfl ?_
  refine o_yes rfl rfl rfl rfl ?_
  refine o_call (told_s (b := ⟨0, 0⟩) _ (told_no _)) goes19 (ac (v_agg rfl) (ac (v_raw rfl) (ac (v_agg rfl) (ac (v_raw rfl) ac_nil)))) rfl ?_
  refine o_nil ⟨(by simp [Mem.upd, *]), ?_⟩
  refine d_yes rfl (q_pick_c (t := true) rfl rfl (v_raw rfl)) rfl rfl rfl rfl rfl rfl ?_
  refine d_q rfl (q_pick_c (t := false) rfl rfl (v_raw rfl)) rfl rfl rfl ?_
  refine d_q rfl (q_as (v_raw rfl)) rfl rfl rfl ?_
  refine d_nil ?_
  refine s_seq ?_
  refine s_draw rfl ?_
  refine d_q rfl (q_mv (v_raw rfl)) rfl rfl rfl ?_
  refine d_q rfl (q_mv (v_raw rfl)) rfl rfl rfl ?_
  refine d_yes rfl (q_mv (v_raw rfl)) rfl rfl rfl rfl rfl rfl ?_
  refine d_q rfl (q_pick_c (t := true) rfl rfl (v_raw rfl)) rfl rfl rfl ?_
  refine d_q rfl (q_mv (v_raw rfl)) rfl rfl rfl ?_
  refine d_yes rfl (q_mv (v_raw rfl)) rfl rfl rfl rfl rfl rfl ?_
  refine d_q rfl (q_pick_c (t := true) rfl rfl (v_raw rfl)) rfl rfl rfl ?_
  refine d_q rfl (q_mv (v_raw rfl)) rfl rfl rfl ?_
  refine d_yes rfl (q_mv (v_raw rfl)) rfl rfl rfl rfl rfl rfl ?_
  refine d_q rfl (q_pick_c (t := true) rfl rfl (v_raw rfl)) rfl rfl rfl ?_
  refine d_q rfl (q_mv (v_raw rfl)) rfl rfl rfl ?_
  refine d_yes rfl (q_ldmw ag23 sz23 rfl (by repeat first | exact Mem.upd_self _ _ _ | assumption | refine Mem.upd_ne (by assumption) ?_) rfl rfl) rfl rfl rfl rfl rfl rfl ?_
  refine d_yes rfl (q_ldmw ag23 sz23 rfl (by repeat first | exact Mem.upd_self _ _ _ | assumption | refine Mem.upd_ne (by assumption) ?_) rfl rfl) rfl rfl rfl rfl rfl rfl ?_
  refine d_s rfl ?_
  refine o_yes rfl rfl rfl rfl ?_
  refine o_call (right_t' _ hx) goes23 (ac (v_agg rfl) ac_nil) rfl ?_
  refine o_nil ⟨(by simp [Mem.upd, *]), ?_⟩
  refine d_s rfl ?_
  refine o_yes rfl rfl rfl rfl ?_
  refine o_call (right_t _ hx) goes16 (ac (v_agg rfl) ac_nil) rfl ?_
  refine o_nil ⟨(by simp [Mem.upd, *]), ?_⟩
  refine d_yes rfl (q_beql und4 rfl rfl) rfl rfl rfl rfl rfl rfl ?_
  refine d_q rfl (q_pick_c (t := true) rfl rfl (v_raw rfl)) rfl rfl rfl ?_
  refine d_q rfl (q_as (v_raw rfl)) rfl rfl rfl ?_
  refine d_nil ?_
  refine s_ret ?_
  refine s_end ?_
  exact ⟨congrArg (fun b => AVal.raw (.bool b)) (by simp), (by repeat first | exact hle | exact Mem.le_refl M | assumption | exact Mem.none_of_le hle (by assumption) | refine Mem.le_upd ?_ ?_)⟩

-- carillon/carillonlaw03.GaussReckons params ['api.Pair', 'api.Pair'] results [['t', 4]] own [] names ['0:a', '1:b', '2:a', '3:b', '5:head', '6:right', '7:x', '8:e', '9:y', '10:f', '11:z', '12:g', '13:one', '14:two', '15:three'] calls [11, 14, 16, 17, 18, 19, 20, 21, 23] paths 1
set_option maxHeartbeats 4000000 in
set_option maxRecDepth 20000 in
theorem snd5c (x y : Pr) (M : Mem) (hx : right x = false) : SoundCall Try.prog 5 [encP x, encP y] M fun r M' => r = .raw (.bool true) ∧ M.le M' := by
  refine SoundCall.go tk5 pl5 mixed Try.func5 cb5 rfl (Nat.le_of_ble_eq_true rfl) ?_
  refine s_seq ?_
  refine s_region ?_
  refine o_box (by first | exact e_raw rfl | exact e_agg rfl | exact e_sl rfl) rfl rfl (fun B1 hB1 => ?_)
  have m1 : M B1 = none := by have h := hB1; repeat (first | exact h | exact Mem.none_of_le hle h | replace h := (Mem.upd_none h).2)
  refine o_box (by first | exact e_raw rfl | exact e_agg rfl | exact e_sl rfl) rfl rfl (fun B2 hB2 => ?_)
  have f1_2 : B1 ≠ B2 := Mem.fresh_ne hB2 (by repeat first | exact Mem.upd_self _ _ _ | assumption | refine Mem.upd_ne (by assumption) ?_)
  have g2_1 : B2 ≠ B1 := f1_2.symm
  have m2 : M B2 = none := by have h := hB2; repeat (first | exact h | exact Mem.none_of_le hle h | replace h := (Mem.upd_none h).2)
  refine o_q (q_as (v_raw rfl)) rfl rfl rfl ?_
  refine o_nil ?_
  refine s_seq ?_
  refine s_region ?_
  refine o_call ((snd11 _).det) goes11 ac_nil rfl ?_
  refine o_q (q_as (v_raw rfl)) rfl rfl rfl ?_
  refine o_nil ?_
  refine s_seq ?_
  refine s_region ?_
  refine o_q (q_ldmw ag23 sz23 rfl (by repeat first | exact Mem.upd_self _ _ _ | assumption | refine Mem.upd_ne (by assumption) ?_) rfl rfl) rfl rfl rfl ?_
  refine o_call (right_t _ hx) goes16 (ac (v_agg rfl) ac_nil) rfl ?_
  refine o_q (q_mv (v_raw rfl)) rfl rfl rfl ?_
  refine o_no rfl rfl rfl rfl rfl ?_
  refine o_no rfl rfl rfl rfl rfl ?_
  refine o_q (q_pick_c (t := false) rfl rfl (v_raw rfl)) rfl rfl rfl ?_
  refine o_q (q_as (v_raw rfl)) rfl rfl rfl ?_
  refine o_nil ?_
  refine s_seq ?_
  refine s_region ?_
  refine o_q (q_ldmw ag23 sz23 rfl (by repeat first | exact Mem.upd_self _ _ _ | assumption | refine Mem.upd_ne (by assumption) ?_) rfl rfl) rfl rfl rfl ?_
  refine o_q (q_ldmw ag23 sz23 rfl (by repeat first | exact Mem.upd_self _ _ _ | assumption | refine Mem.upd_ne (by assumption) ?_) rfl rfl) rfl rfl rfl ?_
  refine o_call (snd17f x y _ (by simp [hx])) goes17 (ac (v_agg rfl) (ac (v_agg rfl) ac_nil)) rfl ?_
  refine o_q (q_mv (v_tup rfl)) rfl rfl rfl ?_
  refine o_q (q_ext rfl rfl (v_agg rfl)) rfl rfl rfl ?_
  refine o_q (q_ext rfl rfl (v_raw rfl)) rfl rfl rfl ?_
  refine o_alloc zc23 (fun B3 hB3 => ?_)
  have f1_3 : B1 ≠ B3 := Mem.fresh_ne hB3 (by repeat first | exact Mem.upd_self _ _ _ | assumption | refine Mem.upd_ne (by assumption) ?_)
  have g3_1 : B3 ≠ B1 := f1_3.symm
  have f2_3 : B2 ≠ B3 := Mem.fresh_ne hB3 (by repeat first | exact Mem.upd_self _ _ _ | assumption | refine Mem.upd_ne (by assumption) ?_)
  have g3_2 : B3 ≠ B2 := f2_3.symm
  have m3 : M B3 = none := by have h := hB3; repeat (first | exact h | exact Mem.none_of_le hle h | replace h := (Mem.upd_none h).2)
  refine o_storew rfl (by repeat first | exact Mem.upd_self _ _ _ | assumption | refine Mem.upd_ne (by assumption) ?_) (by first | exact e_agg rfl | rfl) rfl sz23 rfl rfl rfl rfl ?_
  refine o_q (q_as (v_raw rfl)) rfl rfl rfl ?_
  refine o_nil ?_
  refine s_seq ?_
  refine s_region ?_
  refine o_q (q_ldmw ag23 sz23 rfl (by repeat first | exact Mem.upd_self _ _ _ | assumption | refine Mem.upd_ne (by assumption) ?_) rfl rfl) rfl rfl rfl ?_
  refine o_q (q_ldmw ag23 sz23 rfl (by repeat first | exact Mem.upd_self _ _ _ | assumption | refine Mem.upd_ne (by assumption) ?_) rfl rfl) rfl rfl rfl ?_
  refine o_call (snd18f x y _ (by simp [hx])) goes18 (ac (v_agg rfl) (ac (v_agg rfl) ac_nil)) rfl ?_
  refine o_q (q_mv (v_tup rfl)) rfl rfl rfl ?_
  refine o_q (q_ext rfl rfl (v_agg rfl)) rfl rfl rfl ?_
  refine o_q (q_ext rfl rfl (v_raw rfl)) rfl rfl rfl ?_
  refine o_alloc zc23 (fun B4 hB4 => ?_)
  have f1_4 : B1 ≠ B4 := Mem.fresh_ne hB4 (by repeat first | exact Mem.upd_self _ _ _ | assumption | refine Mem.upd_ne (by assumption) ?_)
  have g4_1 : B4 ≠ B1 := f1_4.symm
  have f2_4 : B2 ≠ B4 := Mem.fresh_ne hB4 (by repeat first | exact Mem.upd_self _ _ _ | assumption | refine Mem.upd_ne (by assumption) ?_)
  have g4_2 : B4 ≠ B2 := f2_4.symm
  have f3_4 : B3 ≠ B4 := Mem.fresh_ne hB4 (by repeat first | exact Mem.upd_self _ _ _ | assumption | refine Mem.upd_ne (by assumption) ?_)
  have g4_3 : B4 ≠ B3 := f3_4.symm
  have m4 : M B4 = none := by have h := hB4; repeat (first | exact h | exact Mem.none_of_le hle h | replace h := (Mem.upd_none h).2)
  refine o_storew rfl (by repeat first | exact Mem.upd_self _ _ _ | assumption | refine Mem.upd_ne (by assumption) ?_) (by first | exact e_agg rfl | rfl) rfl sz23 rfl rfl rfl rfl ?_
  refine o_q (q_as (v_raw rfl)) rfl rfl rfl ?_
  refine o_nil ?_
  refine s_seq ?_
  refine s_region ?_
  refine o_q (q_ldmw ag23 sz23 rfl (by repeat first | exact Mem.upd_self _ _ _ | assumption | refine Mem.upd_ne (by assumption) ?_) rfl rfl) rfl rfl rfl ?_
  refine o_q (q_ldmw ag23 sz23 rfl (by repeat first | exact Mem.upd_self _ _ _ | assumption | refine Mem.upd_ne (by assumption) ?_) rfl rfl) rfl rfl rfl ?_
  refine o_call (snd14f x y _ (by simp [hx])) goes14 (ac (v_agg rfl) (ac (v_agg rfl) ac_nil)) rfl ?_
  refine o_q (q_mv (v_tup rfl)) rfl rfl rfl ?_
  refine o_q (q_ext rfl rfl (v_agg rfl)) rfl rfl rfl ?_
  refine o_q (q_ext rfl rfl (v_raw rfl)) rfl rfl rfl ?_
  refine o_alloc zc23 (fun B5 hB5 => ?_)
  have f1_5 : B1 ≠ B5 := Mem.fresh_ne hB5 (by repeat first | exact Mem.upd_self _ _ _ | assumption | refine Mem.upd_ne (by assumption) ?_)
  have g5_1 : B5 ≠ B1 := f1_5.symm
  have f2_5 : B2 ≠ B5 := Mem.fresh_ne hB5 (by repeat first | exact Mem.upd_self _ _ _ | assumption | refine Mem.upd_ne (by assumption) ?_)
  have g5_2 : B5 ≠ B2 := f2_5.symm
  have f3_5 : B3 ≠ B5 := Mem.fresh_ne hB5 (by repeat first | exact Mem.upd_self _ _ _ | assumption | refine Mem.upd_ne (by assumption) ?_)
  have g5_3 : B5 ≠ B3 := f3_5.symm
  have f4_5 : B4 ≠ B5 := Mem.fresh_ne hB5 (by repeat first | exact Mem.upd_self _ _ _ | assumption | refine Mem.upd_ne (by assumption) ?_)
  have g5_4 : B5 ≠ B4 := f4_5.symm
  have m5 : M B5 = none := by have h := hB5; repeat (first | exact h | exact Mem.none_of_le hle h | replace h := (Mem.upd_none h).2)
  refine o_storew rfl (by repeat first | exact Mem.upd_self _ _ _ | assumption | refine Mem.upd_ne (by assumption) ?_) (by first | exact e_agg rfl | rfl) rfl sz23 rfl rfl rfl rfl ?_
  refine o_q (q_as (v_raw rfl)) rfl rfl rfl ?_
  refine o_nil ?_
  refine s_seq ?_
  refine s_draw rfl ?_
  refine d_q rfl (q_ldmw ag23 sz23 rfl (by repeat first | exact Mem.upd_self _ _ _ | assumption | refine Mem.upd_ne (by assumption) ?_) rfl rfl) rfl rfl rfl ?_
  refine d_q rfl (q_mv (v_raw rfl)) rfl rfl rfl ?_
  refine d_q rfl (q_ldmw ag23 sz23 rfl (by repeat first | exact Mem.upd_self _ _ _ | assumption | refine Mem.upd_ne (by assumption) ?_) rfl rfl) rfl rfl rfl ?_
  refine d_q rfl (q_ldmw ag23 sz23 rfl (by repeat first | exact Mem.upd_self _ _ _ | assumption | refine Mem.upd_ne (by assumption) ?_) rfl rfl) rfl rfl rfl ?_
  refine d_q rfl (q_mv (v_raw rfl)) rfl rfl rfl ?_
  refine d_s rfl ?_
  refine o_call ((snd20 x y _).det) goes20 (ac (v_agg rfl) (ac (v_agg rfl) ac_nil)) rfl ?_
  refine o_nil ⟨(by simp [Mem.upd, *]), ?_⟩
  refine d_s rfl ?_
  refine o_call (told_s _ (told_no _)) goes19 (ac (v_agg rfl) (ac (v_raw rfl) (ac (v_agg rfl) (ac (v_raw rfl) ac_nil)))) rfl ?_
  refine o_nil ⟨(by simp [Mem.upd, *]), ?_⟩
  refine d_q rfl (q_as (v_raw rfl)) rfl rfl rfl ?_
  refine d_nil ?_
  refine s_seq ?_
  refine s_draw rfl ?_
  refine d_q rfl (q_ldmw ag23 sz23 rfl (by repeat first | exact Mem.upd_self _ _ _ | assumption | refine Mem.upd_ne (by assumption) ?_) rfl rfl) rfl rfl rfl ?_
  refine d_q rfl (q_mv (v_raw rfl)) rfl rfl rfl ?_
  refine d_q rfl (q_ldmw ag23 sz23 rfl (by repeat first | exact Mem.upd_self _ _ _ | assumption | refine Mem.upd_ne (by assumption) ?_) rfl rfl) rfl rfl rfl ?_
  refine d_q rfl (q_ldmw ag23 sz23 rfl (by repeat first | exact Mem.upd_self _ _ _ | assumption | refine Mem.upd_ne (by assumption) ?_) rfl rfl) rfl rfl rfl ?_
  refine d_q rfl (q_mv (v_raw rfl)) rfl rfl rfl ?_
  refine d_s rfl ?_
  refine o_call ((snd21 x y _).det) goes21 (ac (v_agg rfl) (ac (v_agg rfl) ac_nil)) rfl ?_
  refine o_nil ⟨(by simp [Mem.upd, *]), ?_⟩
  refine d_s rfl ?_
  refine o_call (told_s _ (told_no _)) goes19 (ac (v_agg rfl) (ac (v_raw rfl) (ac (v_agg rfl) (ac (v_raw rfl) ac_nil)))) rfl ?_
  refine o_nil ⟨(by simp [Mem.upd, *]), ?_⟩
  refine d_q rfl (q_as (v_raw rfl)) rfl rfl rfl ?_
  refine d_nil ?_
  refine s_seq ?_
  refine s_draw rfl ?_
  refine d_q rfl (q_mv (v_raw rfl)) rfl rfl rfl ?_
  refine d_q rfl (q_mv (v_raw rfl)) rfl rfl rfl ?_
  refine d_no rfl rfl rfl rfl rfl rfl ?_
  refine d_no rfl rfl rfl rfl rfl rfl ?_
  refine d_no rfl rfl rfl rfl rfl rfl ?_
  refine d_no rfl rfl rfl rfl rfl rfl ?_
  refine d_s rfl ?_
  refine o_no rfl rfl rfl rfl rfl ?_
  refine o_nil ⟨(by simp [Mem.upd, *]), ?_⟩
  refine d_s rfl ?_
  refine o_no rfl rfl rfl rfl rfl ?_
  refine o_nil ⟨(by simp [Mem.upd, *]), ?_⟩
  refine d_q rfl (q_pick_c (t := false) rfl rfl (v_raw rfl)) rfl rfl rfl ?_
  refine d_q rfl (q_mv (v_raw rfl)) rfl rfl rfl ?_
  refine d_yes rfl (q_mv (v_raw rfl)) rfl rfl rfl rfl rfl rfl ?_
  refine d_yes rfl (q_not rfl) rfl rfl rfl rfl rfl rfl ?_
  refine d_yes rfl (q_mv (v_raw rfl)) rfl rfl rfl rfl rfl rfl ?_
  refine d_yes rfl (q_ldmw ag23 sz23 rfl (by repeat first | exact Mem.upd_self _ _ _ | assumption | refine Mem.upd_ne (by assumption) ?_) rfl rfl) rfl rfl rfl rfl rfl rfl ?_
  refine d_yes rfl (q_mv (v_raw rfl)) rfl rfl rfl rfl rfl rfl ?_
  refine d_yes rfl (q_b (cs := [.raw (.int .i64 0), .raw (.int .i64 0)]) bz23 bp23 bf_nil) rfl rfl rfl rfl rfl rfl ?_
  refine d_s rfl ?_
  refine o_yes rfl rfl rfl rfl ?_
  refine o_call (told_s (b := ⟨0, 0⟩) _ (told_no _)) goes19 (ac (v_agg rfl) (ac (v_raw rfl) (ac (v_agg rfl) (ac (v_raw rfl) ac_nil)))) rfl ?_
  refine o_nil ⟨(by simp [Mem.upd, *]), ?_⟩
  refine d_yes rfl (q_pick_c (t := true) rfl rfl (v_raw rfl)) rfl rfl rfl rfl rfl rfl ?_
  refine d_q rfl (q_pick_c (t := false) rfl rfl (v_raw rfl)) rfl rfl rfl ?_
  refine d_q rfl (q_as (v_raw rfl)) rfl rfl rfl ?_
  refine d_nil ?_
  refine s_seq ?_
  refine s_draw rfl ?_
  refine d_q rfl (q_mv (v_raw rfl)) rfl rfl rfl ?_
  refine d_q rfl (q_mv (v_raw rfl)) rfl rfl rfl ?_
  refine d_yes rfl (q_mv (v_raw rfl)) rfl rfl rfl rfl rfl rfl ?_
  refine d_q rfl (q_pick_c (t := true) rfl rfl (v_raw rfl)) rfl rfl rfl ?_
  refine d_q rfl (q_mv (v_raw rfl)) rfl rfl rfl ?_
  refine d_yes rfl (q_mv (v_raw rfl)) rfl rfl rfl rfl rfl rfl ?_
  refine d_q rfl (q_pick_c (t := true) rfl rfl (v_raw rfl)) rfl rfl rfl ?_
  refine d_q rfl (q_mv (v_raw rfl)) rfl rfl rfl ?_
  refine d_yes rfl (q_mv (v_raw rfl)) rfl rfl rfl rfl rfl rfl ?_
  refine d_q rfl (q_pick_c (t := true) rfl rfl (v_raw rfl)) rfl rfl rfl ?_
  refine d_q rfl (q_mv (v_raw rfl)) rfl rfl rfl ?_
  refine d_yes rfl (q_ldmw ag23 sz23 rfl (by repeat first | exact Mem.upd_self _ _ _ | assumption | refine Mem.upd_ne (by assumption) ?_) rfl rfl) rfl rfl rfl rfl rfl rfl ?_
  refine d_yes rfl (q_ldmw ag23 sz23 rfl (by repeat first | exact Mem.upd_self _ _ _ | assumption | refine Mem.upd_ne (by assumption) ?_) rfl rfl) rfl rfl rfl rfl rfl rfl ?_
  refine d_s rfl ?_
  refine o_yes rfl rfl rfl rfl ?_
  refine o_call (right_t' _ hx) goes23 (ac (v_agg rfl) ac_nil) rfl ?_
  refine o_nil ⟨(by simp [Mem.upd, *]), ?_⟩
  refine d_s rfl ?_
  refine o_yes rfl rfl rfl rfl ?_
  refine o_call (right_t _ hx) goes16 (ac (v_agg rfl) ac_nil) rfl ?_
  refine o_nil ⟨(by simp [Mem.upd, *]), ?_⟩
  refine d_yes rfl (q_beql und4 rfl rfl) rfl rfl rfl rfl rfl rfl ?_
  refine d_q rfl (q_pick_c (t := true) rfl rfl (v_raw rfl)) rfl rfl rfl ?_
  refine d_q rfl (q_as (v_raw rfl)) rfl rfl rfl ?_
  refine d_nil ?_
  refine s_ret ?_
  refine s_end ?_
  exact ⟨congrArg (fun b => AVal.raw (.bool b)) (by simp), (by repeat first | exact hle | exact Mem.le_refl M | assumption | exact Mem.none_of_le hle (by assumption) | refine Mem.le_upd ?_ ?_)⟩

def tk4 : Nat → Nat → Option Nat := fun _ _ => none
def pl4 : Nat → List PStep
  | 5 => [.q 0, .q 1, .q 2, .q 3, .q 4, .q 5, .q 6, .q 8, .q 10, .s 7 [10, 8, 4, 3, 2, 1, 0], .s 9 [10, 6, 4, 3, 2, 1, 0], .s 11 [8, 6, 4, 3, 2, 1, 0], .q 12, .q 13, .q 14, .q 15, .q 16, .q 17, .q 20, .q 21, .q 22, .s 18 [22, 21, 20, 15, 14, 13, 12, 10, 8, 6, 5, 4, 3, 2, 1, 0], .q 19, .q 23, .q 24, .q 25]
  | _ => []
theorem cb4 : Try.f4.body.map (codeB Try.prog Try.f4.ntmps tk4 pl4) = some true := by kernel_rfl
theorem goes4 : goesB Try.prog 4 = true := by kernel_rfl
-- carillon/carillonlaw03.GaussNorms params ['api.Pair', 'api.Pair'] results [['t', 4]] own [] names ['0:a', '1:b', '2:a', '3:b', '5:head', '6:c', '7:e'] calls [11, 12, 14, 15] paths 1
set_option maxHeartbeats 4000000 in
set_option maxRecDepth 20000 in
theorem snd4 (x y : Pr) (M : Mem) : SoundCall Try.prog 4 [encP x, encP y] M fun r M' => r = .raw (.bool true) ∧ M.le M' := by
  have hx := md_right x
  have hy := md_right y
  have hm := md_right (mulZ (md x) (md y))
  have r1 := nrm_range (md x)
  have r2 := nrm_range (md y)
  have b1 := mul_bound' r1.1 r1.2 r2.1 r2.2
  have e1 : nrm (mulP (md x) (md y)) = (nrm (md x) * nrm (md y)).tmod 33554383 := by rw [Int.tmod_eq_emod_of_nonneg (by omega)]; exact nrm_mul _ _
  have e2 : decide (nrm (md x) = 0) = decide (md x = ⟨0, 0⟩) := by have := nrm_zero hx; simp [this]
  refine SoundCall.go tk4 pl4 mixed Try.func4 cb4 rfl (Nat.le_of_ble_eq_true rfl) ?_
  refine s_seq ?_
  refine s_region ?_
  refine o_box (by first | exact e_raw rfl | exact e_agg rfl | exact e_sl rfl) rfl rfl (fun B1 hB1 => ?_)
  have m1 : M B1 = none := by have h := hB1; repeat (first | exact h | exact Mem.none_of_le hle h | replace h := (Mem.upd_none h).2)
  refine o_box (by first | exact e_raw rfl | exact e_agg rfl | exact e_sl rfl) rfl rfl (fun B2 hB2 => ?_)
  have f1_2 : B1 ≠ B2 := Mem.fresh_ne hB2 (by repeat first | exact Mem.upd_self _ _ _ | assumption | refine Mem.upd_ne (by assumption) ?_)
  have g2_1 : B2 ≠ B1 := f1_2.symm
  have m2 : M B2 = none := by have h := hB2; repeat (first | exact h | exact Mem.none_of_le hle h | replace h := (Mem.upd_none h).2)
  refine o_q (q_as (v_raw rfl)) rfl rfl rfl ?_
  refine o_nil ?_
  refine s_seq ?_
  refine s_region ?_
  refine o_call ((snd11 _).det) goes11 ac_nil rfl ?_
  refine o_q (q_as (v_raw rfl)) rfl rfl rfl ?_
  refine o_nil ?_
  refine s_seq ?_
  refine s_region ?_
  refine o_q (q_ldmw ag23 sz23 rfl (by repeat first | exact Mem.upd_self _ _ _ | assumption | refine Mem.upd_ne (by assumption) ?_) rfl rfl) rfl rfl rfl ?_
  refine o_call ((snd12 x _).det) goes12 (ac (v_agg rfl) ac_nil) rfl ?_
  refine o_storew rfl (by repeat first | exact Mem.upd_self _ _ _ | assumption | refine Mem.upd_ne (by assumption) ?_) (by first | exact e_agg rfl | rfl) rfl sz23 rfl rfl rfl rfl ?_
  refine o_nil ?_
  refine s_seq ?_
  refine s_region ?_
  refine o_q (q_ldmw ag23 sz23 rfl (by repeat first | exact Mem.upd_self _ _ _ | assumption | refine Mem.upd_ne (by assumption) ?_) rfl rfl) rfl rfl rfl ?_
  refine o_call ((snd12 y _).det) goes12 (ac (v_agg rfl) ac_nil) rfl ?_
  refine o_storew rfl (by repeat first | exact Mem.upd_self _ _ _ | assumption | refine Mem.upd_ne (by assumption) ?_) (by first | exact e_agg rfl | rfl) rfl sz23 rfl rfl rfl rfl ?_
  refine o_nil ?_
  refine s_seq ?_
  refine s_region ?_
  refine o_q (q_ldmw ag23 sz23 rfl (by repeat first | exact Mem.upd_self _ _ _ | assumption | refine Mem.upd_ne (by assumption) ?_) rfl rfl) rfl rfl rfl ?_
  refine o_q (q_ldmw ag23 sz23 rfl (by repeat first | exact Mem.upd_self _ _ _ | assumption | refine Mem.upd_ne (by assumption) ?_) rfl rfl) rfl rfl rfl ?_
  refine o_call (snd14r (md x) (md y) _ hx hy) goes14 (ac (v_agg rfl) (ac (v_agg rfl) ac_nil)) rfl ?_
  refine o_q (q_mv (v_tup rfl)) rfl rfl rfl ?_
  refine o_q (q_ext rfl rfl (v_agg rfl)) rfl rfl rfl ?_
  refine o_q (q_ext rfl rfl (v_raw rfl)) rfl rfl rfl ?_
  refine o_alloc zc23 (fun B3 hB3 => ?_)
  have f1_3 : B1 ≠ B3 := Mem.fresh_ne hB3 (by repeat first | exact Mem.upd_self _ _ _ | assumption | refine Mem.upd_ne (by assumption) ?_)
  have g3_1 : B3 ≠ B1 := f1_3.symm
  have f2_3 : B2 ≠ B3 := Mem.fresh_ne hB3 (by repeat first | exact Mem.upd_self _ _ _ | assumption | refine Mem.upd_ne (by assumption) ?_)
  have g3_2 : B3 ≠ B2 := f2_3.symm
  have m3 : M B3 = none := by have h := hB3; repeat (first | exact h | exact Mem.none_of_le hle h | replace h := (Mem.upd_none h).2)
  refine o_storew rfl (by repeat first | exact Mem.upd_self _ _ _ | assumption | refine Mem.upd_ne (by assumption) ?_) (by first | exact e_agg rfl | rfl) rfl sz23 rfl rfl rfl rfl ?_
  refine o_q (q_as (v_raw rfl)) rfl rfl rfl ?_
  refine o_nil ?_
  refine s_seq ?_
  refine s_draw rfl ?_
  refine d_q rfl (q_mv (v_raw rfl)) rfl rfl rfl ?_
  refine d_q rfl (q_mv (v_raw rfl)) rfl rfl rfl ?_
  refine d_yes rfl (q_mv (v_raw rfl)) rfl rfl rfl rfl rfl rfl ?_
  refine d_yes rfl (q_eql rfl rfl) rfl rfl rfl rfl rfl rfl ?_
  refine d_q rfl (q_pick_c (t := true) rfl rfl (v_raw rfl)) rfl rfl rfl ?_
  refine d_q rfl (q_mv (v_raw rfl)) rfl rfl rfl ?_
  refine d_yes rfl (q_ldmw ag23 sz23 rfl (by repeat first | exact Mem.upd_self _ _ _ | assumption | refine Mem.upd_ne (by assumption) ?_) rfl rfl) rfl rfl rfl rfl rfl rfl ?_
  refine d_yes rfl (q_ldmw ag23 sz23 rfl (by repeat first | exact Mem.upd_self _ _ _ | assumption | refine Mem.upd_ne (by assumption) ?_) rfl rfl) rfl rfl rfl rfl rfl rfl ?_
  refine d_yes rfl (q_ldmw ag23 sz23 rfl (by repeat first | exact Mem.upd_self _ _ _ | assumption | refine Mem.upd_ne (by assumption) ?_) rfl rfl) rfl rfl rfl rfl rfl rfl ?_
  refine d_s rfl ?_
  refine o_yes rfl rfl rfl rfl ?_
  refine o_call ((snd15 (mulP (md x) (md y)) _ hm).det) goes15 (ac (v_agg rfl) ac_nil) rfl ?_
  refine o_nil ⟨(by simp [Mem.upd, *]), ?_⟩
  refine d_s rfl ?_
  refine o_yes rfl rfl rfl rfl ?_
  refine o_call ((snd15 (md x) _ hx).det) goes15 (ac (v_agg rfl) ac_nil) rfl ?_
  refine o_nil ⟨(by simp [Mem.upd, *]), ?_⟩
  refine d_s rfl ?_
  refine o_yes rfl rfl rfl rfl ?_
  refine o_call ((snd15 (md y) _ hy).det) goes15 (ac (v_agg rfl) ac_nil) rfl ?_
  refine o_nil ⟨(by simp [Mem.upd, *]), ?_⟩
  refine d_yes rfl (q_mul rfl rfl (wrap64 (by omega) (by omega))) rfl rfl rfl rfl rfl rfl ?_
  refine d_yes rfl (q_rem rfl rfl (by decide)) rfl rfl rfl rfl rfl rfl ?_
  refine d_yes rfl (q_eql rfl rfl) rfl rfl rfl rfl rfl rfl ?_
  refine d_q rfl (q_pick_c (t := true) rfl rfl (v_raw rfl)) rfl rfl rfl ?_
  refine d_q rfl (q_mv (v_raw rfl)) rfl rfl rfl ?_
  refine d_yes rfl (q_ldmw ag23 sz23 rfl (by repeat first | exact Mem.upd_self _ _ _ | assumption | refine Mem.upd_ne (by assumption) ?_) rfl rfl) rfl rfl rfl (decide_eq_true e1) rfl rfl ?_
  refine d_yes rfl (q_ldmw ag23 sz23 rfl (by repeat first | exact Mem.upd_self _ _ _ | assumption | refine Mem.upd_ne (by assumption) ?_) rfl rfl) rfl rfl rfl (decide_eq_true e1) rfl rfl ?_
  refine d_yes rfl (q_b (cs := [.raw (.int .i64 0), .raw (.int .i64 0)]) bz23 bp23 bf_nil) rfl rfl rfl (decide_eq_true e1) rfl rfl ?_
  refine d_yes rfl (q_bin' rfl rfl (binEqM _ _ (md x) ⟨0, 0⟩)) rfl rfl rfl (decide_eq_true e1) rfl rfl ?_
  refine d_s rfl ?_
  refine o_yes rfl rfl rfl (decide_eq_true e1) ?_
  refine o_call ((snd15 (md x) _ hx).det) goes15 (ac (v_agg rfl) ac_nil) rfl ?_
  refine o_nil ⟨(by simp [Mem.upd, *]), ?_⟩
  refine d_yes rfl (q_eql rfl rfl) rfl rfl rfl (decide_eq_true e1) rfl rfl ?_
  refine d_yes rfl (q_beql und4 rfl rfl) rfl rfl rfl (decide_eq_true e1) rfl rfl ?_
  refine d_q rfl (q_pick_c (t := true) rfl (decide_eq_true e1) (v_raw rfl)) rfl rfl rfl ?_
  refine d_q rfl (q_as (v_raw rfl)) rfl rfl rfl ?_
  refine d_nil ?_
  refine s_ret ?_
  refine s_end ?_
  exact ⟨congrArg (fun b => AVal.raw (.bool b)) (decide_eq_true e2), (by repeat first | exact hle | exact Mem.le_refl M | assumption | exact Mem.none_of_le hle (by assumption) | refine Mem.le_upd ?_ ?_)⟩

def tk7 : Nat → Nat → Option Nat := fun _ _ => none
def pl7 : Nat → List PStep := fun _ => []
theorem cb7 : Try.f7.body.map (codeB Try.prog Try.f7.ntmps tk7 pl7) = some true := by kernel_rfl
theorem goes7 : goesB Try.prog 7 = true := by kernel_rfl
-- carillon/carillonlaw03.GaussLaws params ['api.Pair', 'api.Pair', 'api.Pair'] results [['t', 6]] own [] names ['0:a', '1:b', '2:c', '3:a', '4:b', '5:c', '7:head', '8:ab', '9:_', '10:ba', '11:_', '12:bc', '13:_', '14:one', '15:_', '16:two', '17:_', '18:s', '19:_', '20:d', '21:_', '22:ac', '23:_', '24:e', '25:f', '26:back', '27:g'] calls [11, 12, 14, 17, 18] paths 1
set_option maxHeartbeats 4000000 in
set_option maxRecDepth 20000 in
theorem snd7 (x y z : Pr) (M : Mem) : SoundCall Try.prog 7 [encP x, encP y, encP z] M fun r M' => r = .raw (.bool true) ∧ M.le M' := by
  have hx := md_right x
  have hy := md_right y
  have hz := md_right z
  refine SoundCall.go tk7 pl7 mixed Try.func7 cb7 rfl (Nat.le_of_ble_eq_true rfl) ?_
  refine s_seq ?_
  refine s_region ?_
  refine o_box (by first | exact e_raw rfl | exact e_agg rfl | exact e_sl rfl) rfl rfl (fun B1 hB1 => ?_)
  have m1 : M B1 = none := by have h := hB1; repeat (first | exact h | exact Mem.none_of_le hle h | replace h := (Mem.upd_none h).2)
  refine o_box (by first | exact e_raw rfl | exact e_agg rfl | exact e_sl rfl) rfl rfl (fun B2 hB2 => ?_)
  have f1_2 : B1 ≠ B2 := Mem.fresh_ne hB2 (by repeat first | exact Mem.upd_self _ _ _ | assumption | refine Mem.upd_ne (by assumption) ?_)
  have g2_1 : B2 ≠ B1 := f1_2.symm
  have m2 : M B2 = none := by have h := hB2; repeat (first | exact h | exact Mem.none_of_le hle h | replace h := (Mem.upd_none h).2)
  refine o_box (by first | exact e_raw rfl | exact e_agg rfl | exact e_sl rfl) rfl rfl (fun B3 hB3 => ?_)
  have f1_3 : B1 ≠ B3 := Mem.fresh_ne hB3 (by repeat first | exact Mem.upd_self _ _ _ | assumption | refine Mem.upd_ne (by assumption) ?_)
  have g3_1 : B3 ≠ B1 := f1_3.symm
  have f2_3 : B2 ≠ B3 := Mem.fresh_ne hB3 (by repeat first | exact Mem.upd_self _ _ _ | assumption | refine Mem.upd_ne (by assumption) ?_)
  have g3_2 : B3 ≠ B2 := f2_3.symm
  have m3 : M B3 = none := by have h := hB3; repeat (first | exact h | exact Mem.none_of_le hle h | replace h := (Mem.upd_none h).2)
  refine o_q (q_as (v_raw rfl)) rfl rfl rfl ?_
  refine o_nil ?_
  refine s_seq ?_
  refine s_region ?_
  refine o_call ((snd11 _).det) goes11 ac_nil rfl ?_
  refine o_q (q_as (v_raw rfl)) rfl rfl rfl ?_
  refine o_nil ?_
  refine s_seq ?_
  refine s_region ?_
  refine o_q (q_ldmw ag23 sz23 rfl (by repeat first | exact Mem.upd_self _ _ _ | assumption | refine Mem.upd_ne (by assumption) ?_) rfl rfl) rfl rfl rfl ?_
  refine o_call ((snd12 x _).det) goes12 (ac (v_agg rfl) ac_nil) rfl ?_
  refine o_storew rfl (by repeat first | exact Mem.upd_self _ _ _ | assumption | refine Mem.upd_ne (by assumption) ?_) (by first | exact e_agg rfl | rfl) rfl sz23 rfl rfl rfl rfl ?_
  refine o_nil ?_
  refine s_seq ?_
  refine s_region ?_
  refine o_q (q_ldmw ag23 sz23 rfl (by repeat first | exact Mem.upd_self _ _ _ | assumption | refine Mem.upd_ne (by assumption) ?_) rfl rfl) rfl rfl rfl ?_
  refine o_call ((snd12 y _).det) goes12 (ac (v_agg rfl) ac_nil) rfl ?_
  refine o_storew rfl (by repeat first | exact Mem.upd_self _ _ _ | assumption | refine Mem.upd_ne (by assumption) ?_) (by first | exact e_agg rfl | rfl) rfl sz23 rfl rfl rfl rfl ?_
  refine o_nil ?_
  refine s_seq ?_
  refine s_region ?_
  refine o_q (q_ldmw ag23 sz23 rfl (by repeat first | exact Mem.upd_self _ _ _ | assumption | refine Mem.upd_ne (by assumption) ?_) rfl rfl) rfl rfl rfl ?_
  refine o_call ((snd12 z _).det) goes12 (ac (v_agg rfl) ac_nil) rfl ?_
  refine o_storew rfl (by repeat first | exact Mem.upd_self _ _ _ | assumption | refine Mem.upd_ne (by assumption) ?_) (by first | exact e_agg rfl | rfl) rfl sz23 rfl rfl rfl rfl ?_
  refine o_nil ?_
  refine s_seq ?_
  refine s_region ?_
  refine o_q (q_ldmw ag23 sz23 rfl (by repeat first | exact Mem.upd_self _ _ _ | assumption | refine Mem.upd_ne (by assumption) ?_) rfl rfl) rfl rfl rfl ?_
  refine o_q (q_ldmw ag23 sz23 rfl (by repeat first | exact Mem.upd_self _ _ _ | assumption | refine Mem.upd_ne (by assumption) ?_) rfl rfl) rfl rfl rfl ?_
  refine o_call (snd14r (md x) (md y) _ hx hy) goes14 (ac (v_agg rfl) (ac (v_agg rfl) ac_nil)) rfl ?_
  refine o_q (q_mv (v_tup rfl)) rfl rfl rfl ?_
  refine o_q (q_ext rfl rfl (v_agg rfl)) rfl rfl rfl ?_
  refine o_q (q_ext rfl rfl (v_raw rfl)) rfl rfl rfl ?_
  refine o_alloc zc23 (fun B4 hB4 => ?_)
  have f1_4 : B1 ≠ B4 := Mem.fresh_ne hB4 (by repeat first | exact Mem.upd_self _ _ _ | assumption | refine Mem.upd_ne (by assumption) ?_)
  have g4_1 : B4 ≠ B1 := f1_4.symm
  have f2_4 : B2 ≠ B4 := Mem.fresh_ne hB4 (by repeat first | exact Mem.upd_self _ _ _ | assumption | refine Mem.upd_ne (by assumption) ?_)
  have g4_2 : B4 ≠ B2 := f2_4.symm
  have f3_4 : B3 ≠ B4 := Mem.fresh_ne hB4 (by repeat first | exact Mem.upd_self _ _ _ | assumption | refine Mem.upd_ne (by assumption) ?_)
  have g4_3 : B4 ≠ B3 := f3_4.symm
  have m4 : M B4 = none := by have h := hB4; repeat (first | exact h | exact Mem.none_of_le hle h | replace h := (Mem.upd_none h).2)
  refine o_storew rfl (by repeat first | exact Mem.upd_self _ _ _ | assumption | refine Mem.upd_ne (by assumption) ?_) (by first | exact e_agg rfl | rfl) rfl sz23 rfl rfl rfl rfl ?_
  refine o_q (q_as (v_raw rfl)) rfl rfl rfl ?_
  refine o_nil ?_
  refine s_seq ?_
  refine s_region ?_
  refine o_q (q_ldmw ag23 sz23 rfl (by repeat first | exact Mem.upd_self _ _ _ | assumption | refine Mem.upd_ne (by assumption) ?_) rfl rfl) rfl rfl rfl ?_
  refine o_q (q_ldmw ag23 sz23 rfl (by repeat first | exact Mem.upd_self _ _ _ | assumption | refine Mem.upd_ne (by assumption) ?_) rfl rfl) rfl rfl rfl ?_
  refine o_call (snd14r (md y) (md x) _ hy hx) goes14 (ac (v_agg rfl) (ac (v_agg rfl) ac_nil)) rfl ?_
  refine o_q (q_mv (v_tup rfl)) rfl rfl rfl ?_
  refine o_q (q_ext rfl rfl (v_agg rfl)) rfl rfl rfl ?_
  refine o_q (q_ext rfl rfl (v_raw rfl)) rfl rfl rfl ?_
  refine o_alloc zc23 (fun B5 hB5 => ?_)
  have f1_5 : B1 ≠ B5 := Mem.fresh_ne hB5 (by repeat first | exact Mem.upd_self _ _ _ | assumption | refine Mem.upd_ne (by assumption) ?_)
  have g5_1 : B5 ≠ B1 := f1_5.symm
  have f2_5 : B2 ≠ B5 := Mem.fresh_ne hB5 (by repeat first | exact Mem.upd_self _ _ _ | assumption | refine Mem.upd_ne (by assumption) ?_)
  have g5_2 : B5 ≠ B2 := f2_5.symm
  have f3_5 : B3 ≠ B5 := Mem.fresh_ne hB5 (by repeat first | exact Mem.upd_self _ _ _ | assumption | refine Mem.upd_ne (by assumption) ?_)
  have g5_3 : B5 ≠ B3 := f3_5.symm
  have f4_5 : B4 ≠ B5 := Mem.fresh_ne hB5 (by repeat first | exact Mem.upd_self _ _ _ | assumption | refine Mem.upd_ne (by assumption) ?_)
  have g5_4 : B5 ≠ B4 := f4_5.symm
  have m5 : M B5 = none := by have h := hB5; repeat (first | exact h | exact Mem.none_of_le hle h | replace h := (Mem.upd_none h).2)
  refine o_storew rfl (by repeat first | exact Mem.upd_self _ _ _ | assumption | refine Mem.upd_ne (by assumption) ?_) (by first | exact e_agg rfl | rfl) rfl sz23 rfl rfl rfl rfl ?_
  refine o_q (q_as (v_raw rfl)) rfl rfl rfl ?_
  refine o_nil ?_
  refine s_seq ?_
  refine s_region ?_
  refine o_q (q_ldmw ag23 sz23 rfl (by repeat first | exact Mem.upd_self _ _ _ | assumption | refine Mem.upd_ne (by assumption) ?_) rfl rfl) rfl rfl rfl ?_
  refine o_q (q_ldmw ag23 sz23 rfl (by repeat first | exact Mem.upd_self _ _ _ | assumption | refine Mem.upd_ne (by assumption) ?_) rfl rfl) rfl rfl rfl ?_
  refine o_call (snd14r (md y) (md z) _ hy hz) goes14 (ac (v_agg rfl) (ac (v_agg rfl) ac_nil)) rfl ?_
  refine o_q (q_mv (v_tup rfl)) rfl rfl rfl ?_
  refine o_q (q_ext rfl rfl (v_agg rfl)) rfl rfl rfl ?_
  refine o_q (q_ext rfl rfl (v_raw rfl)) rfl rfl rfl ?_
  refine o_alloc zc23 (fun B6 hB6 => ?_)
  have f1_6 : B1 ≠ B6 := Mem.fresh_ne hB6 (by repeat first | exact Mem.upd_self _ _ _ | assumption | refine Mem.upd_ne (by assumption) ?_)
  have g6_1 : B6 ≠ B1 := f1_6.symm
  have f2_6 : B2 ≠ B6 := Mem.fresh_ne hB6 (by repeat first | exact Mem.upd_self _ _ _ | assumption | refine Mem.upd_ne (by assumption) ?_)
  have g6_2 : B6 ≠ B2 := f2_6.symm
  have f3_6 : B3 ≠ B6 := Mem.fresh_ne hB6 (by repeat first | exact Mem.upd_self _ _ _ | assumption | refine Mem.upd_ne (by assumption) ?_)
  have g6_3 : B6 ≠ B3 := f3_6.symm
  have f4_6 : B4 ≠ B6 := Mem.fresh_ne hB6 (by repeat first | exact Mem.upd_self _ _ _ | assumption | refine Mem.upd_ne (by assumption) ?_)
  have g6_4 : B6 ≠ B4 := f4_6.symm
  have f5_6 : B5 ≠ B6 := Mem.fresh_ne hB6 (by repeat first | exact Mem.upd_self _ _ _ | assumption | refine Mem.upd_ne (by assumption) ?_)
  have g6_5 : B6 ≠ B5 := f5_6.symm
  have m6 : M B6 = none := by have h := hB6; repeat (first | exact h | exact Mem.none_of_le hle h | replace h := (Mem.upd_none h).2)
  refine o_storew rfl (by repeat first | exact Mem.upd_self _ _ _ | assumption | refine Mem.upd_ne (by assumption) ?_) (by first | exact e_agg rfl | rfl) rfl sz23 rfl rfl rfl rfl ?_
  refine o_q (q_as (v_raw rfl)) rfl rfl rfl ?_
  refine o_nil ?_
  refine s_seq ?_
  refine s_region ?_
  refine o_q (q_ldmw ag23 sz23 rfl (by repeat first | exact Mem.upd_self _ _ _ | assumption | refine Mem.upd_ne (by assumption) ?_) rfl rfl) rfl rfl rfl ?_
  refine o_q (q_ldmw ag23 sz23 rfl (by repeat first | exact Mem.upd_self _ _ _ | assumption | refine Mem.upd_ne (by assumption) ?_) rfl rfl) rfl rfl rfl ?_
  refine o_call (snd14r (mulP (md x) (md y)) (md z) _ (md_right _) hz) goes14 (ac (v_agg rfl) (ac (v_agg rfl) ac_nil)) rfl ?_
  refine o_q (q_mv (v_tup rfl)) rfl rfl rfl ?_
  refine o_q (q_ext rfl rfl (v_agg rfl)) rfl rfl rfl ?_
  refine o_q (q_ext rfl rfl (v_raw rfl)) rfl rfl rfl ?_
  refine o_alloc zc23 (fun B7 hB7 => ?_)
  have f1_7 : B1 ≠ B7 := Mem.fresh_ne hB7 (by repeat first | exact Mem.upd_self _ _ _ | assumption | refine Mem.upd_ne (by assumption) ?_)
  have g7_1 : B7 ≠ B1 := f1_7.symm
  have f2_7 : B2 ≠ B7 := Mem.fresh_ne hB7 (by repeat first | exact Mem.upd_self _ _ _ | assumption | refine Mem.upd_ne (by assumption) ?_)
  have g7_2 : B7 ≠ B2 := f2_7.symm
  have f3_7 : B3 ≠ B7 := Mem.fresh_ne hB7 (by repeat first | exact Mem.upd_self _ _ _ | assumption | refine Mem.upd_ne (by assumption) ?_)
  have g7_3 : B7 ≠ B3 := f3_7.symm
  have f4_7 : B4 ≠ B7 := Mem.fresh_ne hB7 (by repeat first | exact Mem.upd_self _ _ _ | assumption | refine Mem.upd_ne (by assumption) ?_)
  have g7_4 : B7 ≠ B4 := f4_7.symm
  have f5_7 : B5 ≠ B7 := Mem.fresh_ne hB7 (by repeat first | exact Mem.upd_self _ _ _ | assumption | refine Mem.upd_ne (by assumption) ?_)
  have g7_5 : B7 ≠ B5 := f5_7.symm
  have f6_7 : B6 ≠ B7 := Mem.fresh_ne hB7 (by repeat first | exact Mem.upd_self _ _ _ | assumption | refine Mem.upd_ne (by assumption) ?_)
  have g7_6 : B7 ≠ B6 := f6_7.symm
  have m7 : M B7 = none := by have h := hB7; repeat (first | exact h | exact Mem.none_of_le hle h | replace h := (Mem.upd_none h).2)
  refine o_storew rfl (by repeat first | exact Mem.upd_self _ _ _ | assumption | refine Mem.upd_ne (by assumption) ?_) (by first | exact e_agg rfl | rfl) rfl sz23 rfl rfl rfl rfl ?_
  refine o_q (q_as (v_raw rfl)) rfl rfl rfl ?_
  refine o_nil ?_
  refine s_seq ?_
  refine s_region ?_
  refine o_q (q_ldmw ag23 sz23 rfl (by repeat first | exact Mem.upd_self _ _ _ | assumption | refine Mem.upd_ne (by assumption) ?_) rfl rfl) rfl rfl rfl ?_
  refine o_q (q_ldmw ag23 sz23 rfl (by repeat first | exact Mem.upd_self _ _ _ | assumption | refine Mem.upd_ne (by assumption) ?_) rfl rfl) rfl rfl rfl ?_
  refine o_call (snd14r (md x) (mulP (md y) (md z)) _ hx (md_right _)) goes14 (ac (v_agg rfl) (ac (v_agg rfl) ac_nil)) rfl ?_
  refine o_q (q_mv (v_tup rfl)) rfl rfl rfl ?_
  refine o_q (q_ext rfl rfl (v_agg rfl)) rfl rfl rfl ?_
  refine o_q (q_ext rfl rfl (v_raw rfl)) rfl rfl rfl ?_
  refine o_alloc zc23 (fun B8 hB8 => ?_)
  have f1_8 : B1 ≠ B8 := Mem.fresh_ne hB8 (by repeat first | exact Mem.upd_self _ _ _ | assumption | refine Mem.upd_ne (by assumption) ?_)
  have g8_1 : B8 ≠ B1 := f1_8.symm
  have f2_8 : B2 ≠ B8 := Mem.fresh_ne hB8 (by repeat first | exact Mem.upd_self _ _ _ | assumption | refine Mem.upd_ne (by assumption) ?_)
  have g8_2 : B8 ≠ B2 := f2_8.symm
  have f3_8 : B3 ≠ B8 := Mem.fresh_ne hB8 (by repeat first | exact Mem.upd_self _ _ _ | assumption | refine Mem.upd_ne (by assumption) ?_)
  have g8_3 : B8 ≠ B3 := f3_8.symm
  have f4_8 : B4 ≠ B8 := Mem.fresh_ne hB8 (by repeat first | exact Mem.upd_self _ _ _ | assumption | refine Mem.upd_ne (by assumption) ?_)
  have g8_4 : B8 ≠ B4 := f4_8.symm
  have f5_8 : B5 ≠ B8 := Mem.fresh_ne hB8 (by repeat first | exact Mem.upd_self _ _ _ | assumption | refine Mem.upd_ne (by assumption) ?_)
  have g8_5 : B8 ≠ B5 := f5_8.symm
  have f6_8 : B6 ≠ B8 := Mem.fresh_ne hB8 (by repeat first | exact Mem.upd_self _ _ _ | assumption | refine Mem.upd_ne (by assumption) ?_)
  have g8_6 : B8 ≠ B6 := f6_8.symm
  have f7_8 : B7 ≠ B8 := Mem.fresh_ne hB8 (by repeat first | exact Mem.upd_self _ _ _ | assumption | refine Mem.upd_ne (by assumption) ?_)
  have g8_7 : B8 ≠ B7 := f7_8.symm
  have m8 : M B8 = none := by have h := hB8; repeat (first | exact h | exact Mem.none_of_le hle h | replace h := (Mem.upd_none h).2)
  refine o_storew rfl (by repeat first | exact Mem.upd_self _ _ _ | assumption | refine Mem.upd_ne (by assumption) ?_) (by first | exact e_agg rfl | rfl) rfl sz23 rfl rfl rfl rfl ?_
  refine o_q (q_as (v_raw rfl)) rfl rfl rfl ?_
  refine o_nil ?_
  refine s_seq ?_
  refine s_region ?_
  refine o_q (q_ldmw ag23 sz23 rfl (by repeat first | exact Mem.upd_self _ _ _ | assumption | refine Mem.upd_ne (by assumption) ?_) rfl rfl) rfl rfl rfl ?_
  refine o_q (q_ldmw ag23 sz23 rfl (by repeat first | exact Mem.upd_self _ _ _ | assumption | refine Mem.upd_ne (by assumption) ?_) rfl rfl) rfl rfl rfl ?_
  refine o_call (snd17r (md y) (md z) _ hy hz) goes17 (ac (v_agg rfl) (ac (v_agg rfl) ac_nil)) rfl ?_
  refine o_q (q_mv (v_tup rfl)) rfl rfl rfl ?_
  refine o_q (q_ext rfl rfl (v_agg rfl)) rfl rfl rfl ?_
  refine o_q (q_ext rfl rfl (v_raw rfl)) rfl rfl rfl ?_
  refine o_alloc zc23 (fun B9 hB9 => ?_)
  have f1_9 : B1 ≠ B9 := Mem.fresh_ne hB9 (by repeat first | exact Mem.upd_self _ _ _ | assumption | refine Mem.upd_ne (by assumption) ?_)
  have g9_1 : B9 ≠ B1 := f1_9.symm
  have f2_9 : B2 ≠ B9 := Mem.fresh_ne hB9 (by repeat first | exact Mem.upd_self _ _ _ | assumption | refine Mem.upd_ne (by assumption) ?_)
  have g9_2 : B9 ≠ B2 := f2_9.symm
  have f3_9 : B3 ≠ B9 := Mem.fresh_ne hB9 (by repeat first | exact Mem.upd_self _ _ _ | assumption | refine Mem.upd_ne (by assumption) ?_)
  have g9_3 : B9 ≠ B3 := f3_9.symm
  have f4_9 : B4 ≠ B9 := Mem.fresh_ne hB9 (by repeat first | exact Mem.upd_self _ _ _ | assumption | refine Mem.upd_ne (by assumption) ?_)
  have g9_4 : B9 ≠ B4 := f4_9.symm
  have f5_9 : B5 ≠ B9 := Mem.fresh_ne hB9 (by repeat first | exact Mem.upd_self _ _ _ | assumption | refine Mem.upd_ne (by assumption) ?_)
  have g9_5 : B9 ≠ B5 := f5_9.symm
  have f6_9 : B6 ≠ B9 := Mem.fresh_ne hB9 (by repeat first | exact Mem.upd_self _ _ _ | assumption | refine Mem.upd_ne (by assumption) ?_)
  have g9_6 : B9 ≠ B6 := f6_9.symm
  have f7_9 : B7 ≠ B9 := Mem.fresh_ne hB9 (by repeat first | exact Mem.upd_self _ _ _ | assumption | refine Mem.upd_ne (by assumption) ?_)
  have g9_7 : B9 ≠ B7 := f7_9.symm
  have f8_9 : B8 ≠ B9 := Mem.fresh_ne hB9 (by repeat first | exact Mem.upd_self _ _ _ | assumption | refine Mem.upd_ne (by assumption) ?_)
  have g9_8 : B9 ≠ B8 := f8_9.symm
  have m9 : M B9 = none := by have h := hB9; repeat (first | exact h | exact Mem.none_of_le hle h | replace h := (Mem.upd_none h).2)
  refine o_storew rfl (by repeat first | exact Mem.upd_self _ _ _ | assumption | refine Mem.upd_ne (by assumption) ?_) (by first | exact e_agg rfl | rfl) rfl sz23 rfl rfl rfl rfl ?_
  refine o_q (q_as (v_raw rfl)) rfl rfl rfl ?_
  refine o_nil ?_
  refine s_seq ?_
  refine s_region ?_
  refine o_q (q_ldmw ag23 sz23 rfl (by repeat first | exact Mem.upd_self _ _ _ | assumption | refine Mem.upd_ne (by assumption) ?_) rfl rfl) rfl rfl rfl ?_
  refine o_q (q_ldmw ag23 sz23 rfl (by repeat first | exact Mem.upd_self _ _ _ | assumption | refine Mem.upd_ne (by assumption) ?_) rfl rfl) rfl rfl rfl ?_
  refine o_call (snd14r (md x) (addP (md y) (md z)) _ hx (md_right _)) goes14 (ac (v_agg rfl) (ac (v_agg rfl) ac_nil)) rfl ?_
  refine o_q (q_mv (v_tup rfl)) rfl rfl rfl ?_
  refine o_q (q_ext rfl rfl (v_agg rfl)) rfl rfl rfl ?_
  refine o_q (q_ext rfl rfl (v_raw rfl)) rfl rfl rfl ?_
  refine o_alloc zc23 (fun B10 hB10 => ?_)
  have f1_10 : B1 ≠ B10 := Mem.fresh_ne hB10 (by repeat first | exact Mem.upd_self _ _ _ | assumption | refine Mem.upd_ne (by assumption) ?_)
  have g10_1 : B10 ≠ B1 := f1_10.symm
  have f2_10 : B2 ≠ B10 := Mem.fresh_ne hB10 (by repeat first | exact Mem.upd_self _ _ _ | assumption | refine Mem.upd_ne (by assumption) ?_)
  have g10_2 : B10 ≠ B2 := f2_10.symm
  have f3_10 : B3 ≠ B10 := Mem.fresh_ne hB10 (by repeat first | exact Mem.upd_self _ _ _ | assumption | refine Mem.upd_ne (by assumption) ?_)
  have g10_3 : B10 ≠ B3 := f3_10.symm
  have f4_10 : B4 ≠ B10 := Mem.fresh_ne hB10 (by repeat first | exact Mem.upd_self _ _ _ | assumption | refine Mem.upd_ne (by assumption) ?_)
  have g10_4 : B10 ≠ B4 := f4_10.symm
  have f5_10 : B5 ≠ B10 := Mem.fresh_ne hB10 (by repeat first | exact Mem.upd_self _ _ _ | assumption | refine Mem.upd_ne (by assumption) ?_)
  have g10_5 : B10 ≠ B5 := f5_10.symm
  have f6_10 : B6 ≠ B10 := Mem.fresh_ne hB10 (by repeat first | exact Mem.upd_self _ _ _ | assumption | refine Mem.upd_ne (by assumption) ?_)
  have g10_6 : B10 ≠ B6 := f6_10.symm
  have f7_10 : B7 ≠ B10 := Mem.fresh_ne hB10 (by repeat first | exact Mem.upd_self _ _ _ | assumption | refine Mem.upd_ne (by assumption) ?_)
  have g10_7 : B10 ≠ B7 := f7_10.symm
  have f8_10 : B8 ≠ B10 := Mem.fresh_ne hB10 (by repeat first | exact Mem.upd_self _ _ _ | assumption | refine Mem.upd_ne (by assumption) ?_)
  have g10_8 : B10 ≠ B8 := f8_10.symm
  have f9_10 : B9 ≠ B10 := Mem.fresh_ne hB10 (by repeat first | exact Mem.upd_self _ _ _ | assumption | refine Mem.upd_ne (by assumption) ?_)
  have g10_9 : B10 ≠ B9 := f9_10.symm
  have m10 : M B10 = none := by have h := hB10; repeat (first | exact h | exact Mem.none_of_le hle h | replace h := (Mem.upd_none h).2)
  refine o_storew rfl (by repeat first | exact Mem.upd_self _ _ _ | assumption | refine Mem.upd_ne (by assumption) ?_) (by first | exact e_agg rfl | rfl) rfl sz23 rfl rfl rfl rfl ?_
  refine o_q (q_as (v_raw rfl)) rfl rfl rfl ?_
  refine o_nil ?_
  refine s_seq ?_
  refine s_region ?_
  refine o_q (q_ldmw ag23 sz23 rfl (by repeat first | exact Mem.upd_self _ _ _ | assumption | refine Mem.upd_ne (by assumption) ?_) rfl rfl) rfl rfl rfl ?_
  refine o_q (q_ldmw ag23 sz23 rfl (by repeat first | exact Mem.upd_self _ _ _ | assumption | refine Mem.upd_ne (by assumption) ?_) rfl rfl) rfl rfl rfl ?_
  refine o_call (snd14r (md x) (md z) _ hx hz) goes14 (ac (v_agg rfl) (ac (v_agg rfl) ac_nil)) rfl ?_
  refine o_q (q_mv (v_tup rfl)) rfl rfl rfl ?_
  refine o_q (q_ext rfl rfl (v_agg rfl)) rfl rfl rfl ?_
  refine o_q (q_ext rfl rfl (v_raw rfl)) rfl rfl rfl ?_
  refine o_alloc zc23 (fun B11 hB11 => ?_)
  have f1_11 : B1 ≠ B11 := Mem.fresh_ne hB11 (by repeat first | exact Mem.upd_self _ _ _ | assumption | refine Mem.upd_ne (by assumption) ?_)
  have g11_1 : B11 ≠ B1 := f1_11.symm
  have f2_11 : B2 ≠ B11 := Mem.fresh_ne hB11 (by repeat first | exact Mem.upd_self _ _ _ | assumption | refine Mem.upd_ne (by assumption) ?_)
  have g11_2 : B11 ≠ B2 := f2_11.symm
  have f3_11 : B3 ≠ B11 := Mem.fresh_ne hB11 (by repeat first | exact Mem.upd_self _ _ _ | assumption | refine Mem.upd_ne (by assumption) ?_)
  have g11_3 : B11 ≠ B3 := f3_11.symm
  have f4_11 : B4 ≠ B11 := Mem.fresh_ne hB11 (by repeat first | exact Mem.upd_self _ _ _ | assumption | refine Mem.upd_ne (by assumption) ?_)
  have g11_4 : B11 ≠ B4 := f4_11.symm
  have f5_11 : B5 ≠ B11 := Mem.fresh_ne hB11 (by repeat first | exact Mem.upd_self _ _ _ | assumption | refine Mem.upd_ne (by assumption) ?_)
  have g11_5 : B11 ≠ B5 := f5_11.symm
  have f6_11 : B6 ≠ B11 := Mem.fresh_ne hB11 (by repeat first | exact Mem.upd_self _ _ _ | assumption | refine Mem.upd_ne (by assumption) ?_)
  have g11_6 : B11 ≠ B6 := f6_11.symm
  have f7_11 : B7 ≠ B11 := Mem.fresh_ne hB11 (by repeat first | exact Mem.upd_self _ _ _ | assumption | refine Mem.upd_ne (by assumption) ?_)
  have g11_7 : B11 ≠ B7 := f7_11.symm
  have f8_11 : B8 ≠ B11 := Mem.fresh_ne hB11 (by repeat first | exact Mem.upd_self _ _ _ | assumption | refine Mem.upd_ne (by assumption) ?_)
  have g11_8 : B11 ≠ B8 := f8_11.symm
  have f9_11 : B9 ≠ B11 := Mem.fresh_ne hB11 (by repeat first | exact Mem.upd_self _ _ _ | assumption | refine Mem.upd_ne (by assumption) ?_)
  have g11_9 : B11 ≠ B9 := f9_11.symm
  have f10_11 : B10 ≠ B11 := Mem.fresh_ne hB11 (by repeat first | exact Mem.upd_self _ _ _ | assumption | refine Mem.upd_ne (by assumption) ?_)
  have g11_10 : B11 ≠ B10 := f10_11.symm
  have m11 : M B11 = none := by have h := hB11; repeat (first | exact h | exact Mem.none_of_le hle h | replace h := (Mem.upd_none h).2)
  refine o_storew rfl (by repeat first | exact Mem.upd_self _ _ _ | assumption | refine Mem.upd_ne (by assumption) ?_) (by first | exact e_agg rfl | rfl) rfl sz23 rfl rfl rfl rfl ?_
  refine o_q (q_as (v_raw rfl)) rfl rfl rfl ?_
  refine o_nil ?_
  refine s_seq ?_
  refine s_region ?_
  refine o_q (q_ldmw ag23 sz23 rfl (by repeat first | exact Mem.upd_self _ _ _ | assumption | refine Mem.upd_ne (by assumption) ?_) rfl rfl) rfl rfl rfl ?_
  refine o_q (q_ldmw ag23 sz23 rfl (by repeat first | exact Mem.upd_self _ _ _ | assumption | refine Mem.upd_ne (by assumption) ?_) rfl rfl) rfl rfl rfl ?_
  refine o_call (snd17r (mulP (md x) (md y)) (mulP (md x) (md z)) _ (md_right _) (md_right _)) goes17 (ac (v_agg rfl) (ac (v_agg rfl) ac_nil)) rfl ?_
  refine o_q (q_mv (v_tup rfl)) rfl rfl rfl ?_
  refine o_q (q_ext rfl rfl (v_agg rfl)) rfl rfl rfl ?_
  refine o_q (q_ext rfl rfl (v_raw rfl)) rfl rfl rfl ?_
  refine o_alloc zc23 (fun B12 hB12 => ?_)
  have f1_12 : B1 ≠ B12 := Mem.fresh_ne hB12 (by repeat first | exact Mem.upd_self _ _ _ | assumption | refine Mem.upd_ne (by assumption) ?_)
  have g12_1 : B12 ≠ B1 := f1_12.symm
  have f2_12 : B2 ≠ B12 := Mem.fresh_ne hB12 (by repeat first | exact Mem.upd_self _ _ _ | assumption | refine Mem.upd_ne (by assumption) ?_)
  have g12_2 : B12 ≠ B2 := f2_12.symm
  have f3_12 : B3 ≠ B12 := Mem.fresh_ne hB12 (by repeat first | exact Mem.upd_self _ _ _ | assumption | refine Mem.upd_ne (by assumption) ?_)
  have g12_3 : B12 ≠ B3 := f3_12.symm
  have f4_12 : B4 ≠ B12 := Mem.fresh_ne hB12 (by repeat first | exact Mem.upd_self _ _ _ | assumption | refine Mem.upd_ne (by assumption) ?_)
  have g12_4 : B12 ≠ B4 := f4_12.symm
  have f5_12 : B5 ≠ B12 := Mem.fresh_ne hB12 (by repeat first | exact Mem.upd_self _ _ _ | assumption | refine Mem.upd_ne (by assumption) ?_)
  have g12_5 : B12 ≠ B5 := f5_12.symm
  have f6_12 : B6 ≠ B12 := Mem.fresh_ne hB12 (by repeat first | exact Mem.upd_self _ _ _ | assumption | refine Mem.upd_ne (by assumption) ?_)
  have g12_6 : B12 ≠ B6 := f6_12.symm
  have f7_12 : B7 ≠ B12 := Mem.fresh_ne hB12 (by repeat first | exact Mem.upd_self _ _ _ | assumption | refine Mem.upd_ne (by assumption) ?_)
  have g12_7 : B12 ≠ B7 := f7_12.symm
  have f8_12 : B8 ≠ B12 := Mem.fresh_ne hB12 (by repeat first | exact Mem.upd_self _ _ _ | assumption | refine Mem.upd_ne (by assumption) ?_)
  have g12_8 : B12 ≠ B8 := f8_12.symm
  have f9_12 : B9 ≠ B12 := Mem.fresh_ne hB12 (by repeat first | exact Mem.upd_self _ _ _ | assumption | refine Mem.upd_ne (by assumption) ?_)
  have g12_9 : B12 ≠ B9 := f9_12.symm
  have f10_12 : B10 ≠ B12 := Mem.fresh_ne hB12 (by repeat first | exact Mem.upd_self _ _ _ | assumption | refine Mem.upd_ne (by assumption) ?_)
  have g12_10 : B12 ≠ B10 := f10_12.symm
  have f11_12 : B11 ≠ B12 := Mem.fresh_ne hB12 (by repeat first | exact Mem.upd_self _ _ _ | assumption | refine Mem.upd_ne (by assumption) ?_)
  have g12_11 : B12 ≠ B11 := f11_12.symm
  have m12 : M B12 = none := by have h := hB12; repeat (first | exact h | exact Mem.none_of_le hle h | replace h := (Mem.upd_none h).2)
  refine o_storew rfl (by repeat first | exact Mem.upd_self _ _ _ | assumption | refine Mem.upd_ne (by assumption) ?_) (by first | exact e_agg rfl | rfl) rfl sz23 rfl rfl rfl rfl ?_
  refine o_q (q_as (v_raw rfl)) rfl rfl rfl ?_
  refine o_nil ?_
  refine s_seq ?_
  refine s_region ?_
  refine o_q (q_ldmw ag23 sz23 rfl (by repeat first | exact Mem.upd_self _ _ _ | assumption | refine Mem.upd_ne (by assumption) ?_) rfl rfl) rfl rfl rfl ?_
  refine o_q (q_ldmw ag23 sz23 rfl (by repeat first | exact Mem.upd_self _ _ _ | assumption | refine Mem.upd_ne (by assumption) ?_) rfl rfl) rfl rfl rfl ?_
  refine o_call (snd18r (addP (md y) (md z)) (md z) _ (md_right _) hz) goes18 (ac (v_agg rfl) (ac (v_agg rfl) ac_nil)) rfl ?_
  refine o_q (q_mv (v_tup rfl)) rfl rfl rfl ?_
  refine o_q (q_ext rfl rfl (v_agg rfl)) rfl rfl rfl ?_
  refine o_q (q_ext rfl rfl (v_raw rfl)) rfl rfl rfl ?_
  refine o_alloc zc23 (fun B13 hB13 => ?_)
  have f1_13 : B1 ≠ B13 := Mem.fresh_ne hB13 (by repeat first | exact Mem.upd_self _ _ _ | assumption | refine Mem.upd_ne (by assumption) ?_)
  have g13_1 : B13 ≠ B1 := f1_13.symm
  have f2_13 : B2 ≠ B13 := Mem.fresh_ne hB13 (by repeat first | exact Mem.upd_self _ _ _ | assumption | refine Mem.upd_ne (by assumption) ?_)
  have g13_2 : B13 ≠ B2 := f2_13.symm
  have f3_13 : B3 ≠ B13 := Mem.fresh_ne hB13 (by repeat first | exact Mem.upd_self _ _ _ | assumption | refine Mem.upd_ne (by assumption) ?_)
  have g13_3 : B13 ≠ B3 := f3_13.symm
  have f4_13 : B4 ≠ B13 := Mem.fresh_ne hB13 (by repeat first | exact Mem.upd_self _ _ _ | assumption | refine Mem.upd_ne (by assumption) ?_)
  have g13_4 : B13 ≠ B4 := f4_13.symm
  have f5_13 : B5 ≠ B13 := Mem.fresh_ne hB13 (by repeat first | exact Mem.upd_self _ _ _ | assumption | refine Mem.upd_ne (by assumption) ?_)
  have g13_5 : B13 ≠ B5 := f5_13.symm
  have f6_13 : B6 ≠ B13 := Mem.fresh_ne hB13 (by repeat first | exact Mem.upd_self _ _ _ | assumption | refine Mem.upd_ne (by assumption) ?_)
  have g13_6 : B13 ≠ B6 := f6_13.symm
  have f7_13 : B7 ≠ B13 := Mem.fresh_ne hB13 (by repeat first | exact Mem.upd_self _ _ _ | assumption | refine Mem.upd_ne (by assumption) ?_)
  have g13_7 : B13 ≠ B7 := f7_13.symm
  have f8_13 : B8 ≠ B13 := Mem.fresh_ne hB13 (by repeat first | exact Mem.upd_self _ _ _ | assumption | refine Mem.upd_ne (by assumption) ?_)
  have g13_8 : B13 ≠ B8 := f8_13.symm
  have f9_13 : B9 ≠ B13 := Mem.fresh_ne hB13 (by repeat first | exact Mem.upd_self _ _ _ | assumption | refine Mem.upd_ne (by assumption) ?_)
  have g13_9 : B13 ≠ B9 := f9_13.symm
  have f10_13 : B10 ≠ B13 := Mem.fresh_ne hB13 (by repeat first | exact Mem.upd_self _ _ _ | assumption | refine Mem.upd_ne (by assumption) ?_)
  have g13_10 : B13 ≠ B10 := f10_13.symm
  have f11_13 : B11 ≠ B13 := Mem.fresh_ne hB13 (by repeat first | exact Mem.upd_self _ _ _ | assumption | refine Mem.upd_ne (by assumption) ?_)
  have g13_11 : B13 ≠ B11 := f11_13.symm
  have f12_13 : B12 ≠ B13 := Mem.fresh_ne hB13 (by repeat first | exact Mem.upd_self _ _ _ | assumption | refine Mem.upd_ne (by assumption) ?_)
  have g13_12 : B13 ≠ B12 := f12_13.symm
  have m13 : M B13 = none := by have h := hB13; repeat (first | exact h | exact Mem.none_of_le hle h | replace h := (Mem.upd_none h).2)
  refine o_storew rfl (by repeat first | exact Mem.upd_self _ _ _ | assumption | refine Mem.upd_ne (by assumption) ?_) (by first | exact e_agg rfl | rfl) rfl sz23 rfl rfl rfl rfl ?_
  refine o_q (q_as (v_raw rfl)) rfl rfl rfl ?_
  refine o_nil ?_
  refine s_seq ?_
  refine s_region ?_
  refine o_q (q_mv (v_raw rfl)) rfl rfl rfl ?_
  refine o_q (q_mv (v_raw rfl)) rfl rfl rfl ?_
  refine o_yes rfl rfl rfl rfl ?_
  refine o_q (q_ldmw ag23 sz23 rfl (by repeat first | exact Mem.upd_self _ _ _ | assumption | refine Mem.upd_ne (by assumption) ?_) rfl rfl) rfl rfl rfl ?_
  refine o_yes rfl rfl rfl rfl ?_
  refine o_q (q_ldmw ag23 sz23 rfl (by repeat first | exact Mem.upd_self _ _ _ | assumption | refine Mem.upd_ne (by assumption) ?_) rfl rfl) rfl rfl rfl ?_
  refine o_yes rfl rfl rfl rfl ?_
  refine o_q (q_bin' rfl rfl (binEqM _ _ (mulP (md x) (md y)) (mulP (md y) (md x)))) rfl rfl rfl ?_
  refine o_q (q_pick_c (t := true) rfl rfl (v_raw rfl)) rfl rfl rfl ?_
  refine o_q (q_mv (v_raw rfl)) rfl rfl rfl ?_
  refine o_yes rfl rfl rfl (decide_eq_true (mulP_comm _ _)) ?_
  refine o_q (q_ldmw ag23 sz23 rfl (by repeat first | exact Mem.upd_self _ _ _ | assumption | refine Mem.upd_ne (by assumption) ?_) rfl rfl) rfl rfl rfl ?_
  refine o_yes rfl rfl rfl (decide_eq_true (mulP_comm _ _)) ?_
  refine o_q (q_ldmw ag23 sz23 rfl (by repeat first | exact Mem.upd_self _ _ _ | assumption | refine Mem.upd_ne (by assumption) ?_) rfl rfl) rfl rfl rfl ?_
  refine o_yes rfl rfl rfl (decide_eq_true (mulP_comm _ _)) ?_
  refine o_q (q_bin' rfl rfl (binEqM _ _ (mulP (mulP (md x) (md y)) (md z)) (mulP (md x) (mulP (md y) (md z))))) rfl rfl rfl ?_
  refine o_q (q_pick_c (t := true) rfl (decide_eq_true (mulP_comm _ _)) (v_raw rfl)) rfl rfl rfl ?_
  refine o_q (q_mv (v_raw rfl)) rfl rfl rfl ?_
  refine o_yes rfl rfl rfl (decide_eq_true (mulP_assoc _ _ _)) ?_
  refine o_q (q_ldmw ag23 sz23 rfl (by repeat first | exact Mem.upd_self _ _ _ | assumption | refine Mem.upd_ne (by assumption) ?_) rfl rfl) rfl rfl rfl ?_
  refine o_yes rfl rfl rfl (decide_eq_true (mulP_assoc _ _ _)) ?_
  refine o_q (q_ldmw ag23 sz23 rfl (by repeat first | exact Mem.upd_self _ _ _ | assumption | refine Mem.upd_ne (by assumption) ?_) rfl rfl) rfl rfl rfl ?_
  refine o_yes rfl rfl rfl (decide_eq_true (mulP_assoc _ _ _)) ?_
  refine o_q (q_bin' rfl rfl (binEqM _ _ (mulP (md x) (addP (md y) (md z))) (addP (mulP (md x) (md y)) (mulP (md x) (md z))))) rfl rfl rfl ?_
  refine o_q (q_pick_c (t := true) rfl (decide_eq_true (mulP_assoc _ _ _)) (v_raw rfl)) rfl rfl rfl ?_
  refine o_q (q_mv (v_raw rfl)) rfl rfl rfl ?_
  refine o_yes rfl rfl rfl (decide_eq_true (mulP_add _ _ _)) ?_
  refine o_q (q_mv (v_raw rfl)) rfl rfl rfl ?_
  refine o_yes rfl rfl rfl (decide_eq_true (mulP_add _ _ _)) ?_
  refine o_q (q_eql rfl rfl) rfl rfl rfl ?_
  refine o_q (q_pick_c (t := true) rfl (decide_eq_true (mulP_add _ _ _)) (v_raw rfl)) rfl rfl rfl ?_
  refine o_q (q_mv (v_raw rfl)) rfl rfl rfl ?_
  refine o_yes rfl rfl rfl rfl ?_
  refine o_q (q_mv (v_raw rfl)) rfl rfl rfl ?_
  refine o_yes rfl rfl rfl rfl ?_
  refine o_q (q_eql rfl rfl) rfl rfl rfl ?_
  refine o_q (q_pick_c (t := true) rfl rfl (v_raw rfl)) rfl rfl rfl ?_
  refine o_q (q_mv (v_raw rfl)) rfl rfl rfl ?_
  refine o_yes rfl rfl rfl rfl ?_
  refine o_q (q_ldmw ag23 sz23 rfl (by repeat first | exact Mem.upd_self _ _ _ | assumption | refine Mem.upd_ne (by assumption) ?_) rfl rfl) rfl rfl rfl ?_
  refine o_yes rfl rfl rfl rfl ?_
  refine o_q (q_ldmw ag23 sz23 rfl (by repeat first | exact Mem.upd_self _ _ _ | assumption | refine Mem.upd_ne (by assumption) ?_) rfl rfl) rfl rfl rfl ?_
  refine o_yes rfl rfl rfl rfl ?_
  refine o_q (q_bin' rfl rfl (binEqM _ _ (subP (addP (md y) (md z)) (md z)) (md y))) rfl rfl rfl ?_
  refine o_q (q_pick_c (t := true) rfl rfl (v_raw rfl)) rfl rfl rfl ?_
  refine o_q (q_as (v_raw rfl)) rfl rfl rfl ?_
  refine o_nil ?_
  refine s_ret ?_
  refine s_end ?_
  exact ⟨congrArg (fun b => AVal.raw (.bool b)) (decide_eq_true (subP_addP _ _ hy)), (by repeat first | exact hle | exact Mem.le_refl M | assumption | exact Mem.none_of_le hle (by assumption) | refine Mem.le_upd ?_ ?_)⟩

def tk6 : Nat → Nat → Option Nat := fun _ _ => none
def pl6 : Nat → List PStep
  | 12 => [.q 0, .q 1, .q 2, .q 3, .q 4, .s 5 [2, 0], .q 6, .q 7, .q 8, .q 9, .q 10, .q 11, .q 12]
  | _ => []
theorem cb6 : Try.f6.body.map (codeB Try.prog Try.f6.ntmps tk6 pl6) = some true := by kernel_rfl
theorem goes6 : goesB Try.prog 6 = true := by kernel_rfl
-- carillon/carillonlaw03.GaussPowers params ['api.Pair', 'int'] results [['t', 4]] own [] names ['0:a', '1:n', '2:a', '3:n', '5:head', '6:right', '7:p', '8:e', '9:i', '10:f', '11:j', '12:ok'] calls [11, 16, 24, 25] paths 1
set_option maxHeartbeats 4000000 in
set_option maxRecDepth 20000 in
theorem snd6a (x : Pr) (n : Int) (M : Mem) (hn : n < 2 ^ 63) (hx : right x = false) : SoundCall Try.prog 6 [encP x, int n] M fun r M' => r = .raw (.bool true) ∧ M.le M' := by
  refine SoundCall.go tk6 pl6 mixed Try.func6 cb6 rfl (Nat.le_of_ble_eq_true rfl) ?_
  refine s_seq ?_
  refine s_region ?_
  refine o_box (by first | exact e_raw rfl | exact e_agg rfl | exact e_sl rfl) rfl rfl (fun B1 hB1 => ?_)
  have m1 : M B1 = none := by have h := hB1; repeat (first | exact h | exact Mem.none_of_le hle h | replace h := (Mem.upd_none h).2)
  refine o_q (q_as (v_raw rfl)) rfl rfl rfl ?_
  refine o_nil ?_
  refine s_seq ?_
  refine s_region ?_
  refine o_call ((snd11 _).det) goes11 ac_nil rfl ?_
  refine o_q (q_as (v_raw rfl)) rfl rfl rfl ?_
  refine o_nil ?_
  refine s_seq ?_
  refine s_region ?_
  refine o_q (q_ldmw ag23 sz23 rfl (by repeat first | exact Mem.upd_self _ _ _ | assumption | refine Mem.upd_ne (by assumption) ?_) rfl rfl) rfl rfl rfl ?_
  refine o_call (right_t _ hx) goes16 (ac (v_agg rfl) ac_nil) rfl ?_
  refine o_q (q_as (v_raw rfl)) rfl rfl rfl ?_
  refine o_nil ?_
  refine s_seq ?_
  refine s_region ?_
  refine o_q (q_ldmw ag23 sz23 rfl (by repeat first | exact Mem.upd_self _ _ _ | assumption | refine Mem.upd_ne (by assumption) ?_) rfl rfl) rfl rfl rfl ?_
  refine o_q (q_mv (v_raw rfl)) rfl rfl rfl ?_
  refine o_call (snd24f x n _ hn (by simp [hx])) goes24 (ac (v_agg rfl) (ac (v_raw rfl) ac_nil)) rfl ?_
  refine o_q (q_mv (v_tup rfl)) rfl rfl rfl ?_
  refine o_q (q_ext rfl rfl (v_agg rfl)) rfl rfl rfl ?_
  refine o_q (q_ext rfl rfl (v_raw rfl)) rfl rfl rfl ?_
  refine o_alloc zc23 (fun B2 hB2 => ?_)
  have f1_2 : B1 ≠ B2 := Mem.fresh_ne hB2 (by repeat first | exact Mem.upd_self _ _ _ | assumption | refine Mem.upd_ne (by assumption) ?_)
  have g2_1 : B2 ≠ B1 := f1_2.symm
  have m2 : M B2 = none := by have h := hB2; repeat (first | exact h | exact Mem.none_of_le hle h | replace h := (Mem.upd_none h).2)
  refine o_storew rfl (by repeat first | exact Mem.upd_self _ _ _ | assumption | refine Mem.upd_ne (by assumption) ?_) (by first | exact e_agg rfl | rfl) rfl sz23 rfl rfl rfl rfl ?_
  refine o_q (q_as (v_raw rfl)) rfl rfl rfl ?_
  refine o_nil ?_
  refine s_seq ?_
  refine s_region ?_
  refine o_q (q_ldmw ag23 sz23 rfl (by repeat first | exact Mem.upd_self _ _ _ | assumption | refine Mem.upd_ne (by assumption) ?_) rfl rfl) rfl rfl rfl ?_
  refine o_call (snd25f x _ hx) goes25 (ac (v_agg rfl) ac_nil) rfl ?_
  refine o_q (q_mv (v_tup rfl)) rfl rfl rfl ?_
  refine o_q (q_ext rfl rfl (v_agg rfl)) rfl rfl rfl ?_
  refine o_q (q_ext rfl rfl (v_raw rfl)) rfl rfl rfl ?_
  refine o_alloc zc23 (fun B3 hB3 => ?_)
  have f1_3 : B1 ≠ B3 := Mem.fresh_ne hB3 (by repeat first | exact Mem.upd_self _ _ _ | assumption | refine Mem.upd_ne (by assumption) ?_)
  have g3_1 : B3 ≠ B1 := f1_3.symm
  have f2_3 : B2 ≠ B3 := Mem.fresh_ne hB3 (by repeat first | exact Mem.upd_self _ _ _ | assumption | refine Mem.upd_ne (by assumption) ?_)
  have g3_2 : B3 ≠ B2 := f2_3.symm
  have m3 : M B3 = none := by have h := hB3; repeat (first | exact h | exact Mem.none_of_le hle h | replace h := (Mem.upd_none h).2)
  refine o_storew rfl (by repeat first | exact Mem.upd_self _ _ _ | assumption | refine Mem.upd_ne (by assumption) ?_) (by first | exact e_agg rfl | rfl) rfl sz23 rfl rfl rfl rfl ?_
  refine o_q (q_as (v_raw rfl)) rfl rfl rfl ?_
  refine o_nil ?_
  refine s_seq ?_
  refine s_seq ?_
  refine s_region ?_
  refine o_q (q_mv (v_raw rfl)) rfl rfl rfl ?_
  refine o_q (q_not rfl) rfl rfl rfl ?_
  refine o_nil ?_
  refine s_then rfl rfl ?_
  refine s_seq ?_
  refine s_region ?_
  refine o_q (q_mv (v_raw rfl)) rfl rfl rfl ?_
  refine o_q (q_mv (v_raw rfl)) rfl rfl rfl ?_
  refine o_yes rfl rfl rfl rfl ?_
  refine o_q (q_ldmw ag23 sz23 rfl (by repeat first | exact Mem.upd_self _ _ _ | assumption | refine Mem.upd_ne (by assumption) ?_) rfl rfl) rfl rfl rfl ?_
  refine o_yes rfl rfl rfl rfl ?_
  refine o_q (q_b (cs := [.raw (.int .i64 0), .raw (.int .i64 0)]) bz23 bp23 bf_nil) rfl rfl rfl ?_
  refine o_yes rfl rfl rfl rfl ?_
  refine o_q (q_bin' rfl rfl (binEqM _ _ ⟨0, 0⟩ ⟨0, 0⟩)) rfl rfl rfl ?_
  refine o_q (q_pick_c (t := true) rfl rfl (v_raw rfl)) rfl rfl rfl ?_
  refine o_q (q_mv (v_raw rfl)) rfl rfl rfl ?_
  refine o_yes rfl rfl rfl (by decide) ?_
  refine o_q (q_mv (v_raw rfl)) rfl rfl rfl ?_
  refine o_yes rfl rfl rfl (by decide) ?_
  refine o_q (q_eql rfl rfl) rfl rfl rfl ?_
  refine o_q (q_pick_c (t := true) rfl (by decide) (v_raw rfl)) rfl rfl rfl ?_
  refine o_q (q_mv (v_raw rfl)) rfl rfl rfl ?_
  refine o_yes rfl rfl rfl rfl ?_
  refine o_q (q_ldmw ag23 sz23 rfl (by repeat first | exact Mem.upd_self _ _ _ | assumption | refine Mem.upd_ne (by assumption) ?_) rfl rfl) rfl rfl rfl ?_
  refine o_yes rfl rfl rfl rfl ?_
  refine o_q (q_b (cs := [.raw (.int .i64 0), .raw (.int .i64 0)]) bz23 bp23 bf_nil) rfl rfl rfl ?_
  refine o_yes rfl rfl rfl rfl ?_
  refine o_q (q_bin' rfl rfl (binEqM _ _ ⟨0, 0⟩ ⟨0, 0⟩)) rfl rfl rfl ?_
  refine o_q (q_pick_c (t := true) rfl rfl (v_raw rfl)) rfl rfl rfl ?_
  refine o_q (q_mv (v_raw rfl)) rfl rfl rfl ?_
  refine o_yes rfl rfl rfl (by decide) ?_
  refine o_q (q_mv (v_raw rfl)) rfl rfl rfl ?_
  refine o_yes rfl rfl rfl (by decide) ?_
  refine o_q (q_eql rfl rfl) rfl rfl rfl ?_
  refine o_q (q_pick_c (t := true) rfl (by decide) (v_raw rfl)) rfl rfl rfl ?_
  refine o_q (q_as (v_raw rfl)) rfl rfl rfl ?_
  refine o_nil ?_
  refine s_ret ?_
  refine s_code_ret ?_
  refine s_end ?_
  exact ⟨congrArg (fun b => AVal.raw (.bool b)) (by decide), (by repeat first | exact hle | exact Mem.le_refl M | assumption | exact Mem.none_of_le hle (by assumption) | refine Mem.le_upd ?_ ?_)⟩

-- carillon/carillonlaw03.GaussPowers params ['api.Pair', 'int'] results [['t', 4]] own [] names ['0:a', '1:n', '2:a', '3:n', '5:head', '6:right', '7:p', '8:e', '9:i', '10:f', '11:j', '12:ok'] calls [11, 16, 24, 25, 26] paths 2
set_option maxHeartbeats 4000000 in
set_option maxRecDepth 20000 in
theorem snd6b (x : Pr) (n : Int) (M : Mem) (hn : n < 2 ^ 63) (hx : right x = true) (h0 : n < 0) : SoundCall Try.prog 6 [encP x, int n] M fun r M' => r = .raw (.bool true) ∧ M.le M' := by
  refine SoundCall.go tk6 pl6 mixed Try.func6 cb6 rfl (Nat.le_of_ble_eq_true rfl) ?_
  refine s_seq ?_
  refine s_region ?_
  refine o_box (by first | exact e_raw rfl | exact e_agg rfl | exact e_sl rfl) rfl rfl (fun B1 hB1 => ?_)
  have m1 : M B1 = none := by have h := hB1; repeat (first | exact h | exact Mem.none_of_le hle h | replace h := (Mem.upd_none h).2)
  refine o_q (q_as (v_raw rfl)) rfl rfl rfl ?_
  refine o_nil ?_
  refine s_seq ?_
  refine s_region ?_
  refine o_call ((snd11 _).det) goes11 ac_nil rfl ?_
  refine o_q (q_as (v_raw rfl)) rfl rfl rfl ?_
  refine o_nil ?_
  refine s_seq ?_
  refine s_region ?_
  refine o_q (q_ldmw ag23 sz23 rfl (by repeat first | exact Mem.upd_self _ _ _ | assumption | refine Mem.upd_ne (by assumption) ?_) rfl rfl) rfl rfl rfl ?_
  refine o_call (right_t _ hx) goes16 (ac (v_agg rfl) ac_nil) rfl ?_
  refine o_q (q_as (v_raw rfl)) rfl rfl rfl ?_
  refine o_nil ?_
  refine s_seq ?_
  refine s_region ?_
  refine o_q (q_ldmw ag23 sz23 rfl (by repeat first | exact Mem.upd_self _ _ _ | assumption | refine Mem.upd_ne (by assumption) ?_) rfl rfl) rfl rfl rfl ?_
  refine o_q (q_mv (v_raw rfl)) rfl rfl rfl ?_
  refine o_call (snd24f x n _ hn (by simp; omega)) goes24 (ac (v_agg rfl) (ac (v_raw rfl) ac_nil)) rfl ?_
  refine o_q (q_mv (v_tup rfl)) rfl rfl rfl ?_
  refine o_q (q_ext rfl rfl (v_agg rfl)) rfl rfl rfl ?_
  refine o_q (q_ext rfl rfl (v_raw rfl)) rfl rfl rfl ?_
  refine o_alloc zc23 (fun B2 hB2 => ?_)
  have f1_2 : B1 ≠ B2 := Mem.fresh_ne hB2 (by repeat first | exact Mem.upd_self _ _ _ | assumption | refine Mem.upd_ne (by assumption) ?_)
  have g2_1 : B2 ≠ B1 := f1_2.symm
  have m2 : M B2 = none := by have h := hB2; repeat (first | exact h | exact Mem.none_of_le hle h | replace h := (Mem.upd_none h).2)
  refine o_storew rfl (by repeat first | exact Mem.upd_self _ _ _ | assumption | refine Mem.upd_ne (by assumption) ?_) (by first | exact e_agg rfl | rfl) rfl sz23 rfl rfl rfl rfl ?_
  refine o_q (q_as (v_raw rfl)) rfl rfl rfl ?_
  refine o_nil ?_
  refine s_seq ?_
  refine s_region ?_
  refine o_q (q_ldmw ag23 sz23 rfl (by repeat first | exact Mem.upd_self _ _ _ | assumption | refine Mem.upd_ne (by assumption) ?_) rfl rfl) rfl rfl rfl ?_
  refine o_call (snd25r x _ hx) goes25 (ac (v_agg rfl) ac_nil) rfl ?_
  refine o_q (q_mv (v_tup rfl)) rfl rfl rfl ?_
  refine o_q (q_ext rfl rfl (v_agg rfl)) rfl rfl rfl ?_
  refine o_q (q_ext rfl rfl (v_raw rfl)) rfl rfl rfl ?_
  refine o_alloc zc23 (fun B3 hB3 => ?_)
  have f1_3 : B1 ≠ B3 := Mem.fresh_ne hB3 (by repeat first | exact Mem.upd_self _ _ _ | assumption | refine Mem.upd_ne (by assumption) ?_)
  have g3_1 : B3 ≠ B1 := f1_3.symm
  have f2_3 : B2 ≠ B3 := Mem.fresh_ne hB3 (by repeat first | exact Mem.upd_self _ _ _ | assumption | refine Mem.upd_ne (by assumption) ?_)
  have g3_2 : B3 ≠ B2 := f2_3.symm
  have m3 : M B3 = none := by have h := hB3; repeat (first | exact h | exact Mem.none_of_le hle h | replace h := (Mem.upd_none h).2)
  refine o_storew rfl (by repeat first | exact Mem.upd_self _ _ _ | assumption | refine Mem.upd_ne (by assumption) ?_) (by first | exact e_agg rfl | rfl) rfl sz23 rfl rfl rfl rfl ?_
  refine o_q (q_as (v_raw rfl)) rfl rfl rfl ?_
  refine o_nil ?_
  refine s_seq ?_
  refine s_seq ?_
  refine s_region ?_
  refine o_q (q_mv (v_raw rfl)) rfl rfl rfl ?_
  refine o_q (q_not rfl) rfl rfl rfl ?_
  refine o_nil ?_
  refine s_else rfl rfl ?_
  refine s_skip ?_
  refine s_seq ?_
  refine s_region ?_
  refine o_q (q_ldmw ag23 sz23 rfl (by repeat first | exact Mem.upd_self _ _ _ | assumption | refine Mem.upd_ne (by assumption) ?_) rfl rfl) rfl rfl rfl ?_
  refine o_call (snd26r x _ hx) goes26 (ac (v_agg rfl) ac_nil) rfl ?_
  refine o_q (q_mv (v_tup rfl)) rfl rfl rfl ?_
  refine o_q (q_ext rfl rfl (v_agg rfl)) rfl rfl rfl ?_
  refine o_q (q_ext rfl rfl (v_raw rfl)) rfl rfl rfl ?_
  refine o_alloc zc23 (fun B4 hB4 => ?_)
  have f1_4 : B1 ≠ B4 := Mem.fresh_ne hB4 (by repeat first | exact Mem.upd_self _ _ _ | assumption | refine Mem.upd_ne (by assumption) ?_)
  have g4_1 : B4 ≠ B1 := f1_4.symm
  have f2_4 : B2 ≠ B4 := Mem.fresh_ne hB4 (by repeat first | exact Mem.upd_self _ _ _ | assumption | refine Mem.upd_ne (by assumption) ?_)
  have g4_2 : B4 ≠ B2 := f2_4.symm
  have f3_4 : B3 ≠ B4 := Mem.fresh_ne hB4 (by repeat first | exact Mem.upd_self _ _ _ | assumption | refine Mem.upd_ne (by assumption) ?_)
  have g4_3 : B4 ≠ B3 := f3_4.symm
  have m4 : M B4 = none := by have h := hB4; repeat (first | exact h | exact Mem.none_of_le hle h | replace h := (Mem.upd_none h).2)
  refine o_storew rfl (by repeat first | exact Mem.upd_self _ _ _ | assumption | refine Mem.upd_ne (by assumption) ?_) (by first | exact e_agg rfl | rfl) rfl sz23 rfl rfl rfl rfl ?_
  refine o_q (q_as (v_raw rfl)) rfl rfl rfl ?_
  refine o_nil ?_
  refine s_seq ?_
  refine s_seq ?_
  refine s_region ?_
  refine o_q (q_ldmw ag23 sz23 rfl (by repeat first | exact Mem.upd_self _ _ _ | assumption | refine Mem.upd_ne (by assumption) ?_) rfl rfl) rfl rfl rfl ?_
  refine o_q (q_ldmw ag23 sz23 rfl (by repeat first | exact Mem.upd_self _ _ _ | assumption | refine Mem.upd_ne (by assumption) ?_) rfl rfl) rfl rfl rfl ?_
  refine o_q (q_bin' rfl rfl (binNeM _ _ (iv x) (iv x))) rfl rfl rfl ?_
  refine o_q (q_mv (v_raw rfl)) rfl rfl rfl ?_
  refine o_yes rfl rfl rfl (by simp) ?_
  refine o_q (q_mv (v_raw rfl)) rfl rfl rfl ?_
  refine o_yes rfl rfl rfl (by simp) ?_
  refine o_q (q_eql rfl rfl) rfl rfl rfl ?_
  refine o_yes rfl rfl rfl (by simp) ?_
  refine o_q (q_mv (v_raw rfl)) rfl rfl rfl ?_
  refine o_yes rfl rfl rfl (by simp) ?_
  refine o_q (q_bneq und4 rfl rfl) rfl rfl rfl ?_
  refine o_q (q_pick_c (t := false) rfl (by simp) (v_raw rfl)) rfl rfl rfl ?_
  refine o_q (q_mv (v_raw rfl)) rfl rfl rfl ?_
  refine o_yes rfl rfl rfl (by by_cases h0 : x = ⟨0, 0⟩ <;> simp [h0]) ?_
  refine o_q (q_mv (v_raw rfl)) rfl rfl rfl ?_
  refine o_yes rfl rfl rfl (by by_cases h0 : x = ⟨0, 0⟩ <;> simp [h0]) ?_
  refine o_q (q_not rfl) rfl rfl rfl ?_
  refine o_yes rfl rfl rfl (by by_cases h0 : x = ⟨0, 0⟩ <;> simp [h0]) ?_
  refine o_q (q_mv (v_raw rfl)) rfl rfl rfl ?_
  refine o_cases (want := true) (j := 12) rfl rfl (fun h1 => ?_) (fun h1 => ?_)
  · have k1 := h1; try simp only [decide_eq_true_eq, decide_eq_false_iff_not, Bool.not_eq_true', Bool.not_eq_false', Bool.not_true, Bool.not_false, List.length_map, Decidable.not_not] at k1
    refine o_yes rfl rfl rfl h1 ?_
    refine o_q (q_mv (v_raw rfl)) rfl rfl rfl ?_
    refine o_yes rfl rfl rfl h1 ?_
    refine o_q (q_neq rfl rfl) rfl rfl rfl ?_
    refine o_yes rfl rfl rfl (by by_cases h0 : x = ⟨0, 0⟩ <;> simp [h0]) ?_
    refine o_q (q_pick_c (t := true) rfl h1 (v_raw rfl)) rfl rfl rfl ?_
    refine o_q (q_pick_c (t := false) rfl (by by_cases h0 : x = ⟨0, 0⟩ <;> simp [h0]) (v_raw rfl)) rfl rfl rfl ?_
    refine o_nil ?_
    refine s_else rfl (by by_cases h0 : x = ⟨0, 0⟩ <;> simp_all) ?_
    refine s_skip ?_
    refine s_seq ?_
    refine s_seq ?_
    refine s_region ?_
    refine o_q (q_mv (v_raw rfl)) rfl rfl rfl ?_
    refine o_q (q_lss rfl rfl) rfl rfl rfl ?_
    refine o_nil ?_
    refine s_then rfl (decide_eq_true h0) ?_
    refine s_seq ?_
    refine s_region ?_
    refine o_q (q_mv (v_raw rfl)) rfl rfl rfl ?_
    refine o_q (q_mv (v_raw rfl)) rfl rfl rfl ?_
    refine o_yes rfl rfl rfl rfl ?_
    refine o_q (q_ldmw ag23 sz23 rfl (by repeat first | exact Mem.upd_self _ _ _ | assumption | refine Mem.upd_ne (by assumption) ?_) rfl rfl) rfl rfl rfl ?_
    refine o_yes rfl rfl rfl rfl ?_
    refine o_q (q_b (cs := [.raw (.int .i64 0), .raw (.int .i64 0)]) bz23 bp23 bf_nil) rfl rfl rfl ?_
    refine o_yes rfl rfl rfl rfl ?_
    refine o_q (q_bin' rfl rfl (binEqM _ _ ⟨0, 0⟩ ⟨0, 0⟩)) rfl rfl rfl ?_
    refine o_q (q_pick_c (t := true) rfl rfl (v_raw rfl)) rfl rfl rfl ?_
    refine o_q (q_mv (v_raw rfl)) rfl rfl rfl ?_
    refine o_yes rfl rfl rfl (by decide) ?_
    refine o_q (q_mv (v_raw rfl)) rfl rfl rfl ?_
    refine o_yes rfl rfl rfl (by decide) ?_
    refine o_q (q_eql rfl rfl) rfl rfl rfl ?_
    refine o_q (q_pick_c (t := true) rfl (by decide) (v_raw rfl)) rfl rfl rfl ?_
    refine o_q (q_as (v_raw rfl)) rfl rfl rfl ?_
    refine o_nil ?_
    refine s_ret ?_
    refine s_code_ret ?_
    refine s_end ?_
    exact ⟨congrArg (fun b => AVal.raw (.bool b)) (by decide), (by repeat first | exact hle | exact Mem.le_refl M | assumption | exact Mem.none_of_le hle (by assumption) | refine Mem.le_upd ?_ ?_)⟩
  · have k1 := h1; try simp only [decide_eq_true_eq, decide_eq_false_iff_not, Bool.not_eq_true', Bool.not_eq_false', Bool.not_true, Bool.not_false, List.length_map, Decidable.not_not] at k1
    refine o_no rfl rfl rfl rfl h1 ?_
    refine o_no rfl rfl rfl rfl h1 ?_
    refine o_yes rfl rfl rfl (by by_cases h0 : x = ⟨0, 0⟩ <;> simp [h0]) ?_
    refine o_q (q_pick_c (t := false) rfl h1 (v_raw rfl)) rfl rfl rfl ?_
    refine o_q (q_pick_c (t := false) rfl (by by_cases h0 : x = ⟨0, 0⟩ <;> simp [h0]) (v_raw rfl)) rfl rfl rfl ?_
    refine o_nil ?_
    refine s_else rfl rfl ?_
    refine s_skip ?_
    refine s_seq ?_
    refine s_seq ?_
    refine s_region ?_
    refine o_q (q_mv (v_raw rfl)) rfl rfl rfl ?_
    refine o_q (q_lss rfl rfl) rfl rfl rfl ?_
    refine o_nil ?_
    refine s_then rfl (decide_eq_true h0) ?_
    refine s_seq ?_
    refine s_region ?_
    refine o_q (q_mv (v_raw rfl)) rfl rfl rfl ?_
    refine o_q (q_mv (v_raw rfl)) rfl rfl rfl ?_
    refine o_yes rfl rfl rfl rfl ?_
    refine o_q (q_ldmw ag23 sz23 rfl (by repeat first | exact Mem.upd_self _ _ _ | assumption | refine Mem.upd_ne (by assumption) ?_) rfl rfl) rfl rfl rfl ?_
    refine o_yes rfl rfl rfl rfl ?_
    refine o_q (q_b (cs := [.raw (.int .i64 0), .raw (.int .i64 0)]) bz23 bp23 bf_nil) rfl rfl rfl ?_
    refine o_yes rfl rfl rfl rfl ?_
    refine o_q (q_bin' rfl rfl (binEqM _ _ ⟨0, 0⟩ ⟨0, 0⟩)) rfl rfl rfl ?_
    refine o_q (q_pick_c (t := true) rfl rfl (v_raw rfl)) rfl rfl rfl ?_
    refine o_q (q_mv (v_raw rfl)) rfl rfl rfl ?_
    refine o_yes rfl rfl rfl (by decide) ?_
    refine o_q (q_mv (v_raw rfl)) rfl rfl rfl ?_
    refine o_yes rfl rfl rfl (by decide) ?_
    refine o_q (q_eql rfl rfl) rfl rfl rfl ?_
    refine o_q (q_pick_c (t := true) rfl (by decide) (v_raw rfl)) rfl rfl rfl ?_
    refine o_q (q_as (v_raw rfl)) rfl rfl rfl ?_
    refine o_nil ?_
    refine s_ret ?_
    refine s_code_ret ?_
    refine s_end ?_
    exact ⟨congrArg (fun b => AVal.raw (.bool b)) (by decide), (by repeat first | exact hle | exact Mem.le_refl M | assumption | exact Mem.none_of_le hle (by assumption) | refine Mem.le_upd ?_ ?_)⟩

-- carillon/carillonlaw03.GaussPowers params ['api.Pair', 'int'] results [['t', 4]] own [] names ['0:a', '1:n', '2:a', '3:n', '5:head', '6:right', '7:p', '8:e', '9:i', '10:f', '11:j', '12:ok'] calls [11, 16, 24, 25, 26, 27] paths 2
set_option maxHeartbeats 4000000 in
set_option maxRecDepth 20000 in
theorem snd6c (x : Pr) (n : Int) (M : Mem) (hn : n < 2 ^ 63) (hx : right x = true) (h0 : 0 ≤ n) : SoundCall Try.prog 6 [encP x, int n] M fun r M' => r = .raw (.bool true) ∧ M.le M' := by
  refine SoundCall.go tk6 pl6 mixed Try.func6 cb6 rfl (Nat.le_of_ble_eq_true rfl) ?_
  refine s_seq ?_
  refine s_region ?_
  refine o_box (by first | exact e_raw rfl | exact e_agg rfl | exact e_sl rfl) rfl rfl (fun B1 hB1 => ?_)
  have m1 : M B1 = none := by have h := hB1; repeat (first | exact h | exact Mem.none_of_le hle h | replace h := (Mem.upd_none h).2)
  refine o_q (q_as (v_raw rfl)) rfl rfl rfl ?_
  refine o_nil ?_
  refine s_seq ?_
  refine s_region ?_
  refine o_call ((snd11 _).det) goes11 ac_nil rfl ?_
  refine o_q (q_as (v_raw rfl)) rfl rfl rfl ?_
  refine o_nil ?_
  refine s_seq ?_
  refine s_region ?_
  refine o_q (q_ldmw ag23 sz23 rfl (by repeat first | exact Mem.upd_self _ _ _ | assumption | refine Mem.upd_ne (by assumption) ?_) rfl rfl) rfl rfl rfl ?_
  refine o_call (right_t _ hx) goes16 (ac (v_agg rfl) ac_nil) rfl ?_
  refine o_q (q_as (v_raw rfl)) rfl rfl rfl ?_
  refine o_nil ?_
  refine s_seq ?_
  refine s_region ?_
  refine o_q (q_ldmw ag23 sz23 rfl (by repeat first | exact Mem.upd_self _ _ _ | assumption | refine Mem.upd_ne (by assumption) ?_) rfl rfl) rfl rfl rfl ?_
  refine o_q (q_mv (v_raw rfl)) rfl rfl rfl ?_
  refine o_call (snd24r x n _ hx h0 hn) goes24 (ac (v_agg rfl) (ac (v_raw rfl) ac_nil)) rfl ?_
  refine o_q (q_mv (v_tup rfl)) rfl rfl rfl ?_
  refine o_q (q_ext rfl rfl (v_agg rfl)) rfl rfl rfl ?_
  refine o_q (q_ext rfl rfl (v_raw rfl)) rfl rfl rfl ?_
  refine o_alloc zc23 (fun B2 hB2 => ?_)
  have f1_2 : B1 ≠ B2 := Mem.fresh_ne hB2 (by repeat first | exact Mem.upd_self _ _ _ | assumption | refine Mem.upd_ne (by assumption) ?_)
  have g2_1 : B2 ≠ B1 := f1_2.symm
  have m2 : M B2 = none := by have h := hB2; repeat (first | exact h | exact Mem.none_of_le hle h | replace h := (Mem.upd_none h).2)
  refine o_storew rfl (by repeat first | exact Mem.upd_self _ _ _ | assumption | refine Mem.upd_ne (by assumption) ?_) (by first | exact e_agg rfl | rfl) rfl sz23 rfl rfl rfl rfl ?_
  refine o_q (q_as (v_raw rfl)) rfl rfl rfl ?_
  refine o_nil ?_
  refine s_seq ?_
  refine s_region ?_
  refine o_q (q_ldmw ag23 sz23 rfl (by repeat first | exact Mem.upd_self _ _ _ | assumption | refine Mem.upd_ne (by assumption) ?_) rfl rfl) rfl rfl rfl ?_
  refine o_call (snd25r x _ hx) goes25 (ac (v_agg rfl) ac_nil) rfl ?_
  refine o_q (q_mv (v_tup rfl)) rfl rfl rfl ?_
  refine o_q (q_ext rfl rfl (v_agg rfl)) rfl rfl rfl ?_
  refine o_q (q_ext rfl rfl (v_raw rfl)) rfl rfl rfl ?_
  refine o_alloc zc23 (fun B3 hB3 => ?_)
  have f1_3 : B1 ≠ B3 := Mem.fresh_ne hB3 (by repeat first | exact Mem.upd_self _ _ _ | assumption | refine Mem.upd_ne (by assumption) ?_)
  have g3_1 : B3 ≠ B1 := f1_3.symm
  have f2_3 : B2 ≠ B3 := Mem.fresh_ne hB3 (by repeat first | exact Mem.upd_self _ _ _ | assumption | refine Mem.upd_ne (by assumption) ?_)
  have g3_2 : B3 ≠ B2 := f2_3.symm
  have m3 : M B3 = none := by have h := hB3; repeat (first | exact h | exact Mem.none_of_le hle h | replace h := (Mem.upd_none h).2)
  refine o_storew rfl (by repeat first | exact Mem.upd_self _ _ _ | assumption | refine Mem.upd_ne (by assumption) ?_) (by first | exact e_agg rfl | rfl) rfl sz23 rfl rfl rfl rfl ?_
  refine o_q (q_as (v_raw rfl)) rfl rfl rfl ?_
  refine o_nil ?_
  refine s_seq ?_
  refine s_seq ?_
  refine s_region ?_
  refine o_q (q_mv (v_raw rfl)) rfl rfl rfl ?_
  refine o_q (q_not rfl) rfl rfl rfl ?_
  refine o_nil ?_
  refine s_else rfl rfl ?_
  refine s_skip ?_
  refine s_seq ?_
  refine s_region ?_
  refine o_q (q_ldmw ag23 sz23 rfl (by repeat first | exact Mem.upd_self _ _ _ | assumption | refine Mem.upd_ne (by assumption) ?_) rfl rfl) rfl rfl rfl ?_
  refine o_call (snd26r x _ hx) goes26 (ac (v_agg rfl) ac_nil) rfl ?_
  refine o_q (q_mv (v_tup rfl)) rfl rfl rfl ?_
  refine o_q (q_ext rfl rfl (v_agg rfl)) rfl rfl rfl ?_
  refine o_q (q_ext rfl rfl (v_raw rfl)) rfl rfl rfl ?_
  refine o_alloc zc23 (fun B4 hB4 => ?_)
  have f1_4 : B1 ≠ B4 := Mem.fresh_ne hB4 (by repeat first | exact Mem.upd_self _ _ _ | assumption | refine Mem.upd_ne (by assumption) ?_)
  have g4_1 : B4 ≠ B1 := f1_4.symm
  have f2_4 : B2 ≠ B4 := Mem.fresh_ne hB4 (by repeat first | exact Mem.upd_self _ _ _ | assumption | refine Mem.upd_ne (by assumption) ?_)
  have g4_2 : B4 ≠ B2 := f2_4.symm
  have f3_4 : B3 ≠ B4 := Mem.fresh_ne hB4 (by repeat first | exact Mem.upd_self _ _ _ | assumption | refine Mem.upd_ne (by assumption) ?_)
  have g4_3 : B4 ≠ B3 := f3_4.symm
  have m4 : M B4 = none := by have h := hB4; repeat (first | exact h | exact Mem.none_of_le hle h | replace h := (Mem.upd_none h).2)
  refine o_storew rfl (by repeat first | exact Mem.upd_self _ _ _ | assumption | refine Mem.upd_ne (by assumption) ?_) (by first | exact e_agg rfl | rfl) rfl sz23 rfl rfl rfl rfl ?_
  refine o_q (q_as (v_raw rfl)) rfl rfl rfl ?_
  refine o_nil ?_
  refine s_seq ?_
  refine s_seq ?_
  refine s_region ?_
  refine o_q (q_ldmw ag23 sz23 rfl (by repeat first | exact Mem.upd_self _ _ _ | assumption | refine Mem.upd_ne (by assumption) ?_) rfl rfl) rfl rfl rfl ?_
  refine o_q (q_ldmw ag23 sz23 rfl (by repeat first | exact Mem.upd_self _ _ _ | assumption | refine Mem.upd_ne (by assumption) ?_) rfl rfl) rfl rfl rfl ?_
  refine o_q (q_bin' rfl rfl (binNeM _ _ (iv x) (iv x))) rfl rfl rfl ?_
  refine o_q (q_mv (v_raw rfl)) rfl rfl rfl ?_
  refine o_yes rfl rfl rfl (by simp) ?_
  refine o_q (q_mv (v_raw rfl)) rfl rfl rfl ?_
  refine o_yes rfl rfl rfl (by simp) ?_
  refine o_q (q_eql rfl rfl) rfl rfl rfl ?_
  refine o_yes rfl rfl rfl (by simp) ?_
  refine o_q (q_mv (v_raw rfl)) rfl rfl rfl ?_
  refine o_yes rfl rfl rfl (by simp) ?_
  refine o_q (q_bneq und4 rfl rfl) rfl rfl rfl ?_
  refine o_q (q_pick_c (t := false) rfl (by simp) (v_raw rfl)) rfl rfl rfl ?_
  refine o_q (q_mv (v_raw rfl)) rfl rfl rfl ?_
  refine o_yes rfl rfl rfl (by by_cases h0 : x = ⟨0, 0⟩ <;> simp [h0]) ?_
  refine o_q (q_mv (v_raw rfl)) rfl rfl rfl ?_
  refine o_yes rfl rfl rfl (by by_cases h0 : x = ⟨0, 0⟩ <;> simp [h0]) ?_
  refine o_q (q_not rfl) rfl rfl rfl ?_
  refine o_yes rfl rfl rfl (by by_cases h0 : x = ⟨0, 0⟩ <;> simp [h0]) ?_
  refine o_q (q_mv (v_raw rfl)) rfl rfl rfl ?_
  refine o_cases (want := true) (j := 12) rfl rfl (fun h1 => ?_) (fun h1 => ?_)
  · have k1 := h1; try simp only [decide_eq_true_eq, decide_eq_false_iff_not, Bool.not_eq_true', Bool.not_eq_false', Bool.not_true, Bool.not_false, List.length_map, Decidable.not_not] at k1
    refine o_yes rfl rfl rfl h1 ?_
    refine o_q (q_mv (v_raw rfl)) rfl rfl rfl ?_
    refine o_yes rfl rfl rfl h1 ?_
    refine o_q (q_neq rfl rfl) rfl rfl rfl ?_
    refine o_yes rfl rfl rfl (by by_cases h0 : x = ⟨0, 0⟩ <;> simp [h0]) ?_
    refine o_q (q_pick_c (t := true) rfl h1 (v_raw rfl)) rfl rfl rfl ?_
    refine o_q (q_pick_c (t := false) rfl (by by_cases h0 : x = ⟨0, 0⟩ <;> simp [h0]) (v_raw rfl)) rfl rfl rfl ?_
    refine o_nil ?_
    refine s_else rfl (by by_cases h0 : x = ⟨0, 0⟩ <;> simp_all) ?_
    refine s_skip ?_
    refine s_seq ?_
    refine s_seq ?_
    refine s_region ?_
    refine o_q (q_mv (v_raw rfl)) rfl rfl rfl ?_
    refine o_q (q_lss rfl rfl) rfl rfl rfl ?_
    refine o_nil ?_
    refine s_else rfl (decide_eq_false (by omega)) ?_
    refine s_skip ?_
    refine s_seq ?_
    refine s_draw rfl ?_
    refine d_q rfl (q_mv (v_raw rfl)) rfl rfl rfl ?_
    refine d_q rfl (q_mv (v_raw rfl)) rfl rfl rfl ?_
    refine d_yes rfl (q_ldmw ag23 sz23 rfl (by repeat first | exact Mem.upd_self _ _ _ | assumption | refine Mem.upd_ne (by assumption) ?_) rfl rfl) rfl rfl rfl rfl rfl rfl ?_
    refine d_yes rfl (q_ldmw ag23 sz23 rfl (by repeat first | exact Mem.upd_self _ _ _ | assumption | refine Mem.upd_ne (by assumption) ?_) rfl rfl) rfl rfl rfl rfl rfl rfl ?_
    refine d_yes rfl (q_mv (v_raw rfl)) rfl rfl rfl rfl rfl rfl ?_
    refine d_s rfl ?_
    refine o_yes rfl rfl rfl rfl ?_
    refine o_call (snd27i x n _ hx h0 hn) goes27 (ac (v_agg rfl) (ac (v_raw rfl) ac_nil)) rfl ?_
    refine o_nil ⟨(by simp [Mem.upd, *]), ?_⟩
    refine d_yes rfl (q_bin' rfl rfl (binEqM _ _ (pw x n.toNat) (pw x n.toNat))) rfl rfl rfl rfl rfl rfl ?_
    refine d_q rfl (q_pick_c (t := true) rfl rfl (v_raw rfl)) rfl rfl rfl ?_
    refine d_q rfl (q_mv (v_raw rfl)) rfl rfl rfl ?_
    refine d_yes rfl (q_mv (v_raw rfl)) rfl rfl rfl (by simp) rfl rfl ?_
    refine d_yes rfl (q_eql rfl rfl) rfl rfl rfl (by simp) rfl rfl ?_
    refine d_q rfl (q_pick_c (t := true) rfl (by simp) (v_raw rfl)) rfl rfl rfl ?_
    refine d_q rfl (q_as (v_raw rfl)) rfl rfl rfl ?_
    refine d_nil ?_
    refine s_ret ?_
    refine s_end ?_
    exact ⟨congrArg (fun b => AVal.raw (.bool b)) (by decide), (by repeat first | exact hle | exact Mem.le_refl M | assumption | exact Mem.none_of_le hle (by assumption) | refine Mem.le_upd ?_ ?_)⟩
  · have k1 := h1; try simp only [decide_eq_true_eq, decide_eq_false_iff_not, Bool.not_eq_true', Bool.not_eq_false', Bool.not_true, Bool.not_false, List.length_map, Decidable.not_not] at k1
    refine o_no rfl rfl rfl rfl h1 ?_
    refine o_no rfl rfl rfl rfl h1 ?_
    refine o_yes rfl rfl rfl (by by_cases h0 : x = ⟨0, 0⟩ <;> simp [h0]) ?_
    refine o_q (q_pick_c (t := false) rfl h1 (v_raw rfl)) rfl rfl rfl ?_
    refine o_q (q_pick_c (t := false) rfl (by by_cases h0 : x = ⟨0, 0⟩ <;> simp [h0]) (v_raw rfl)) rfl rfl rfl ?_
    refine o_nil ?_
    refine s_else rfl rfl ?_
    refine s_skip ?_
    refine s_seq ?_
    refine s_seq ?_
    refine s_region ?_
    refine o_q (q_mv (v_raw rfl)) rfl rfl rfl ?_
    refine o_q (q_lss rfl rfl) rfl rfl rfl ?_
    refine o_nil ?_
    refine s_else rfl (decide_eq_false (by omega)) ?_
    refine s_skip ?_
    refine s_seq ?_
    refine s_draw rfl ?_
    refine d_q rfl (q_mv (v_raw rfl)) rfl rfl rfl ?_
    refine d_q rfl (q_mv (v_raw rfl)) rfl rfl rfl ?_
    refine d_yes rfl (q_ldmw ag23 sz23 rfl (by repeat first | exact Mem.upd_self _ _ _ | assumption | refine Mem.upd_ne (by assumption) ?_) rfl rfl) rfl rfl rfl rfl rfl rfl ?_
    refine d_yes rfl (q_ldmw ag23 sz23 rfl (by repeat first | exact Mem.upd_self _ _ _ | assumption | refine Mem.upd_ne (by assumption) ?_) rfl rfl) rfl rfl rfl rfl rfl rfl ?_
    refine d_yes rfl (q_mv (v_raw rfl)) rfl rfl rfl rfl rfl rfl ?_
    refine d_s rfl ?_
    refine o_yes rfl rfl rfl rfl ?_
    refine o_call (snd27i x n _ hx h0 hn) goes27 (ac (v_agg rfl) (ac (v_raw rfl) ac_nil)) rfl ?_
    refine o_nil ⟨(by simp [Mem.upd, *]), ?_⟩
    refine d_yes rfl (q_bin' rfl rfl (binEqM _ _ (pw x n.toNat) (pw x n.toNat))) rfl rfl rfl rfl rfl rfl ?_
    refine d_q rfl (q_pick_c (t := true) rfl rfl (v_raw rfl)) rfl rfl rfl ?_
    refine d_q rfl (q_mv (v_raw rfl)) rfl rfl rfl ?_
    refine d_yes rfl (q_mv (v_raw rfl)) rfl rfl rfl (by simp) rfl rfl ?_
    refine d_yes rfl (q_eql rfl rfl) rfl rfl rfl (by simp) rfl rfl ?_
    refine d_q rfl (q_pick_c (t := true) rfl (by simp) (v_raw rfl)) rfl rfl rfl ?_
    refine d_q rfl (q_as (v_raw rfl)) rfl rfl rfl ?_
    refine d_nil ?_
    refine s_ret ?_
    refine s_end ?_
    exact ⟨congrArg (fun b => AVal.raw (.bool b)) (by decide), (by repeat first | exact hle | exact Mem.le_refl M | assumption | exact Mem.none_of_le hle (by assumption) | refine Mem.le_upd ?_ ?_)⟩

def tk8 : Nat → Nat → Option Nat := fun _ _ => none
def pl8 : Nat → List PStep := fun _ => []
theorem cb8 : Try.f8.body.map (codeB Try.prog Try.f8.ntmps tk8 pl8) = some true := by kernel_rfl
theorem goes8 : goesB Try.prog 8 = true := by kernel_rfl
-- carillon/carillonlaw03.GaussInverses params ['api.Pair', 'int', 'int'] results [['t', 6]] own [] names ['0:a', '1:n', '2:m', '3:a', '4:n', '5:m', '7:head', '8:x', '9:_', '10:y', '11:_', '12:z', '13:e', '14:p', '15:_', '16:i', '17:f', '18:o', '19:_'] calls [11, 12, 14, 24, 25] paths 6
set_option maxHeartbeats 4000000 in
set_option maxRecDepth 20000 in
theorem snd8 (x : Pr) (n m : Int) (M : Mem) (hn : -2 ^ 63 ≤ n ∧ n < 2 ^ 63) (hm : -2 ^ 63 ≤ m ∧ m < 2 ^ 63) : SoundCall Try.prog 8 [encP x, int n, int m] M fun r M' => r = .raw (.bool true) ∧ M.le M' := by
  have hx := md_right x
  refine SoundCall.go tk8 pl8 mixed Try.func8 cb8 rfl (Nat.le_of_ble_eq_true rfl) ?_
  refine s_seq ?_
  refine s_region ?_
  refine o_box (by first | exact e_raw rfl | exact e_agg rfl | exact e_sl rfl) rfl rfl (fun B1 hB1 => ?_)
  have m1 : M B1 = none := by have h := hB1; repeat (first | exact h | exact Mem.none_of_le hle h | replace h := (Mem.upd_none h).2)
  refine o_q (q_as (v_raw rfl)) rfl rfl rfl ?_
  refine o_nil ?_
  refine s_seq ?_
  refine s_region ?_
  refine o_call ((snd11 _).det) goes11 ac_nil rfl ?_
  refine o_q (q_as (v_raw rfl)) rfl rfl rfl ?_
  refine o_nil ?_
  refine s_seq ?_
  refine s_region ?_
  refine o_q (q_ldmw ag23 sz23 rfl (by repeat first | exact Mem.upd_self _ _ _ | assumption | refine Mem.upd_ne (by assumption) ?_) rfl rfl) rfl rfl rfl ?_
  refine o_call ((snd12 x _).det) goes12 (ac (v_agg rfl) ac_nil) rfl ?_
  refine o_storew rfl (by repeat first | exact Mem.upd_self _ _ _ | assumption | refine Mem.upd_ne (by assumption) ?_) (by first | exact e_agg rfl | rfl) rfl sz23 rfl rfl rfl rfl ?_
  refine o_nil ?_
  refine s_seq ?_
  refine s_seq ?_
  refine s_region ?_
  refine o_q (q_mv (v_raw rfl)) rfl rfl rfl ?_
  refine o_q (q_lss rfl rfl) rfl rfl rfl ?_
  refine o_nil ?_
  refine s_cut (fun S => ∃ T, ∃ M' : Mem, ∃ k1 : Int, S = ⟨setT (setT (setT (setT T 3 (ptr B1)) 7 (.raw (.bool true))) 1 (int k1)) 2 (int m), M'⟩ ∧ M.le M' ∧ M' B1 = some (.cells (encP (md x)).cells) ∧ 0 ≤ k1 ∧ k1 < 2 ^ 63) ?_ ?_
  · skip
    refine s_cond rfl (fun h1 => ?_) (fun h1 => ?_)
    · have k1 := h1; try simp only [decide_eq_true_eq, decide_eq_false_iff_not, Bool.not_eq_true', Bool.not_eq_false', Bool.not_true, Bool.not_false, List.length_map, Decidable.not_not] at k1
      refine s_region ?_
      refine o_q (q_mv (v_raw rfl)) rfl rfl rfl ?_
      refine o_q (q_add rfl rfl (wrap64 (by omega) (by omega))) rfl rfl rfl ?_
      refine o_q (q_neg rfl (wrap64 (by omega) (by omega))) rfl rfl rfl ?_
      refine o_q (q_as (v_raw rfl)) rfl rfl rfl ?_
      refine o_nil ?_
      refine s_inv ?_
      exact ⟨_, _, -(n + 1), St.mkT (kp (kp (kp (kp rfl rfl) rfl) rfl) rfl).symm, (by repeat first | exact hle | exact Mem.le_refl M | assumption | exact Mem.none_of_le hle (by assumption) | refine Mem.le_upd ?_ ?_), (by repeat first | exact Mem.upd_self _ _ _ | assumption | refine Mem.upd_ne (by assumption) ?_), by omega, by omega⟩
    · have k1 := h1; try simp only [decide_eq_true_eq, decide_eq_false_iff_not, Bool.not_eq_true', Bool.not_eq_false', Bool.not_true, Bool.not_false, List.length_map, Decidable.not_not] at k1
      refine s_skip ?_
      refine s_inv ?_
      exact ⟨_, _, n, St.mkT (kp (kp (kp (kp rfl rfl) rfl) rfl) rfl).symm, (by repeat first | exact hle | exact Mem.le_refl M | assumption | exact Mem.none_of_le hle (by assumption) | refine Mem.le_upd ?_ ?_), (by repeat first | exact Mem.upd_self _ _ _ | assumption | refine Mem.upd_ne (by assumption) ?_), by omega, by omega⟩
  rintro S ⟨T, M', k1, rfl, hle, bx, k10, k11⟩
  refine s_seq ?_
  refine s_seq ?_
  refine s_region ?_
  refine o_q (q_mv (v_raw rfl)) rfl rfl rfl ?_
  refine o_q (q_lss rfl rfl) rfl rfl rfl ?_
  refine o_nil ?_
  refine s_cut (fun S => ∃ T, ∃ k2 : Int, S = ⟨setT (setT (setT (setT T 3 (ptr B1)) 7 (.raw (.bool true))) 1 (int k1)) 2 (int k2), M'⟩ ∧ 0 ≤ k2 ∧ k2 < 2 ^ 63) ?_ ?_
  · skip
    refine s_cond rfl (fun h2 => ?_) (fun h2 => ?_)
    · have k2 := h2; try simp only [decide_eq_true_eq, decide_eq_false_iff_not, Bool.not_eq_true', Bool.not_eq_false', Bool.not_true, Bool.not_false, List.length_map, Decidable.not_not] at k2
      refine s_region ?_
      refine o_q (q_mv (v_raw rfl)) rfl rfl rfl ?_
      refine o_q (q_add rfl rfl (wrap64 (by omega) (by omega))) rfl rfl rfl ?_
      refine o_q (q_neg rfl (wrap64 (by omega) (by omega))) rfl rfl rfl ?_
      refine o_q (q_as (v_raw rfl)) rfl rfl rfl ?_
      refine o_nil ?_
      refine s_inv ?_
      exact ⟨_, -(m + 1), St.mkT (kp (kp (kp (kp rfl rfl) rfl) rfl) rfl).symm, by omega, by omega⟩
    · have k2 := h2; try simp only [decide_eq_true_eq, decide_eq_false_iff_not, Bool.not_eq_true', Bool.not_eq_false', Bool.not_true, Bool.not_false, List.length_map, Decidable.not_not] at k2
      refine s_skip ?_
      refine s_inv ?_
      exact ⟨_, m, St.mkT (kp (kp (kp (kp rfl rfl) rfl) rfl) rfl).symm, by omega, by omega⟩
  rintro S ⟨T, k2, rfl, k20, k21⟩
  have e1 : k1.tdiv 4 = k1 / 4 := Int.tdiv_eq_ediv_of_nonneg k10
  have e2 : k2.tdiv 4 = k2 / 4 := Int.tdiv_eq_ediv_of_nonneg k20
  have q1 : 0 ≤ k1.tdiv 4 ∧ k1.tdiv 4 < 2 ^ 61 := by omega
  have q2 : 0 ≤ k2.tdiv 4 ∧ k2.tdiv 4 < 2 ^ 61 := by omega
  have q11 := q1.1
  have q12 := q1.2
  have q21 := q2.1
  have q22 := q2.2
  have pz : mulP (pw (md x) (k1.tdiv 4).toNat) (pw (md x) (k2.tdiv 4).toNat) = (pw (md x) ((k1.tdiv 4) + (k2.tdiv 4)).toNat) := by
    rw [pw_add _ (by omega)]
    congr 1
    omega
  refine s_seq ?_
  refine s_region ?_
  refine o_q (q_mv (v_raw rfl)) rfl rfl rfl ?_
  refine o_q (q_quo rfl rfl (by omega) (wrap64 (by omega) (by omega))) rfl rfl rfl ?_
  refine o_q (q_as (v_raw rfl)) rfl rfl rfl ?_
  refine o_nil ?_
  refine s_seq ?_
  refine s_region ?_
  refine o_q (q_mv (v_raw rfl)) rfl rfl rfl ?_
  refine o_q (q_quo rfl rfl (by omega) (wrap64 (by omega) (by omega))) rfl rfl rfl ?_
  refine o_q (q_as (v_raw rfl)) rfl rfl rfl ?_
  refine o_nil ?_
  refine s_seq ?_
  refine s_region ?_
  refine o_q (q_ldmw ag23 sz23 rfl (by repeat first | exact Mem.upd_self _ _ _ | assumption | refine Mem.upd_ne (by assumption) ?_) rfl rfl) rfl rfl rfl ?_
  refine o_q (q_mv (v_raw rfl)) rfl rfl rfl ?_
  refine o_call (snd24r (md x) (k1.tdiv 4) _ hx (by omega) (by omega)) goes24 (ac (v_agg rfl) (ac (v_raw rfl) ac_nil)) rfl ?_
  refine o_q (q_mv (v_tup rfl)) rfl rfl rfl ?_
  refine o_q (q_ext rfl rfl (v_agg rfl)) rfl rfl rfl ?_
  refine o_q (q_ext rfl rfl (v_raw rfl)) rfl rfl rfl ?_
  refine o_alloc zc23 (fun B2 hB2 => ?_)
  have f1_2 : B1 ≠ B2 := Mem.fresh_ne hB2 (by repeat first | exact Mem.upd_self _ _ _ | assumption | refine Mem.upd_ne (by assumption) ?_)
  have g2_1 : B2 ≠ B1 := f1_2.symm
  have m2 : M B2 = none := by have h := hB2; repeat (first | exact h | exact Mem.none_of_le hle h | replace h := (Mem.upd_none h).2)
  refine o_storew rfl (by repeat first | exact Mem.upd_self _ _ _ | assumption | refine Mem.upd_ne (by assumption) ?_) (by first | exact e_agg rfl | rfl) rfl sz23 rfl rfl rfl rfl ?_
  refine o_q (q_as (v_raw rfl)) rfl rfl rfl ?_
  refine o_nil ?_
  refine s_seq ?_
  refine s_region ?_
  refine o_q (q_ldmw ag23 sz23 rfl (by repeat first | exact Mem.upd_self _ _ _ | assumption | refine Mem.upd_ne (by assumption) ?_) rfl rfl) rfl rfl rfl ?_
  refine o_q (q_mv (v_raw rfl)) rfl rfl rfl ?_
  refine o_call (snd24r (md x) (k2.tdiv 4) _ hx (by omega) (by omega)) goes24 (ac (v_agg rfl) (ac (v_raw rfl) ac_nil)) rfl ?_
  refine o_q (q_mv (v_tup rfl)) rfl rfl rfl ?_
  refine o_q (q_ext rfl rfl (v_agg rfl)) rfl rfl rfl ?_
  refine o_q (q_ext rfl rfl (v_raw rfl)) rfl rfl rfl ?_
  refine o_alloc zc23 (fun B3 hB3 => ?_)
  have f1_3 : B1 ≠ B3 := Mem.fresh_ne hB3 (by repeat first | exact Mem.upd_self _ _ _ | assumption | refine Mem.upd_ne (by assumption) ?_)
  have g3_1 : B3 ≠ B1 := f1_3.symm
  have f2_3 : B2 ≠ B3 := Mem.fresh_ne hB3 (by repeat first | exact Mem.upd_self _ _ _ | assumption | refine Mem.upd_ne (by assumption) ?_)
  have g3_2 : B3 ≠ B2 := f2_3.symm
  have m3 : M B3 = none := by have h := hB3; repeat (first | exact h | exact Mem.none_of_le hle h | replace h := (Mem.upd_none h).2)
  refine o_storew rfl (by repeat first | exact Mem.upd_self _ _ _ | assumption | refine Mem.upd_ne (by assumption) ?_) (by first | exact e_agg rfl | rfl) rfl sz23 rfl rfl rfl rfl ?_
  refine o_q (q_as (v_raw rfl)) rfl rfl rfl ?_
  refine o_nil ?_
  refine s_seq ?_
  refine s_region ?_
  refine o_q (q_ldmw ag23 sz23 rfl (by repeat first | exact Mem.upd_self _ _ _ | assumption | refine Mem.upd_ne (by assumption) ?_) rfl rfl) rfl rfl rfl ?_
  refine o_q (q_mv (v_raw rfl)) rfl rfl rfl ?_
  refine o_q (q_mv (v_raw rfl)) rfl rfl rfl ?_
  refine o_q (q_add rfl rfl (wrap64 (by omega) (by omega))) rfl rfl rfl ?_
  refine o_call (snd24r (md x) ((k1.tdiv 4) + (k2.tdiv 4)) _ hx (by omega) (by omega)) goes24 (ac (v_agg rfl) (ac (v_raw rfl) ac_nil)) rfl ?_
  refine o_q (q_mv (v_tup rfl)) rfl rfl rfl ?_
  refine o_q (q_ext rfl rfl (v_agg rfl)) rfl rfl rfl ?_
  refine o_q (q_ext rfl rfl (v_raw rfl)) rfl rfl rfl ?_
  refine o_alloc zc23 (fun B4 hB4 => ?_)
  have f1_4 : B1 ≠ B4 := Mem.fresh_ne hB4 (by repeat first | exact Mem.upd_self _ _ _ | assumption | refine Mem.upd_ne (by assumption) ?_)
  have g4_1 : B4 ≠ B1 := f1_4.symm
  have f2_4 : B2 ≠ B4 := Mem.fresh_ne hB4 (by repeat first | exact Mem.upd_self _ _ _ | assumption | refine Mem.upd_ne (by assumption) ?_)
  have g4_2 : B4 ≠ B2 := f2_4.symm
  have f3_4 : B3 ≠ B4 := Mem.fresh_ne hB4 (by repeat first | exact Mem.upd_self _ _ _ | assumption | refine Mem.upd_ne (by assumption) ?_)
  have g4_3 : B4 ≠ B3 := f3_4.symm
  have m4 : M B4 = none := by have h := hB4; repeat (first | exact h | exact Mem.none_of_le hle h | replace h := (Mem.upd_none h).2)
  refine o_storew rfl (by repeat first | exact Mem.upd_self _ _ _ | assumption | refine Mem.upd_ne (by assumption) ?_) (by first | exact e_agg rfl | rfl) rfl sz23 rfl rfl rfl rfl ?_
  refine o_q (q_as (v_raw rfl)) rfl rfl rfl ?_
  refine o_nil ?_
  refine s_seq ?_
  refine s_region ?_
  refine o_q (q_ldmw ag23 sz23 rfl (by repeat first | exact Mem.upd_self _ _ _ | assumption | refine Mem.upd_ne (by assumption) ?_) rfl rfl) rfl rfl rfl ?_
  refine o_q (q_ldmw ag23 sz23 rfl (by repeat first | exact Mem.upd_self _ _ _ | assumption | refine Mem.upd_ne (by assumption) ?_) rfl rfl) rfl rfl rfl ?_
  refine o_call (snd14r (pw (md x) (k1.tdiv 4).toNat) (pw (md x) (k2.tdiv 4).toNat) _ (pw_right _ _) (pw_right _ _)) goes14 (ac (v_agg rfl) (ac (v_agg rfl) ac_nil)) rfl ?_
  refine o_q (q_mv (v_tup rfl)) rfl rfl rfl ?_
  refine o_q (q_ext rfl rfl (v_agg rfl)) rfl rfl rfl ?_
  refine o_q (q_ext rfl rfl (v_raw rfl)) rfl rfl rfl ?_
  refine o_alloc zc23 (fun B5 hB5 => ?_)
  have f1_5 : B1 ≠ B5 := Mem.fresh_ne hB5 (by repeat first | exact Mem.upd_self _ _ _ | assumption | refine Mem.upd_ne (by assumption) ?_)
  have g5_1 : B5 ≠ B1 := f1_5.symm
  have f2_5 : B2 ≠ B5 := Mem.fresh_ne hB5 (by repeat first | exact Mem.upd_self _ _ _ | assumption | refine Mem.upd_ne (by assumption) ?_)
  have g5_2 : B5 ≠ B2 := f2_5.symm
  have f3_5 : B3 ≠ B5 := Mem.fresh_ne hB5 (by repeat first | exact Mem.upd_self _ _ _ | assumption | refine Mem.upd_ne (by assumption) ?_)
  have g5_3 : B5 ≠ B3 := f3_5.symm
  have f4_5 : B4 ≠ B5 := Mem.fresh_ne hB5 (by repeat first | exact Mem.upd_self _ _ _ | assumption | refine Mem.upd_ne (by assumption) ?_)
  have g5_4 : B5 ≠ B4 := f4_5.symm
  have m5 : M B5 = none := by have h := hB5; repeat (first | exact h | exact Mem.none_of_le hle h | replace h := (Mem.upd_none h).2)
  refine o_storew rfl (by repeat first | exact Mem.upd_self _ _ _ | assumption | refine Mem.upd_ne (by assumption) ?_) (by first | exact e_agg rfl | rfl) rfl sz23 rfl rfl rfl rfl ?_
  refine o_q (q_as (v_raw rfl)) rfl rfl rfl ?_
  refine o_nil ?_
  refine s_seq ?_
  refine s_region ?_
  refine o_q (q_ldmw ag23 sz23 rfl (by repeat first | exact Mem.upd_self _ _ _ | assumption | refine Mem.upd_ne (by assumption) ?_) rfl rfl) rfl rfl rfl ?_
  refine o_call (snd25r (md x) _ hx) goes25 (ac (v_agg rfl) ac_nil) rfl ?_
  refine o_q (q_mv (v_tup rfl)) rfl rfl rfl ?_
  refine o_q (q_ext rfl rfl (v_agg rfl)) rfl rfl rfl ?_
  refine o_q (q_ext rfl rfl (v_raw rfl)) rfl rfl rfl ?_
  refine o_alloc zc23 (fun B6 hB6 => ?_)
  have f1_6 : B1 ≠ B6 := Mem.fresh_ne hB6 (by repeat first | exact Mem.upd_self _ _ _ | assumption | refine Mem.upd_ne (by assumption) ?_)
  have g6_1 : B6 ≠ B1 := f1_6.symm
  have f2_6 : B2 ≠ B6 := Mem.fresh_ne hB6 (by repeat first | exact Mem.upd_self _ _ _ | assumption | refine Mem.upd_ne (by assumption) ?_)
  have g6_2 : B6 ≠ B2 := f2_6.symm
  have f3_6 : B3 ≠ B6 := Mem.fresh_ne hB6 (by repeat first | exact Mem.upd_self _ _ _ | assumption | refine Mem.upd_ne (by assumption) ?_)
  have g6_3 : B6 ≠ B3 := f3_6.symm
  have f4_6 : B4 ≠ B6 := Mem.fresh_ne hB6 (by repeat first | exact Mem.upd_self _ _ _ | assumption | refine Mem.upd_ne (by assumption) ?_)
  have g6_4 : B6 ≠ B4 := f4_6.symm
  have f5_6 : B5 ≠ B6 := Mem.fresh_ne hB6 (by repeat first | exact Mem.upd_self _ _ _ | assumption | refine Mem.upd_ne (by assumption) ?_)
  have g6_5 : B6 ≠ B5 := f5_6.symm
  have m6 : M B6 = none := by have h := hB6; repeat (first | exact h | exact Mem.none_of_le hle h | replace h := (Mem.upd_none h).2)
  refine o_storew rfl (by repeat first | exact Mem.upd_self _ _ _ | assumption | refine Mem.upd_ne (by assumption) ?_) (by first | exact e_agg rfl | rfl) rfl sz23 rfl rfl rfl rfl ?_
  refine o_q (q_as (v_raw rfl)) rfl rfl rfl ?_
  refine o_nil ?_
  refine s_seq ?_
  refine s_seq ?_
  refine s_region ?_
  refine o_q (q_ldmw ag23 sz23 rfl (by repeat first | exact Mem.upd_self _ _ _ | assumption | refine Mem.upd_ne (by assumption) ?_) rfl rfl) rfl rfl rfl ?_
  refine o_q (q_b (cs := [.raw (.int .i64 0), .raw (.int .i64 0)]) bz23 bp23 bf_nil) rfl rfl rfl ?_
  refine o_q (q_bin' rfl rfl (binEqM _ _ (md x) ⟨0, 0⟩)) rfl rfl rfl ?_
  refine o_nil ?_
  refine s_cond rfl (fun h3 => ?_) (fun h3 => ?_)
  · have k3 := h3; try simp only [decide_eq_true_eq, decide_eq_false_iff_not, Bool.not_eq_true', Bool.not_eq_false', Bool.not_true, Bool.not_false, List.length_map, Decidable.not_not] at k3
    have ha0 : md x = ⟨0, 0⟩ := of_decide_eq_true h3
    refine s_seq ?_
    refine s_region ?_
    refine o_q (q_mv (v_raw rfl)) rfl rfl rfl ?_
    refine o_q (q_mv (v_raw rfl)) rfl rfl rfl ?_
    refine o_yes rfl rfl rfl rfl ?_
    refine o_q (q_mv (v_raw rfl)) rfl rfl rfl ?_
    refine o_yes rfl rfl rfl rfl ?_
    refine o_q (q_eql rfl rfl) rfl rfl rfl ?_
    refine o_q (q_pick_c (t := true) rfl rfl (v_raw rfl)) rfl rfl rfl ?_
    refine o_q (q_mv (v_raw rfl)) rfl rfl rfl ?_
    refine o_yes rfl rfl rfl (by simp [ha0]) ?_
    refine o_q (q_ldmw ag23 sz23 rfl (by repeat first | exact Mem.upd_self _ _ _ | assumption | refine Mem.upd_ne (by assumption) ?_) rfl rfl) rfl rfl rfl ?_
    refine o_yes rfl rfl rfl (by simp [ha0]) ?_
    refine o_q (q_ldmw ag23 sz23 rfl (by repeat first | exact Mem.upd_self _ _ _ | assumption | refine Mem.upd_ne (by assumption) ?_) rfl rfl) rfl rfl rfl ?_
    refine o_yes rfl rfl rfl (by simp [ha0]) ?_
    refine o_q (q_bin' rfl rfl (binEqM _ _ (mulP (pw (md x) (k1.tdiv 4).toNat) (pw (md x) (k2.tdiv 4).toNat)) (pw (md x) ((k1.tdiv 4) + (k2.tdiv 4)).toNat))) rfl rfl rfl ?_
    refine o_q (q_pick_c (t := true) rfl (by simp [ha0]) (v_raw rfl)) rfl rfl rfl ?_
    refine o_q (q_as (v_raw rfl)) rfl rfl rfl ?_
    refine o_nil ?_
    refine s_ret ?_
    refine s_code_ret ?_
    refine s_end ?_
    exact ⟨congrArg (fun b => AVal.raw (.bool b)) (by first | exact decide_eq_true pz | exact decide_eq_true hiv), (by repeat first | exact hle | exact Mem.le_refl M | assumption | exact Mem.none_of_le hle (by assumption) | refine Mem.le_upd ?_ ?_)⟩
  · have k3 := h3; try simp only [decide_eq_true_eq, decide_eq_false_iff_not, Bool.not_eq_true', Bool.not_eq_false', Bool.not_true, Bool.not_false, List.length_map, Decidable.not_not] at k3
    have ha1 : md x ≠ ⟨0, 0⟩ := of_decide_eq_false h3
    have hiv : mulP (md x) (iv (md x)) = ⟨1, 0⟩ := by unfold iv; rw [if_neg ha1, ← inv_eq hx]; exact inv_mul hx ha1
    refine s_skip ?_
    refine s_seq ?_
    refine s_region ?_
    refine o_q (q_ldmw ag23 sz23 rfl (by repeat first | exact Mem.upd_self _ _ _ | assumption | refine Mem.upd_ne (by assumption) ?_) rfl rfl) rfl rfl rfl ?_
    refine o_q (q_ldmw ag23 sz23 rfl (by repeat first | exact Mem.upd_self _ _ _ | assumption | refine Mem.upd_ne (by assumption) ?_) rfl rfl) rfl rfl rfl ?_
    refine o_call (snd14r (md x) (iv (md x)) _ hx (by unfold iv; rw [if_neg ha1]; rw [← inv_eq hx]; exact pw_right _ _)) goes14 (ac (v_agg rfl) (ac (v_agg rfl) ac_nil)) rfl ?_
    refine o_q (q_mv (v_tup rfl)) rfl rfl rfl ?_
    refine o_q (q_ext rfl rfl (v_agg rfl)) rfl rfl rfl ?_
    refine o_q (q_ext rfl rfl (v_raw rfl)) rfl rfl rfl ?_
    refine o_alloc zc23 (fun B7 hB7 => ?_)
    have f1_7 : B1 ≠ B7 := Mem.fresh_ne hB7 (by repeat first | exact Mem.upd_self _ _ _ | assumption | refine Mem.upd_ne (by assumption) ?_)
    have g7_1 : B7 ≠ B1 := f1_7.symm
    have f2_7 : B2 ≠ B7 := Mem.fresh_ne hB7 (by repeat first | exact Mem.upd_self _ _ _ | assumption | refine Mem.upd_ne (by assumption) ?_)
    have g7_2 : B7 ≠ B2 := f2_7.symm
    have f3_7 : B3 ≠ B7 := Mem.fresh_ne hB7 (by repeat first | exact Mem.upd_self _ _ _ | assumption | refine Mem.upd_ne (by assumption) ?_)
    have g7_3 : B7 ≠ B3 := f3_7.symm
    have f4_7 : B4 ≠ B7 := Mem.fresh_ne hB7 (by repeat first | exact Mem.upd_self _ _ _ | assumption | refine Mem.upd_ne (by assumption) ?_)
    have g7_4 : B7 ≠ B4 := f4_7.symm
    have f5_7 : B5 ≠ B7 := Mem.fresh_ne hB7 (by repeat first | exact Mem.upd_self _ _ _ | assumption | refine Mem.upd_ne (by assumption) ?_)
    have g7_5 : B7 ≠ B5 := f5_7.symm
    have f6_7 : B6 ≠ B7 := Mem.fresh_ne hB7 (by repeat first | exact Mem.upd_self _ _ _ | assumption | refine Mem.upd_ne (by assumption) ?_)
    have g7_6 : B7 ≠ B6 := f6_7.symm
    have m7 : M B7 = none := by have h := hB7; repeat (first | exact h | exact Mem.none_of_le hle h | replace h := (Mem.upd_none h).2)
    refine o_storew rfl (by repeat first | exact Mem.upd_self _ _ _ | assumption | refine Mem.upd_ne (by assumption) ?_) (by first | exact e_agg rfl | rfl) rfl sz23 rfl rfl rfl rfl ?_
    refine o_q (q_as (v_raw rfl)) rfl rfl rfl ?_
    refine o_nil ?_
    refine s_seq ?_
    refine s_region ?_
    refine o_q (q_mv (v_raw rfl)) rfl rfl rfl ?_
    refine o_q (q_mv (v_raw rfl)) rfl rfl rfl ?_
    refine o_yes rfl rfl rfl rfl ?_
    refine o_q (q_mv (v_raw rfl)) rfl rfl rfl ?_
    refine o_yes rfl rfl rfl rfl ?_
    refine o_q (q_eql rfl rfl) rfl rfl rfl ?_
    refine o_q (q_pick_c (t := true) rfl rfl (v_raw rfl)) rfl rfl rfl ?_
    refine o_q (q_mv (v_raw rfl)) rfl rfl rfl ?_
    refine o_yes rfl rfl rfl rfl ?_
    refine o_q (q_mv (v_raw rfl)) rfl rfl rfl ?_
    refine o_yes rfl rfl rfl rfl ?_
    refine o_q (q_eql rfl rfl) rfl rfl rfl ?_
    refine o_q (q_pick_c (t := true) rfl rfl (v_raw rfl)) rfl rfl rfl ?_
    refine o_q (q_mv (v_raw rfl)) rfl rfl rfl ?_
    refine o_yes rfl rfl rfl (by simp [ha1]) ?_
    refine o_q (q_ldmw ag23 sz23 rfl (by repeat first | exact Mem.upd_self _ _ _ | assumption | refine Mem.upd_ne (by assumption) ?_) rfl rfl) rfl rfl rfl ?_
    refine o_yes rfl rfl rfl (by simp [ha1]) ?_
    refine o_q (q_ldmw ag23 sz23 rfl (by repeat first | exact Mem.upd_self _ _ _ | assumption | refine Mem.upd_ne (by assumption) ?_) rfl rfl) rfl rfl rfl ?_
    refine o_yes rfl rfl rfl (by simp [ha1]) ?_
    refine o_q (q_bin' rfl rfl (binEqM _ _ (mulP (pw (md x) (k1.tdiv 4).toNat) (pw (md x) (k2.tdiv 4).toNat)) (pw (md x) ((k1.tdiv 4) + (k2.tdiv 4)).toNat))) rfl rfl rfl ?_
    refine o_q (q_pick_c (t := true) rfl (by simp [ha1]) (v_raw rfl)) rfl rfl rfl ?_
    refine o_q (q_mv (v_raw rfl)) rfl rfl rfl ?_
    refine o_yes rfl rfl rfl (decide_eq_true pz) ?_
    refine o_q (q_ldmw ag23 sz23 rfl (by repeat first | exact Mem.upd_self _ _ _ | assumption | refine Mem.upd_ne (by assumption) ?_) rfl rfl) rfl rfl rfl ?_
    refine o_yes rfl rfl rfl (decide_eq_true pz) ?_
    refine o_q (q_b (cs := [_, .raw (.int .i64 0)]) bz23 bp23 (bf fo23_0 (e_raw rfl) rfl rfl (Nat.le_of_ble_eq_true rfl) rfl bf_nil)) rfl rfl rfl ?_
    refine o_yes rfl rfl rfl (decide_eq_true pz) ?_
    refine o_q (q_bin' rfl rfl (binEqM _ _ (mulP (md x) (iv (md x))) ⟨1, 0⟩)) rfl rfl rfl ?_
    refine o_q (q_pick_c (t := true) rfl (decide_eq_true pz) (v_raw rfl)) rfl rfl rfl ?_
    refine o_q (q_as (v_raw rfl)) rfl rfl rfl ?_
    refine o_nil ?_
    refine s_ret ?_
    refine s_end ?_
    exact ⟨congrArg (fun b => AVal.raw (.bool b)) (by first | exact decide_eq_true pz | exact decide_eq_true hiv), (by repeat first | exact hle | exact Mem.le_refl M | assumption | exact Mem.none_of_le hle (by assumption) | refine Mem.le_upd ?_ ?_)⟩

def tk9 : Nat → Nat → Option Nat := fun _ _ => none
def pl9 : Nat → List PStep
  | 8 => [.q 0, .q 1, .q 2, .q 3, .q 4, .s 5 [2, 0], .q 6, .q 7, .q 8, .q 9, .q 10, .q 11]
  | 10 => [.q 0, .q 1, .q 2, .q 3, .q 4, .q 5, .q 6, .q 7, .q 8, .s 9 [5, 3, 2, 1, 0], .q 10, .q 11, .q 12, .q 13, .q 14, .q 15, .q 16, .q 17, .s 18 [16, 15, 14, 13, 12, 11, 10, 8, 7, 6, 5, 4, 3, 2, 1, 0], .s 19 [16, 15, 14, 13, 12, 11, 10, 8, 7, 6, 5, 4, 3, 2, 1, 0], .q 20, .q 21, .q 22]
  | _ => []
theorem cb9 : Try.f9.body.map (codeB Try.prog Try.f9.ntmps tk9 pl9) = some true := by kernel_rfl
theorem goes9 : goesB Try.prog 9 = true := by kernel_rfl
-- carillon/carillonlaw03.GaussDigests params ['api.Pair', 'string', 'api.Pair', 'int'] results [['t', 8]] own [] names ['0:d', '1:s', '2:e', '3:n', '4:d', '5:s', '6:e', '7:n', '9:head', '10:a', '11:f', '12:b', '13:g', '14:one', '15:two'] calls [11, 13, 16, 28, 31, 32] paths 1
set_option maxHeartbeats 4000000 in
set_option maxRecDepth 20000 in
theorem snd9a (d : Pr) (s : ByteArray) (e : Pr) (n : Int) (M : Mem) (hs : s.size < 2 ^ 62) (hn : n < 2 ^ 63) (hd : right d = false) : SoundCall Try.prog 9 [encP d, .raw (.string s), encP e, int n] M fun r M' => r = .raw (.bool true) ∧ M.le M' := by
  refine SoundCall.go tk9 pl9 mixed Try.func9 cb9 rfl (Nat.le_of_ble_eq_true rfl) ?_
  refine s_seq ?_
  refine s_region ?_
  refine o_box (by first | exact e_raw rfl | exact e_agg rfl | exact e_sl rfl) rfl rfl (fun B1 hB1 => ?_)
  have m1 : M B1 = none := by have h := hB1; repeat (first | exact h | exact Mem.none_of_le hle h | replace h := (Mem.upd_none h).2)
  refine o_box (by first | exact e_raw rfl | exact e_agg rfl | exact e_sl rfl) rfl rfl (fun B2 hB2 => ?_)
  have f1_2 : B1 ≠ B2 := Mem.fresh_ne hB2 (by repeat first | exact Mem.upd_self _ _ _ | assumption | refine Mem.upd_ne (by assumption) ?_)
  have g2_1 : B2 ≠ B1 := f1_2.symm
  have m2 : M B2 = none := by have h := hB2; repeat (first | exact h | exact Mem.none_of_le hle h | replace h := (Mem.upd_none h).2)
  refine o_q (q_as (v_raw rfl)) rfl rfl rfl ?_
  refine o_nil ?_
  refine s_seq ?_
  refine s_region ?_
  refine o_call ((snd11 _).det) goes11 ac_nil rfl ?_
  refine o_q (q_as (v_raw rfl)) rfl rfl rfl ?_
  refine o_nil ?_
  refine s_seq ?_
  refine s_region ?_
  refine o_q (q_ldmw ag23 sz23 rfl (by repeat first | exact Mem.upd_self _ _ _ | assumption | refine Mem.upd_ne (by assumption) ?_) rfl rfl) rfl rfl rfl ?_
  refine o_q (q_mv (v_raw rfl)) rfl rfl rfl ?_
  refine o_call (snd13f d s _ hd hs) goes13 (ac (v_agg rfl) (ac (v_raw rfl) ac_nil)) rfl ?_
  refine o_q (q_mv (v_tup rfl)) rfl rfl rfl ?_
  refine o_q (q_ext rfl rfl (v_agg rfl)) rfl rfl rfl ?_
  refine o_q (q_ext rfl rfl (v_raw rfl)) rfl rfl rfl ?_
  refine o_alloc zc23 (fun B3 hB3 => ?_)
  have f1_3 : B1 ≠ B3 := Mem.fresh_ne hB3 (by repeat first | exact Mem.upd_self _ _ _ | assumption | refine Mem.upd_ne (by assumption) ?_)
  have g3_1 : B3 ≠ B1 := f1_3.symm
  have f2_3 : B2 ≠ B3 := Mem.fresh_ne hB3 (by repeat first | exact Mem.upd_self _ _ _ | assumption | refine Mem.upd_ne (by assumption) ?_)
  have g3_2 : B3 ≠ B2 := f2_3.symm
  have m3 : M B3 = none := by have h := hB3; repeat (first | exact h | exact Mem.none_of_le hle h | replace h := (Mem.upd_none h).2)
  refine o_storew rfl (by repeat first | exact Mem.upd_self _ _ _ | assumption | refine Mem.upd_ne (by assumption) ?_) (by first | exact e_agg rfl | rfl) rfl sz23 rfl rfl rfl rfl ?_
  refine o_q (q_as (v_raw rfl)) rfl rfl rfl ?_
  refine o_nil ?_
  refine s_seq ?_
  refine s_region ?_
  refine o_q (q_ldmw ag23 sz23 rfl (by repeat first | exact Mem.upd_self _ _ _ | assumption | refine Mem.upd_ne (by assumption) ?_) rfl rfl) rfl rfl rfl ?_
  refine o_q (q_ldmw ag23 sz23 rfl (by repeat first | exact Mem.upd_self _ _ _ | assumption | refine Mem.upd_ne (by assumption) ?_) rfl rfl) rfl rfl rfl ?_
  refine o_q (q_mv (v_raw rfl)) rfl rfl rfl ?_
  refine o_call (snd28f d e n _ hn (by simp [hd])) goes28 (ac (v_agg rfl) (ac (v_agg rfl) (ac (v_raw rfl) ac_nil))) rfl ?_
  refine o_q (q_mv (v_tup rfl)) rfl rfl rfl ?_
  refine o_q (q_ext rfl rfl (v_agg rfl)) rfl rfl rfl ?_
  refine o_q (q_ext rfl rfl (v_raw rfl)) rfl rfl rfl ?_
  refine o_alloc zc23 (fun B4 hB4 => ?_)
  have f1_4 : B1 ≠ B4 := Mem.fresh_ne hB4 (by repeat first | exact Mem.upd_self _ _ _ | assumption | refine Mem.upd_ne (by assumption) ?_)
  have g4_1 : B4 ≠ B1 := f1_4.symm
  have f2_4 : B2 ≠ B4 := Mem.fresh_ne hB4 (by repeat first | exact Mem.upd_self _ _ _ | assumption | refine Mem.upd_ne (by assumption) ?_)
  have g4_2 : B4 ≠ B2 := f2_4.symm
  have f3_4 : B3 ≠ B4 := Mem.fresh_ne hB4 (by repeat first | exact Mem.upd_self _ _ _ | assumption | refine Mem.upd_ne (by assumption) ?_)
  have g4_3 : B4 ≠ B3 := f3_4.symm
  have m4 : M B4 = none := by have h := hB4; repeat (first | exact h | exact Mem.none_of_le hle h | replace h := (Mem.upd_none h).2)
  refine o_storew rfl (by repeat first | exact Mem.upd_self _ _ _ | assumption | refine Mem.upd_ne (by assumption) ?_) (by first | exact e_agg rfl | rfl) rfl sz23 rfl rfl rfl rfl ?_
  refine o_q (q_as (v_raw rfl)) rfl rfl rfl ?_
  refine o_nil ?_
  refine s_seq ?_
  refine s_region ?_
  refine o_q (q_ldmw ag23 sz23 rfl (by repeat first | exact Mem.upd_self _ _ _ | assumption | refine Mem.upd_ne (by assumption) ?_) rfl rfl) rfl rfl rfl ?_
  refine o_call (right_t _ hd) goes16 (ac (v_agg rfl) ac_nil) rfl ?_
  refine o_q (q_as (v_raw rfl)) rfl rfl rfl ?_
  refine o_nil ?_
  refine s_seq ?_
  refine s_region ?_
  refine o_q (q_mv (v_raw rfl)) rfl rfl rfl ?_
  refine o_q (q_mv (v_raw rfl)) rfl rfl rfl ?_
  refine o_no rfl rfl rfl rfl rfl ?_
  refine o_no rfl rfl rfl rfl rfl ?_
  refine o_q (q_pick_c (t := false) rfl rfl (v_raw rfl)) rfl rfl rfl ?_
  refine o_q (q_mv (v_raw rfl)) rfl rfl rfl ?_
  refine o_no rfl rfl rfl rfl rfl ?_
  refine o_no rfl rfl rfl rfl rfl ?_
  refine o_q (q_pick_c (t := false) rfl rfl (v_raw rfl)) rfl rfl rfl ?_
  refine o_q (q_as (v_raw rfl)) rfl rfl rfl ?_
  refine o_nil ?_
  refine s_seq ?_
  refine s_seq ?_
  refine s_region ?_
  refine o_q (q_mv (v_raw rfl)) rfl rfl rfl ?_
  refine o_q (q_not rfl) rfl rfl rfl ?_
  refine o_q (q_mv (v_raw rfl)) rfl rfl rfl ?_
  refine o_yes rfl rfl rfl rfl ?_
  refine o_q (q_ldmw ag23 sz23 rfl (by repeat first | exact Mem.upd_self _ _ _ | assumption | refine Mem.upd_ne (by assumption) ?_) rfl rfl) rfl rfl rfl ?_
  refine o_yes rfl rfl rfl rfl ?_
  refine o_q (q_b (cs := [.raw (.int .i64 0), .raw (.int .i64 0)]) bz23 bp23 bf_nil) rfl rfl rfl ?_
  refine o_yes rfl rfl rfl rfl ?_
  refine o_q (q_bin' rfl rfl (binNeM _ _ ⟨0, 0⟩ ⟨0, 0⟩)) rfl rfl rfl ?_
  refine o_yes rfl rfl rfl rfl ?_
  refine o_q (q_mv (v_raw rfl)) rfl rfl rfl ?_
  refine o_yes rfl rfl rfl (by decide) ?_
  refine o_q (q_mv (v_raw rfl)) rfl rfl rfl ?_
  refine o_yes rfl rfl rfl (by decide) ?_
  refine o_q (q_neq rfl rfl) rfl rfl rfl ?_
  refine o_yes rfl rfl rfl rfl ?_
  refine o_q (q_pick_c (t := false) rfl (by decide) (v_raw rfl)) rfl rfl rfl ?_
  refine o_q (q_pick_c (t := true) rfl rfl (v_raw rfl)) rfl rfl rfl ?_
  refine o_q (q_mv (v_raw rfl)) rfl rfl rfl ?_
  refine o_yes rfl rfl rfl (by decide) ?_
  refine o_q (q_mv (v_raw rfl)) rfl rfl rfl ?_
  refine o_yes rfl rfl rfl (by decide) ?_
  refine o_q (q_not rfl) rfl rfl rfl ?_
  refine o_yes rfl rfl rfl (by decide) ?_
  refine o_q (q_mv (v_raw rfl)) rfl rfl rfl ?_
  refine o_yes rfl rfl rfl rfl ?_
  refine o_q (q_ldmw ag23 sz23 rfl (by repeat first | exact Mem.upd_self _ _ _ | assumption | refine Mem.upd_ne (by assumption) ?_) rfl rfl) rfl rfl rfl ?_
  refine o_yes rfl rfl rfl rfl ?_
  refine o_q (q_b (cs := [.raw (.int .i64 0), .raw (.int .i64 0)]) bz23 bp23 bf_nil) rfl rfl rfl ?_
  refine o_yes rfl rfl rfl rfl ?_
  refine o_q (q_bin' rfl rfl (binNeM _ _ ⟨0, 0⟩ ⟨0, 0⟩)) rfl rfl rfl ?_
  refine o_yes rfl rfl rfl rfl ?_
  refine o_q (q_mv (v_raw rfl)) rfl rfl rfl ?_
  refine o_yes rfl rfl rfl (by decide) ?_
  refine o_q (q_mv (v_raw rfl)) rfl rfl rfl ?_
  refine o_yes rfl rfl rfl (by decide) ?_
  refine o_q (q_neq rfl rfl) rfl rfl rfl ?_
  refine o_yes rfl rfl rfl rfl ?_
  refine o_q (q_pick_c (t := false) rfl (by decide) (v_raw rfl)) rfl rfl rfl ?_
  refine o_yes rfl rfl rfl (by decide) ?_
  refine o_q (q_pick_c (t := true) rfl rfl (v_raw rfl)) rfl rfl rfl ?_
  refine o_q (q_pick_c (t := false) rfl (by decide) (v_raw rfl)) rfl rfl rfl ?_
  refine o_nil ?_
  refine s_else rfl (by decide) ?_
  refine s_skip ?_
  refine s_seq ?_
  refine s_seq ?_
  refine s_draw rfl ?_
  refine d_q rfl (q_mv (v_raw rfl)) rfl rfl rfl ?_
  refine d_q rfl (q_mv (v_raw rfl)) rfl rfl rfl ?_
  refine d_no rfl rfl rfl rfl rfl rfl ?_
  refine d_no rfl rfl rfl rfl rfl rfl ?_
  refine d_no rfl rfl rfl rfl rfl rfl ?_
  refine d_s rfl ?_
  refine o_no rfl rfl rfl rfl rfl ?_
  refine o_nil ⟨(by simp [Mem.upd, *]), ?_⟩
  refine d_no rfl rfl rfl rfl rfl rfl ?_
  refine d_no rfl rfl rfl rfl rfl rfl ?_
  refine d_skip rfl rfl rfl rfl rfl ?_
  refine d_skip rfl rfl rfl rfl rfl ?_
  refine d_no rfl rfl rfl rfl rfl rfl ?_
  refine d_q rfl (q_pick_c (t := false) rfl rfl (v_raw rfl)) rfl rfl rfl ?_
  refine d_nil ?_
  refine s_else rfl rfl ?_
  refine s_skip ?_
  refine s_seq ?_
  refine s_draw rfl ?_
  refine d_q rfl (q_mv (v_raw rfl)) rfl rfl rfl ?_
  refine d_q rfl (q_mv (v_raw rfl)) rfl rfl rfl ?_
  refine d_yes rfl (q_mv (v_raw rfl)) rfl rfl rfl rfl rfl rfl ?_
  refine d_yes rfl (q_not rfl) rfl rfl rfl rfl rfl rfl ?_
  refine d_yes rfl (q_mv (v_raw rfl)) rfl rfl rfl rfl rfl rfl ?_
  refine d_no rfl rfl rfl rfl rfl rfl ?_
  refine d_no rfl rfl rfl rfl rfl rfl ?_
  refine d_no rfl rfl rfl rfl rfl rfl ?_
  refine d_no rfl rfl rfl rfl rfl rfl ?_
  refine d_s rfl ?_
  refine o_no rfl rfl rfl rfl rfl ?_
  refine o_nil ⟨(by simp [Mem.upd, *]), ?_⟩
  refine d_no rfl rfl rfl rfl rfl rfl ?_
  refine d_no rfl rfl rfl rfl rfl rfl ?_
  refine d_skip rfl rfl rfl rfl rfl ?_
  refine d_skip rfl rfl rfl rfl rfl ?_
  refine d_no rfl rfl rfl rfl rfl rfl ?_
  refine d_yes rfl (q_pick_c (t := true) rfl rfl (v_raw rfl)) rfl rfl rfl rfl rfl rfl ?_
  refine d_q rfl (q_pick_c (t := true) rfl rfl (v_raw rfl)) rfl rfl rfl ?_
  refine d_q rfl (q_mv (v_raw rfl)) rfl rfl rfl ?_
  refine d_s rfl ?_
  refine o_yes rfl rfl rfl rfl ?_
  refine o_call ((snd31 _).det) goes31 ac_nil rfl ?_
  refine o_nil ⟨(by simp [Mem.upd, *]), ?_⟩
  refine d_s rfl ?_
  refine o_yes rfl rfl rfl rfl ?_
  refine o_call ((snd32 _).det) goes32 ac_nil rfl ?_
  refine o_nil ⟨(by simp [Mem.upd, *]), ?_⟩
  refine d_yes rfl (q_bin' rfl rfl (binEqM _ _ ⟨1, 0⟩ ⟨1, 0⟩)) rfl rfl rfl rfl rfl rfl ?_
  refine d_q rfl (q_pick_c (t := true) rfl rfl (v_raw rfl)) rfl rfl rfl ?_
  refine d_q rfl (q_as (v_raw rfl)) rfl rfl rfl ?_
  refine d_nil ?_
  refine s_ret ?_
  refine s_end ?_
  exact ⟨congrArg (fun b => AVal.raw (.bool b)) (by decide), (by repeat first | exact hle | exact Mem.le_refl M | assumption | exact Mem.none_of_le hle (by assumption) | refine Mem.le_upd ?_ ?_)⟩

-- carillon/carillonlaw03.GaussDigests params ['api.Pair', 'string', 'api.Pair', 'int'] results [['t', 8]] own [] names ['0:d', '1:s', '2:e', '3:n', '4:d', '5:s', '6:e', '7:n', '9:head', '10:a', '11:f', '12:b', '13:g', '14:one', '15:two'] calls [11, 13, 16, 28, 29, 31, 32] paths 1
set_option maxHeartbeats 4000000 in
set_option maxRecDepth 20000 in
theorem snd9b (d : Pr) (s : ByteArray) (e : Pr) (n : Int) (M : Mem) (hs : s.size < 2 ^ 62) (hn : n < 2 ^ 63) (hd : right d = true) (he : right e = false) : SoundCall Try.prog 9 [encP d, .raw (.string s), encP e, int n] M fun r M' => r = .raw (.bool true) ∧ M.le M' := by
  refine SoundCall.go tk9 pl9 mixed Try.func9 cb9 rfl (Nat.le_of_ble_eq_true rfl) ?_
  refine s_seq ?_
  refine s_region ?_
  refine o_box (by first | exact e_raw rfl | exact e_agg rfl | exact e_sl rfl) rfl rfl (fun B1 hB1 => ?_)
  have m1 : M B1 = none := by have h := hB1; repeat (first | exact h | exact Mem.none_of_le hle h | replace h := (Mem.upd_none h).2)
  refine o_box (by first | exact e_raw rfl | exact e_agg rfl | exact e_sl rfl) rfl rfl (fun B2 hB2 => ?_)
  have f1_2 : B1 ≠ B2 := Mem.fresh_ne hB2 (by repeat first | exact Mem.upd_self _ _ _ | assumption | refine Mem.upd_ne (by assumption) ?_)
  have g2_1 : B2 ≠ B1 := f1_2.symm
  have m2 : M B2 = none := by have h := hB2; repeat (first | exact h | exact Mem.none_of_le hle h | replace h := (Mem.upd_none h).2)
  refine o_q (q_as (v_raw rfl)) rfl rfl rfl ?_
  refine o_nil ?_
  refine s_seq ?_
  refine s_region ?_
  refine o_call ((snd11 _).det) goes11 ac_nil rfl ?_
  refine o_q (q_as (v_raw rfl)) rfl rfl rfl ?_
  refine o_nil ?_
  refine s_seq ?_
  refine s_region ?_
  refine o_q (q_ldmw ag23 sz23 rfl (by repeat first | exact Mem.upd_self _ _ _ | assumption | refine Mem.upd_ne (by assumption) ?_) rfl rfl) rfl rfl rfl ?_
  refine o_q (q_mv (v_raw rfl)) rfl rfl rfl ?_
  refine o_call (snd13r d s _ hd hs) goes13 (ac (v_agg rfl) (ac (v_raw rfl) ac_nil)) rfl ?_
  refine o_q (q_mv (v_tup rfl)) rfl rfl rfl ?_
  refine o_q (q_ext rfl rfl (v_agg rfl)) rfl rfl rfl ?_
  refine o_q (q_ext rfl rfl (v_raw rfl)) rfl rfl rfl ?_
  refine o_alloc zc23 (fun B3 hB3 => ?_)
  have f1_3 : B1 ≠ B3 := Mem.fresh_ne hB3 (by repeat first | exact Mem.upd_self _ _ _ | assumption | refine Mem.upd_ne (by assumption) ?_)
  have g3_1 : B3 ≠ B1 := f1_3.symm
  have f2_3 : B2 ≠ B3 := Mem.fresh_ne hB3 (by repeat first | exact Mem.upd_self _ _ _ | assumption | refine Mem.upd_ne (by assumption) ?_)
  have g3_2 : B3 ≠ B2 := f2_3.symm
  have m3 : M B3 = none := by have h := hB3; repeat (first | exact h | exact Mem.none_of_le hle h | replace h := (Mem.upd_none h).2)
  refine o_storew rfl (by repeat first | exact Mem.upd_self _ _ _ | assumption | refine Mem.upd_ne (by assumption) ?_) (by first | exact e_agg rfl | rfl) rfl sz23 rfl rfl rfl rfl ?_
  refine o_q (q_as (v_raw rfl)) rfl rfl rfl ?_
  refine o_nil ?_
  refine s_seq ?_
  refine s_region ?_
  refine o_q (q_ldmw ag23 sz23 rfl (by repeat first | exact Mem.upd_self _ _ _ | assumption | refine Mem.upd_ne (by assumption) ?_) rfl rfl) rfl rfl rfl ?_
  refine o_q (q_ldmw ag23 sz23 rfl (by repeat first | exact Mem.upd_self _ _ _ | assumption | refine Mem.upd_ne (by assumption) ?_) rfl rfl) rfl rfl rfl ?_
  refine o_q (q_mv (v_raw rfl)) rfl rfl rfl ?_
  refine o_call (snd28f d e n _ hn (by simp [hd, he])) goes28 (ac (v_agg rfl) (ac (v_agg rfl) (ac (v_raw rfl) ac_nil))) rfl ?_
  refine o_q (q_mv (v_tup rfl)) rfl rfl rfl ?_
  refine o_q (q_ext rfl rfl (v_agg rfl)) rfl rfl rfl ?_
  refine o_q (q_ext rfl rfl (v_raw rfl)) rfl rfl rfl ?_
  refine o_alloc zc23 (fun B4 hB4 => ?_)
  have f1_4 : B1 ≠ B4 := Mem.fresh_ne hB4 (by repeat first | exact Mem.upd_self _ _ _ | assumption | refine Mem.upd_ne (by assumption) ?_)
  have g4_1 : B4 ≠ B1 := f1_4.symm
  have f2_4 : B2 ≠ B4 := Mem.fresh_ne hB4 (by repeat first | exact Mem.upd_self _ _ _ | assumption | refine Mem.upd_ne (by assumption) ?_)
  have g4_2 : B4 ≠ B2 := f2_4.symm
  have f3_4 : B3 ≠ B4 := Mem.fresh_ne hB4 (by repeat first | exact Mem.upd_self _ _ _ | assumption | refine Mem.upd_ne (by assumption) ?_)
  have g4_3 : B4 ≠ B3 := f3_4.symm
  have m4 : M B4 = none := by have h := hB4; repeat (first | exact h | exact Mem.none_of_le hle h | replace h := (Mem.upd_none h).2)
  refine o_storew rfl (by repeat first | exact Mem.upd_self _ _ _ | assumption | refine Mem.upd_ne (by assumption) ?_) (by first | exact e_agg rfl | rfl) rfl sz23 rfl rfl rfl rfl ?_
  refine o_q (q_as (v_raw rfl)) rfl rfl rfl ?_
  refine o_nil ?_
  refine s_seq ?_
  refine s_region ?_
  refine o_q (q_ldmw ag23 sz23 rfl (by repeat first | exact Mem.upd_self _ _ _ | assumption | refine Mem.upd_ne (by assumption) ?_) rfl rfl) rfl rfl rfl ?_
  refine o_call (right_t _ hd) goes16 (ac (v_agg rfl) ac_nil) rfl ?_
  refine o_q (q_as (v_raw rfl)) rfl rfl rfl ?_
  refine o_nil ?_
  refine s_seq ?_
  refine s_region ?_
  refine o_q (q_mv (v_raw rfl)) rfl rfl rfl ?_
  refine o_q (q_mv (v_raw rfl)) rfl rfl rfl ?_
  refine o_yes rfl rfl rfl rfl ?_
  refine o_q (q_ldmw ag23 sz23 rfl (by repeat first | exact Mem.upd_self _ _ _ | assumption | refine Mem.upd_ne (by assumption) ?_) rfl rfl) rfl rfl rfl ?_
  refine o_yes rfl rfl rfl rfl ?_
  refine o_call (right_t _ he) goes16 (ac (v_agg rfl) ac_nil) rfl ?_
  refine o_q (q_pick_c (t := true) rfl rfl (v_raw rfl)) rfl rfl rfl ?_
  refine o_q (q_mv (v_raw rfl)) rfl rfl rfl ?_
  refine o_no rfl rfl rfl rfl rfl ?_
  refine o_no rfl rfl rfl rfl rfl ?_
  refine o_q (q_pick_c (t := false) rfl rfl (v_raw rfl)) rfl rfl rfl ?_
  refine o_q (q_as (v_raw rfl)) rfl rfl rfl ?_
  refine o_nil ?_
  refine s_seq ?_
  refine s_seq ?_
  refine s_region ?_
  refine o_q (q_mv (v_raw rfl)) rfl rfl rfl ?_
  refine o_q (q_not rfl) rfl rfl rfl ?_
  refine o_q (q_mv (v_raw rfl)) rfl rfl rfl ?_
  refine o_no rfl rfl rfl rfl rfl ?_
  refine o_no rfl rfl rfl rfl rfl ?_
  refine o_no rfl rfl rfl rfl rfl ?_
  refine o_no rfl rfl rfl rfl rfl ?_
  refine o_skip rfl rfl rfl rfl ?_
  refine o_skip rfl rfl rfl rfl ?_
  refine o_no rfl rfl rfl rfl rfl ?_
  refine o_q (q_pick_c (t := false) rfl rfl (v_raw rfl)) rfl rfl rfl ?_
  refine o_q (q_mv (v_raw rfl)) rfl rfl rfl ?_
  refine o_yes rfl rfl rfl rfl ?_
  refine o_q (q_mv (v_raw rfl)) rfl rfl rfl ?_
  refine o_yes rfl rfl rfl rfl ?_
  refine o_q (q_not rfl) rfl rfl rfl ?_
  refine o_yes rfl rfl rfl rfl ?_
  refine o_q (q_mv (v_raw rfl)) rfl rfl rfl ?_
  refine o_yes rfl rfl rfl rfl ?_
  refine o_q (q_ldmw ag23 sz23 rfl (by repeat first | exact Mem.upd_self _ _ _ | assumption | refine Mem.upd_ne (by assumption) ?_) rfl rfl) rfl rfl rfl ?_
  refine o_yes rfl rfl rfl rfl ?_
  refine o_q (q_b (cs := [.raw (.int .i64 0), .raw (.int .i64 0)]) bz23 bp23 bf_nil) rfl rfl rfl ?_
  refine o_yes rfl rfl rfl rfl ?_
  refine o_q (q_bin' rfl rfl (binNeM _ _ ⟨0, 0⟩ ⟨0, 0⟩)) rfl rfl rfl ?_
  refine o_yes rfl rfl rfl rfl ?_
  refine o_q (q_mv (v_raw rfl)) rfl rfl rfl ?_
  refine o_yes rfl rfl rfl (by decide) ?_
  refine o_q (q_mv (v_raw rfl)) rfl rfl rfl ?_
  refine o_yes rfl rfl rfl (by decide) ?_
  refine o_q (q_neq rfl rfl) rfl rfl rfl ?_
  refine o_yes rfl rfl rfl rfl ?_
  refine o_q (q_pick_c (t := false) rfl (by decide) (v_raw rfl)) rfl rfl rfl ?_
  refine o_yes rfl rfl rfl rfl ?_
  refine o_q (q_pick_c (t := true) rfl rfl (v_raw rfl)) rfl rfl rfl ?_
  refine o_q (q_pick_c (t := false) rfl rfl (v_raw rfl)) rfl rfl rfl ?_
  refine o_nil ?_
  refine s_else rfl (by decide) ?_
  refine s_skip ?_
  refine s_seq ?_
  refine s_seq ?_
  refine s_draw rfl ?_
  refine d_q rfl (q_mv (v_raw rfl)) rfl rfl rfl ?_
  refine d_q rfl (q_mv (v_raw rfl)) rfl rfl rfl ?_
  refine d_yes rfl (q_ldmw ag23 sz23 rfl (by repeat first | exact Mem.upd_self _ _ _ | assumption | refine Mem.upd_ne (by assumption) ?_) rfl rfl) rfl rfl rfl rfl rfl rfl ?_
  refine d_yes rfl (q_ldmw ag23 sz23 rfl (by repeat first | exact Mem.upd_self _ _ _ | assumption | refine Mem.upd_ne (by assumption) ?_) rfl rfl) rfl rfl rfl rfl rfl rfl ?_
  refine d_yes rfl (q_mv (v_raw rfl)) rfl rfl rfl rfl rfl rfl ?_
  refine d_s rfl ?_
  refine o_yes rfl rfl rfl rfl ?_
  refine o_call ((snd29 d s _ hs hd).det) goes29 (ac (v_agg rfl) (ac (v_raw rfl) ac_nil)) rfl ?_
  refine o_nil ⟨(by simp [Mem.upd, *]), ?_⟩
  refine d_yes rfl (q_bin' rfl rfl (binNeM _ _ (onP d s) (onP d s))) rfl rfl rfl rfl rfl rfl ?_
  refine d_yes rfl (q_mv (v_raw rfl)) rfl rfl rfl rfl rfl rfl ?_
  refine d_yes rfl (q_mv (v_raw rfl)) rfl rfl rfl (by simp) rfl rfl ?_
  refine d_yes rfl (q_neq rfl rfl) rfl rfl rfl (by simp) rfl rfl ?_
  refine d_yes rfl (q_pick_c (t := false) rfl (by simp) (v_raw rfl)) rfl rfl rfl rfl rfl rfl ?_
  refine d_q rfl (q_pick_c (t := true) rfl rfl (v_raw rfl)) rfl rfl rfl ?_
  refine d_nil ?_
  refine s_else rfl (by decide) ?_
  refine s_skip ?_
  refine s_seq ?_
  refine s_draw rfl ?_
  refine d_q rfl (q_mv (v_raw rfl)) rfl rfl rfl ?_
  refine d_q rfl (q_mv (v_raw rfl)) rfl rfl rfl ?_
  refine d_yes rfl (q_mv (v_raw rfl)) rfl rfl rfl rfl rfl rfl ?_
  refine d_yes rfl (q_not rfl) rfl rfl rfl rfl rfl rfl ?_
  refine d_yes rfl (q_mv (v_raw rfl)) rfl rfl rfl rfl rfl rfl ?_
  refine d_no rfl rfl rfl rfl rfl rfl ?_
  refine d_no rfl rfl rfl rfl rfl rfl ?_
  refine d_no rfl rfl rfl rfl rfl rfl ?_
  refine d_no rfl rfl rfl rfl rfl rfl ?_
  refine d_s rfl ?_
  refine o_no rfl rfl rfl rfl rfl ?_
  refine o_nil ⟨(by simp [Mem.upd, *]), ?_⟩
  refine d_no rfl rfl rfl rfl rfl rfl ?_
  refine d_no rfl rfl rfl rfl rfl rfl ?_
  refine d_skip rfl rfl rfl rfl rfl ?_
  refine d_skip rfl rfl rfl rfl rfl ?_
  refine d_no rfl rfl rfl rfl rfl rfl ?_
  refine d_yes rfl (q_pick_c (t := true) rfl rfl (v_raw rfl)) rfl rfl rfl rfl rfl rfl ?_
  refine d_q rfl (q_pick_c (t := true) rfl rfl (v_raw rfl)) rfl rfl rfl ?_
  refine d_q rfl (q_mv (v_raw rfl)) rfl rfl rfl ?_
  refine d_s rfl ?_
  refine o_yes rfl rfl rfl rfl ?_
  refine o_call ((snd31 _).det) goes31 ac_nil rfl ?_
  refine o_nil ⟨(by simp [Mem.upd, *]), ?_⟩
  refine d_s rfl ?_
  refine o_yes rfl rfl rfl rfl ?_
  refine o_call ((snd32 _).det) goes32 ac_nil rfl ?_
  refine o_nil ⟨(by simp [Mem.upd, *]), ?_⟩
  refine d_yes rfl (q_bin' rfl rfl (binEqM _ _ ⟨1, 0⟩ ⟨1, 0⟩)) rfl rfl rfl rfl rfl rfl ?_
  refine d_q rfl (q_pick_c (t := true) rfl rfl (v_raw rfl)) rfl rfl rfl ?_
  refine d_q rfl (q_as (v_raw rfl)) rfl rfl rfl ?_
  refine d_nil ?_
  refine s_ret ?_
  refine s_end ?_
  exact ⟨congrArg (fun b => AVal.raw (.bool b)) (by decide), (by repeat first | exact hle | exact Mem.le_refl M | assumption | exact Mem.none_of_le hle (by assumption) | refine Mem.le_upd ?_ ?_)⟩

-- carillon/carillonlaw03.GaussDigests params ['api.Pair', 'string', 'api.Pair', 'int'] results [['t', 8]] own [] names ['0:d', '1:s', '2:e', '3:n', '4:d', '5:s', '6:e', '7:n', '9:head', '10:a', '11:f', '12:b', '13:g', '14:one', '15:two'] calls [11, 13, 16, 28, 29, 31, 32] paths 1
set_option maxHeartbeats 4000000 in
set_option maxRecDepth 20000 in
theorem snd9c (d : Pr) (s : ByteArray) (e : Pr) (n : Int) (M : Mem) (hs : s.size < 2 ^ 62) (hn : n < 2 ^ 63) (hd : right d = true) (he : right e = true) (h0 : n < 0) : SoundCall Try.prog 9 [encP d, .raw (.string s), encP e, int n] M fun r M' => r = .raw (.bool true) ∧ M.le M' := by
  refine SoundCall.go tk9 pl9 mixed Try.func9 cb9 rfl (Nat.le_of_ble_eq_true rfl) ?_
  refine s_seq ?_
  refine s_region ?_
  refine o_box (by first | exact e_raw rfl | exact e_agg rfl | exact e_sl rfl) rfl rfl (fun B1 hB1 => ?_)
  have m1 : M B1 = none := by have h := hB1; repeat (first | exact h | exact Mem.none_of_le hle h | replace h := (Mem.upd_none h).2)
  refine o_box (by first | exact e_raw rfl | exact e_agg rfl | exact e_sl rfl) rfl rfl (fun B2 hB2 => ?_)
  have f1_2 : B1 ≠ B2 := Mem.fresh_ne hB2 (by repeat first | exact Mem.upd_self _ _ _ | assumption | refine Mem.upd_ne (by assumption) ?_)
  have g2_1 : B2 ≠ B1 := f1_2.symm
  have m2 : M B2 = none := by have h := hB2; repeat (first | exact h | exact Mem.none_of_le hle h | replace h := (Mem.upd_none h).2)
  refine o_q (q_as (v_raw rfl)) rfl rfl rfl ?_
  refine o_nil ?_
  refine s_seq ?_
  refine s_region ?_
  refine o_call ((snd11 _).det) goes11 ac_nil rfl ?_
  refine o_q (q_as (v_raw rfl)) rfl rfl rfl ?_
  refine o_nil ?_
  refine s_seq ?_
  refine s_region ?_
  refine o_q (q_ldmw ag23 sz23 rfl (by repeat first | exact Mem.upd_self _ _ _ | assumption | refine Mem.upd_ne (by assumption) ?_) rfl rfl) rfl rfl rfl ?_
  refine o_q (q_mv (v_raw rfl)) rfl rfl rfl ?_
  refine o_call (snd13r d s _ hd hs) goes13 (ac (v_agg rfl) (ac (v_raw rfl) ac_nil)) rfl ?_
  refine o_q (q_mv (v_tup rfl)) rfl rfl rfl ?_
  refine o_q (q_ext rfl rfl (v_agg rfl)) rfl rfl rfl ?_
  refine o_q (q_ext rfl rfl (v_raw rfl)) rfl rfl rfl ?_
  refine o_alloc zc23 (fun B3 hB3 => ?_)
  have f1_3 : B1 ≠ B3 := Mem.fresh_ne hB3 (by repeat first | exact Mem.upd_self _ _ _ | assumption | refine Mem.upd_ne (by assumption) ?_)
  have g3_1 : B3 ≠ B1 := f1_3.symm
  have f2_3 : B2 ≠ B3 := Mem.fresh_ne hB3 (by repeat first | exact Mem.upd_self _ _ _ | assumption | refine Mem.upd_ne (by assumption) ?_)
  have g3_2 : B3 ≠ B2 := f2_3.symm
  have m3 : M B3 = none := by have h := hB3; repeat (first | exact h | exact Mem.none_of_le hle h | replace h := (Mem.upd_none h).2)
  refine o_storew rfl (by repeat first | exact Mem.upd_self _ _ _ | assumption | refine Mem.upd_ne (by assumption) ?_) (by first | exact e_agg rfl | rfl) rfl sz23 rfl rfl rfl rfl ?_
  refine o_q (q_as (v_raw rfl)) rfl rfl rfl ?_
  refine o_nil ?_
  refine s_seq ?_
  refine s_region ?_
  refine o_q (q_ldmw ag23 sz23 rfl (by repeat first | exact Mem.upd_self _ _ _ | assumption | refine Mem.upd_ne (by assumption) ?_) rfl rfl) rfl rfl rfl ?_
  refine o_q (q_ldmw ag23 sz23 rfl (by repeat first | exact Mem.upd_self _ _ _ | assumption | refine Mem.upd_ne (by assumption) ?_) rfl rfl) rfl rfl rfl ?_
  refine o_q (q_mv (v_raw rfl)) rfl rfl rfl ?_
  refine o_call (snd28f d e n _ hn (by simp [hd, he]; omega)) goes28 (ac (v_agg rfl) (ac (v_agg rfl) (ac (v_raw rfl) ac_nil))) rfl ?_
  refine o_q (q_mv (v_tup rfl)) rfl rfl rfl ?_
  refine o_q (q_ext rfl rfl (v_agg rfl)) rfl rfl rfl ?_
  refine o_q (q_ext rfl rfl (v_raw rfl)) rfl rfl rfl ?_
  refine o_alloc zc23 (fun B4 hB4 => ?_)
  have f1_4 : B1 ≠ B4 := Mem.fresh_ne hB4 (by repeat first | exact Mem.upd_self _ _ _ | assumption | refine Mem.upd_ne (by assumption) ?_)
  have g4_1 : B4 ≠ B1 := f1_4.symm
  have f2_4 : B2 ≠ B4 := Mem.fresh_ne hB4 (by repeat first | exact Mem.upd_self _ _ _ | assumption | refine Mem.upd_ne (by assumption) ?_)
  have g4_2 : B4 ≠ B2 := f2_4.symm
  have f3_4 : B3 ≠ B4 := Mem.fresh_ne hB4 (by repeat first | exact Mem.upd_self _ _ _ | assumption | refine Mem.upd_ne (by assumption) ?_)
  have g4_3 : B4 ≠ B3 := f3_4.symm
  have m4 : M B4 = none := by have h := hB4; repeat (first | exact h | exact Mem.none_of_le hle h | replace h := (Mem.upd_none h).2)
  refine o_storew rfl (by repeat first | exact Mem.upd_self _ _ _ | assumption | refine Mem.upd_ne (by assumption) ?_) (by first | exact e_agg rfl | rfl) rfl sz23 rfl rfl rfl rfl ?_
  refine o_q (q_as (v_raw rfl)) rfl rfl rfl ?_
  refine o_nil ?_
  refine s_seq ?_
  refine s_region ?_
  refine o_q (q_ldmw ag23 sz23 rfl (by repeat first | exact Mem.upd_self _ _ _ | assumption | refine Mem.upd_ne (by assumption) ?_) rfl rfl) rfl rfl rfl ?_
  refine o_call (right_t _ hd) goes16 (ac (v_agg rfl) ac_nil) rfl ?_
  refine o_q (q_as (v_raw rfl)) rfl rfl rfl ?_
  refine o_nil ?_
  refine s_seq ?_
  refine s_region ?_
  refine o_q (q_mv (v_raw rfl)) rfl rfl rfl ?_
  refine o_q (q_mv (v_raw rfl)) rfl rfl rfl ?_
  refine o_yes rfl rfl rfl rfl ?_
  refine o_q (q_ldmw ag23 sz23 rfl (by repeat first | exact Mem.upd_self _ _ _ | assumption | refine Mem.upd_ne (by assumption) ?_) rfl rfl) rfl rfl rfl ?_
  refine o_yes rfl rfl rfl rfl ?_
  refine o_call (right_t _ he) goes16 (ac (v_agg rfl) ac_nil) rfl ?_
  refine o_q (q_pick_c (t := true) rfl rfl (v_raw rfl)) rfl rfl rfl ?_
  refine o_q (q_mv (v_raw rfl)) rfl rfl rfl ?_
  refine o_yes rfl rfl rfl rfl ?_
  refine o_q (q_mv (v_raw rfl)) rfl rfl rfl ?_
  refine o_yes rfl rfl rfl rfl ?_
  refine o_q (q_geq rfl rfl) rfl rfl rfl ?_
  refine o_q (q_pick_c (t := true) rfl rfl (v_raw rfl)) rfl rfl rfl ?_
  refine o_q (q_as (v_raw rfl)) rfl rfl rfl ?_
  refine o_nil ?_
  refine s_seq ?_
  refine s_seq ?_
  refine s_region ?_
  refine o_q (q_mv (v_raw rfl)) rfl rfl rfl ?_
  refine o_q (q_not rfl) rfl rfl rfl ?_
  refine o_q (q_mv (v_raw rfl)) rfl rfl rfl ?_
  refine o_no rfl rfl rfl rfl rfl ?_
  refine o_no rfl rfl rfl rfl rfl ?_
  refine o_no rfl rfl rfl rfl rfl ?_
  refine o_no rfl rfl rfl rfl rfl ?_
  refine o_skip rfl rfl rfl rfl ?_
  refine o_skip rfl rfl rfl rfl ?_
  refine o_no rfl rfl rfl rfl rfl ?_
  refine o_q (q_pick_c (t := false) rfl rfl (v_raw rfl)) rfl rfl rfl ?_
  refine o_q (q_mv (v_raw rfl)) rfl rfl rfl ?_
  refine o_yes rfl rfl rfl rfl ?_
  refine o_q (q_mv (v_raw rfl)) rfl rfl rfl ?_
  refine o_yes rfl rfl rfl rfl ?_
  refine o_q (q_not rfl) rfl rfl rfl ?_
  refine o_yes rfl rfl rfl rfl ?_
  refine o_q (q_mv (v_raw rfl)) rfl rfl rfl ?_
  refine o_yes rfl rfl rfl (by simp; omega) ?_
  refine o_q (q_ldmw ag23 sz23 rfl (by repeat first | exact Mem.upd_self _ _ _ | assumption | refine Mem.upd_ne (by assumption) ?_) rfl rfl) rfl rfl rfl ?_
  refine o_yes rfl rfl rfl (by simp; omega) ?_
  refine o_q (q_b (cs := [.raw (.int .i64 0), .raw (.int .i64 0)]) bz23 bp23 bf_nil) rfl rfl rfl ?_
  refine o_yes rfl rfl rfl (by simp; omega) ?_
  refine o_q (q_bin' rfl rfl (binNeM _ _ ⟨0, 0⟩ ⟨0, 0⟩)) rfl rfl rfl ?_
  refine o_yes rfl rfl rfl (by simp; omega) ?_
  refine o_q (q_mv (v_raw rfl)) rfl rfl rfl ?_
  refine o_yes rfl rfl rfl (by decide) ?_
  refine o_q (q_mv (v_raw rfl)) rfl rfl rfl ?_
  refine o_yes rfl rfl rfl (by decide) ?_
  refine o_q (q_neq rfl rfl) rfl rfl rfl ?_
  refine o_yes rfl rfl rfl (by simp; omega) ?_
  refine o_q (q_pick_c (t := false) rfl (by decide) (v_raw rfl)) rfl rfl rfl ?_
  refine o_yes rfl rfl rfl rfl ?_
  refine o_q (q_pick_c (t := true) rfl (by simp; omega) (v_raw rfl)) rfl rfl rfl ?_
  refine o_q (q_pick_c (t := false) rfl rfl (v_raw rfl)) rfl rfl rfl ?_
  refine o_nil ?_
  refine s_else rfl (by decide) ?_
  refine s_skip ?_
  refine s_seq ?_
  refine s_seq ?_
  refine s_draw rfl ?_
  refine d_q rfl (q_mv (v_raw rfl)) rfl rfl rfl ?_
  refine d_q rfl (q_mv (v_raw rfl)) rfl rfl rfl ?_
  refine d_yes rfl (q_ldmw ag23 sz23 rfl (by repeat first | exact Mem.upd_self _ _ _ | assumption | refine Mem.upd_ne (by assumption) ?_) rfl rfl) rfl rfl rfl rfl rfl rfl ?_
  refine d_yes rfl (q_ldmw ag23 sz23 rfl (by repeat first | exact Mem.upd_self _ _ _ | assumption | refine Mem.upd_ne (by assumption) ?_) rfl rfl) rfl rfl rfl rfl rfl rfl ?_
  refine d_yes rfl (q_mv (v_raw rfl)) rfl rfl rfl rfl rfl rfl ?_
  refine d_s rfl ?_
  refine o_yes rfl rfl rfl rfl ?_
  refine o_call ((snd29 d s _ hs hd).det) goes29 (ac (v_agg rfl) (ac (v_raw rfl) ac_nil)) rfl ?_
  refine o_nil ⟨(by simp [Mem.upd, *]), ?_⟩
  refine d_yes rfl (q_bin' rfl rfl (binNeM _ _ (onP d s) (onP d s))) rfl rfl rfl rfl rfl rfl ?_
  refine d_yes rfl (q_mv (v_raw rfl)) rfl rfl rfl rfl rfl rfl ?_
  refine d_yes rfl (q_mv (v_raw rfl)) rfl rfl rfl (by simp) rfl rfl ?_
  refine d_yes rfl (q_neq rfl rfl) rfl rfl rfl (by simp) rfl rfl ?_
  refine d_yes rfl (q_pick_c (t := false) rfl (by simp) (v_raw rfl)) rfl rfl rfl rfl rfl rfl ?_
  refine d_q rfl (q_pick_c (t := true) rfl rfl (v_raw rfl)) rfl rfl rfl ?_
  refine d_nil ?_
  refine s_else rfl (by decide) ?_
  refine s_skip ?_
  refine s_seq ?_
  refine s_draw rfl ?_
  refine d_q rfl (q_mv (v_raw rfl)) rfl rfl rfl ?_
  refine d_q rfl (q_mv (v_raw rfl)) rfl rfl rfl ?_
  refine d_yes rfl (q_mv (v_raw rfl)) rfl rfl rfl rfl rfl rfl ?_
  refine d_yes rfl (q_not rfl) rfl rfl rfl rfl rfl rfl ?_
  refine d_yes rfl (q_mv (v_raw rfl)) rfl rfl rfl rfl rfl rfl ?_
  refine d_no rfl rfl rfl rfl (by simp; omega) rfl ?_
  refine d_no rfl rfl rfl rfl (by simp; omega) rfl ?_
  refine d_no rfl rfl rfl rfl (by simp; omega) rfl ?_
  refine d_no rfl rfl rfl rfl (by simp; omega) rfl ?_
  refine d_s rfl ?_
  refine o_no rfl rfl rfl rfl (by simp; omega) ?_
  refine o_nil ⟨(by simp [Mem.upd, *]), ?_⟩
  refine d_no rfl rfl rfl rfl (by simp; omega) rfl ?_
  refine d_no rfl rfl rfl rfl (by simp; omega) rfl ?_
  refine d_skip rfl rfl rfl rfl rfl ?_
  refine d_skip rfl rfl rfl rfl rfl ?_
  refine d_no rfl rfl rfl rfl (by simp; omega) rfl ?_
  refine d_yes rfl (q_pick_c (t := true) rfl (by simp; omega) (v_raw rfl)) rfl rfl rfl rfl rfl rfl ?_
  refine d_q rfl (q_pick_c (t := true) rfl rfl (v_raw rfl)) rfl rfl rfl ?_
  refine d_q rfl (q_mv (v_raw rfl)) rfl rfl rfl ?_
  refine d_s rfl ?_
  refine o_yes rfl rfl rfl rfl ?_
  refine o_call ((snd31 _).det) goes31 ac_nil rfl ?_
  refine o_nil ⟨(by simp [Mem.upd, *]), ?_⟩
  refine d_s rfl ?_
  refine o_yes rfl rfl rfl rfl ?_
  refine o_call ((snd32 _).det) goes32 ac_nil rfl ?_
  refine o_nil ⟨(by simp [Mem.upd, *]), ?_⟩
  refine d_yes rfl (q_bin' rfl rfl (binEqM _ _ ⟨1, 0⟩ ⟨1, 0⟩)) rfl rfl rfl rfl rfl rfl ?_
  refine d_q rfl (q_pick_c (t := true) rfl rfl (v_raw rfl)) rfl rfl rfl ?_
  refine d_q rfl (q_as (v_raw rfl)) rfl rfl rfl ?_
  refine d_nil ?_
  refine s_ret ?_
  refine s_end ?_
  exact ⟨congrArg (fun b => AVal.raw (.bool b)) (by decide), (by repeat first | exact hle | exact Mem.le_refl M | assumption | exact Mem.none_of_le hle (by assumption) | refine Mem.le_upd ?_ ?_)⟩

-- carillon/carillonlaw03.GaussDigests params ['api.Pair', 'string', 'api.Pair', 'int'] results [['t', 8]] own [] names ['0:d', '1:s', '2:e', '3:n', '4:d', '5:s', '6:e', '7:n', '9:head', '10:a', '11:f', '12:b', '13:g', '14:one', '15:two'] calls [11, 13, 16, 28, 29, 30, 31, 32] paths 1
set_option maxHeartbeats 4000000 in
set_option maxRecDepth 20000 in
theorem snd9d (d : Pr) (s : ByteArray) (e : Pr) (n : Int) (M : Mem) (hs : s.size < 2 ^ 62) (hn : n < 2 ^ 63) (hd : right d = true) (he : right e = true) (h0 : 0 ≤ n) : SoundCall Try.prog 9 [encP d, .raw (.string s), encP e, int n] M fun r M' => r = .raw (.bool true) ∧ M.le M' := by
  refine SoundCall.go tk9 pl9 mixed Try.func9 cb9 rfl (Nat.le_of_ble_eq_true rfl) ?_
  refine s_seq ?_
  refine s_region ?_
  refine o_box (by first | exact e_raw rfl | exact e_agg rfl | exact e_sl rfl) rfl rfl (fun B1 hB1 => ?_)
  have m1 : M B1 = none := by have h := hB1; repeat (first | exact h | exact Mem.none_of_le hle h | replace h := (Mem.upd_none h).2)
  refine o_box (by first | exact e_raw rfl | exact e_agg rfl | exact e_sl rfl) rfl rfl (fun B2 hB2 => ?_)
  have f1_2 : B1 ≠ B2 := Mem.fresh_ne hB2 (by repeat first | exact Mem.upd_self _ _ _ | assumption | refine Mem.upd_ne (by assumption) ?_)
  have g2_1 : B2 ≠ B1 := f1_2.symm
  have m2 : M B2 = none := by have h := hB2; repeat (first | exact h | exact Mem.none_of_le hle h | replace h := (Mem.upd_none h).2)
  refine o_q (q_as (v_raw rfl)) rfl rfl rfl ?_
  refine o_nil ?_
  refine s_seq ?_
  refine s_region ?_
  refine o_call ((snd11 _).det) goes11 ac_nil rfl ?_
  refine o_q (q_as (v_raw rfl)) rfl rfl rfl ?_
  refine o_nil ?_
  refine s_seq ?_
  refine s_region ?_
  refine o_q (q_ldmw ag23 sz23 rfl (by repeat first | exact Mem.upd_self _ _ _ | assumption | refine Mem.upd_ne (by assumption) ?_) rfl rfl) rfl rfl rfl ?_
  refine o_q (q_mv (v_raw rfl)) rfl rfl rfl ?_
  refine o_call (snd13r d s _ hd hs) goes13 (ac (v_agg rfl) (ac (v_raw rfl) ac_nil)) rfl ?_
  refine o_q (q_mv (v_tup rfl)) rfl rfl rfl ?_
  refine o_q (q_ext rfl rfl (v_agg rfl)) rfl rfl rfl ?_
  refine o_q (q_ext rfl rfl (v_raw rfl)) rfl rfl rfl ?_
  refine o_alloc zc23 (fun B3 hB3 => ?_)
  have f1_3 : B1 ≠ B3 := Mem.fresh_ne hB3 (by repeat first | exact Mem.upd_self _ _ _ | assumption | refine Mem.upd_ne (by assumption) ?_)
  have g3_1 : B3 ≠ B1 := f1_3.symm
  have f2_3 : B2 ≠ B3 := Mem.fresh_ne hB3 (by repeat first | exact Mem.upd_self _ _ _ | assumption | refine Mem.upd_ne (by assumption) ?_)
  have g3_2 : B3 ≠ B2 := f2_3.symm
  have m3 : M B3 = none := by have h := hB3; repeat (first | exact h | exact Mem.none_of_le hle h | replace h := (Mem.upd_none h).2)
  refine o_storew rfl (by repeat first | exact Mem.upd_self _ _ _ | assumption | refine Mem.upd_ne (by assumption) ?_) (by first | exact e_agg rfl | rfl) rfl sz23 rfl rfl rfl rfl ?_
  refine o_q (q_as (v_raw rfl)) rfl rfl rfl ?_
  refine o_nil ?_
  refine s_seq ?_
  refine s_region ?_
  refine o_q (q_ldmw ag23 sz23 rfl (by repeat first | exact Mem.upd_self _ _ _ | assumption | refine Mem.upd_ne (by assumption) ?_) rfl rfl) rfl rfl rfl ?_
  refine o_q (q_ldmw ag23 sz23 rfl (by repeat first | exact Mem.upd_self _ _ _ | assumption | refine Mem.upd_ne (by assumption) ?_) rfl rfl) rfl rfl rfl ?_
  refine o_q (q_mv (v_raw rfl)) rfl rfl rfl ?_
  refine o_call (snd28r d e n _ hn hd he h0) goes28 (ac (v_agg rfl) (ac (v_agg rfl) (ac (v_raw rfl) ac_nil))) rfl ?_
  refine o_q (q_mv (v_tup rfl)) rfl rfl rfl ?_
  refine o_q (q_ext rfl rfl (v_agg rfl)) rfl rfl rfl ?_
  refine o_q (q_ext rfl rfl (v_raw rfl)) rfl rfl rfl ?_
  refine o_alloc zc23 (fun B4 hB4 => ?_)
  have f1_4 : B1 ≠ B4 := Mem.fresh_ne hB4 (by repeat first | exact Mem.upd_self _ _ _ | assumption | refine Mem.upd_ne (by assumption) ?_)
  have g4_1 : B4 ≠ B1 := f1_4.symm
  have f2_4 : B2 ≠ B4 := Mem.fresh_ne hB4 (by repeat first | exact Mem.upd_self _ _ _ | assumption | refine Mem.upd_ne (by assumption) ?_)
  have g4_2 : B4 ≠ B2 := f2_4.symm
  have f3_4 : B3 ≠ B4 := Mem.fresh_ne hB4 (by repeat first | exact Mem.upd_self _ _ _ | assumption | refine Mem.upd_ne (by assumption) ?_)
  have g4_3 : B4 ≠ B3 := f3_4.symm
  have m4 : M B4 = none := by have h := hB4; repeat (first | exact h | exact Mem.none_of_le hle h | replace h := (Mem.upd_none h).2)
  refine o_storew rfl (by repeat first | exact Mem.upd_self _ _ _ | assumption | refine Mem.upd_ne (by assumption) ?_) (by first | exact e_agg rfl | rfl) rfl sz23 rfl rfl rfl rfl ?_
  refine o_q (q_as (v_raw rfl)) rfl rfl rfl ?_
  refine o_nil ?_
  refine s_seq ?_
  refine s_region ?_
  refine o_q (q_ldmw ag23 sz23 rfl (by repeat first | exact Mem.upd_self _ _ _ | assumption | refine Mem.upd_ne (by assumption) ?_) rfl rfl) rfl rfl rfl ?_
  refine o_call (right_t _ hd) goes16 (ac (v_agg rfl) ac_nil) rfl ?_
  refine o_q (q_as (v_raw rfl)) rfl rfl rfl ?_
  refine o_nil ?_
  refine s_seq ?_
  refine s_region ?_
  refine o_q (q_mv (v_raw rfl)) rfl rfl rfl ?_
  refine o_q (q_mv (v_raw rfl)) rfl rfl rfl ?_
  refine o_yes rfl rfl rfl rfl ?_
  refine o_q (q_ldmw ag23 sz23 rfl (by repeat first | exact Mem.upd_self _ _ _ | assumption | refine Mem.upd_ne (by assumption) ?_) rfl rfl) rfl rfl rfl ?_
  refine o_yes rfl rfl rfl rfl ?_
  refine o_call (right_t _ he) goes16 (ac (v_agg rfl) ac_nil) rfl ?_
  refine o_q (q_pick_c (t := true) rfl rfl (v_raw rfl)) rfl rfl rfl ?_
  refine o_q (q_mv (v_raw rfl)) rfl rfl rfl ?_
  refine o_yes rfl rfl rfl rfl ?_
  refine o_q (q_mv (v_raw rfl)) rfl rfl rfl ?_
  refine o_yes rfl rfl rfl rfl ?_
  refine o_q (q_geq rfl rfl) rfl rfl rfl ?_
  refine o_q (q_pick_c (t := true) rfl rfl (v_raw rfl)) rfl rfl rfl ?_
  refine o_q (q_as (v_raw rfl)) rfl rfl rfl ?_
  refine o_nil ?_
  refine s_seq ?_
  refine s_seq ?_
  refine s_region ?_
  refine o_q (q_mv (v_raw rfl)) rfl rfl rfl ?_
  refine o_q (q_not rfl) rfl rfl rfl ?_
  refine o_q (q_mv (v_raw rfl)) rfl rfl rfl ?_
  refine o_no rfl rfl rfl rfl rfl ?_
  refine o_no rfl rfl rfl rfl rfl ?_
  refine o_no rfl rfl rfl rfl rfl ?_
  refine o_no rfl rfl rfl rfl rfl ?_
  refine o_skip rfl rfl rfl rfl ?_
  refine o_skip rfl rfl rfl rfl ?_
  refine o_no rfl rfl rfl rfl rfl ?_
  refine o_q (q_pick_c (t := false) rfl rfl (v_raw rfl)) rfl rfl rfl ?_
  refine o_q (q_mv (v_raw rfl)) rfl rfl rfl ?_
  refine o_yes rfl rfl rfl rfl ?_
  refine o_q (q_mv (v_raw rfl)) rfl rfl rfl ?_
  refine o_yes rfl rfl rfl rfl ?_
  refine o_q (q_not rfl) rfl rfl rfl ?_
  refine o_yes rfl rfl rfl rfl ?_
  refine o_q (q_mv (v_raw rfl)) rfl rfl rfl ?_
  refine o_no rfl rfl rfl rfl (by simp; omega) ?_
  refine o_no rfl rfl rfl rfl (by simp; omega) ?_
  refine o_no rfl rfl rfl rfl (by simp; omega) ?_
  refine o_no rfl rfl rfl rfl (by simp; omega) ?_
  refine o_skip rfl rfl rfl rfl ?_
  refine o_skip rfl rfl rfl rfl ?_
  refine o_no rfl rfl rfl rfl (by simp; omega) ?_
  refine o_yes rfl rfl rfl rfl ?_
  refine o_q (q_pick_c (t := false) rfl (by simp; omega) (v_raw rfl)) rfl rfl rfl ?_
  refine o_q (q_pick_c (t := false) rfl rfl (v_raw rfl)) rfl rfl rfl ?_
  refine o_nil ?_
  refine s_else rfl rfl ?_
  refine s_skip ?_
  refine s_seq ?_
  refine s_seq ?_
  refine s_draw rfl ?_
  refine d_q rfl (q_mv (v_raw rfl)) rfl rfl rfl ?_
  refine d_q rfl (q_mv (v_raw rfl)) rfl rfl rfl ?_
  refine d_yes rfl (q_ldmw ag23 sz23 rfl (by repeat first | exact Mem.upd_self _ _ _ | assumption | refine Mem.upd_ne (by assumption) ?_) rfl rfl) rfl rfl rfl rfl rfl rfl ?_
  refine d_yes rfl (q_ldmw ag23 sz23 rfl (by repeat first | exact Mem.upd_self _ _ _ | assumption | refine Mem.upd_ne (by assumption) ?_) rfl rfl) rfl rfl rfl rfl rfl rfl ?_
  refine d_yes rfl (q_mv (v_raw rfl)) rfl rfl rfl rfl rfl rfl ?_
  refine d_s rfl ?_
  refine o_yes rfl rfl rfl rfl ?_
  refine o_call ((snd29 d s _ hs hd).det) goes29 (ac (v_agg rfl) (ac (v_raw rfl) ac_nil)) rfl ?_
  refine o_nil ⟨(by simp [Mem.upd, *]), ?_⟩
  refine d_yes rfl (q_bin' rfl rfl (binNeM _ _ (onP d s) (onP d s))) rfl rfl rfl rfl rfl rfl ?_
  refine d_yes rfl (q_mv (v_raw rfl)) rfl rfl rfl rfl rfl rfl ?_
  refine d_yes rfl (q_mv (v_raw rfl)) rfl rfl rfl (by simp) rfl rfl ?_
  refine d_yes rfl (q_neq rfl rfl) rfl rfl rfl (by simp) rfl rfl ?_
  refine d_yes rfl (q_pick_c (t := false) rfl (by simp) (v_raw rfl)) rfl rfl rfl rfl rfl rfl ?_
  refine d_q rfl (q_pick_c (t := true) rfl rfl (v_raw rfl)) rfl rfl rfl ?_
  refine d_nil ?_
  refine s_else rfl (by decide) ?_
  refine s_skip ?_
  refine s_seq ?_
  refine s_draw rfl ?_
  refine d_q rfl (q_mv (v_raw rfl)) rfl rfl rfl ?_
  refine d_q rfl (q_mv (v_raw rfl)) rfl rfl rfl ?_
  refine d_yes rfl (q_mv (v_raw rfl)) rfl rfl rfl rfl rfl rfl ?_
  refine d_yes rfl (q_not rfl) rfl rfl rfl rfl rfl rfl ?_
  refine d_yes rfl (q_mv (v_raw rfl)) rfl rfl rfl rfl rfl rfl ?_
  refine d_yes rfl (q_ldmw ag23 sz23 rfl (by repeat first | exact Mem.upd_self _ _ _ | assumption | refine Mem.upd_ne (by assumption) ?_) rfl rfl) rfl rfl rfl (by simp; omega) rfl rfl ?_
  refine d_yes rfl (q_ldmw ag23 sz23 rfl (by repeat first | exact Mem.upd_self _ _ _ | assumption | refine Mem.upd_ne (by assumption) ?_) rfl rfl) rfl rfl rfl (by simp; omega) rfl rfl ?_
  refine d_yes rfl (q_ldmw ag23 sz23 rfl (by repeat first | exact Mem.upd_self _ _ _ | assumption | refine Mem.upd_ne (by assumption) ?_) rfl rfl) rfl rfl rfl (by simp; omega) rfl rfl ?_
  refine d_yes rfl (q_mv (v_raw rfl)) rfl rfl rfl (by simp; omega) rfl rfl ?_
  refine d_s rfl ?_
  refine o_yes rfl rfl rfl (by simp; omega) ?_
  refine o_call (snd30i d e n _ hd he h0 hn) goes30 (ac (v_agg rfl) (ac (v_agg rfl) (ac (v_raw rfl) ac_nil))) rfl ?_
  refine o_nil ⟨(by simp [Mem.upd, *]), ?_⟩
  refine d_yes rfl (q_bin' rfl rfl (binEqM _ _ (joinP d e n.toNat) (joinP d e n.toNat))) rfl rfl rfl (by simp; omega) rfl rfl ?_
  refine d_yes rfl (q_mv (v_raw rfl)) rfl rfl rfl (by simp; omega) rfl rfl ?_
  refine d_yes rfl (q_mv (v_raw rfl)) rfl rfl rfl (by simp) rfl rfl ?_
  refine d_yes rfl (q_eql rfl rfl) rfl rfl rfl (by simp) rfl rfl ?_
  refine d_yes rfl (q_pick_c (t := true) rfl (by simp) (v_raw rfl)) rfl rfl rfl (by simp; omega) rfl rfl ?_
  refine d_yes rfl (q_pick_c (t := false) rfl (by simp; omega) (v_raw rfl)) rfl rfl rfl rfl rfl rfl ?_
  refine d_q rfl (q_pick_c (t := true) rfl rfl (v_raw rfl)) rfl rfl rfl ?_
  refine d_q rfl (q_mv (v_raw rfl)) rfl rfl rfl ?_
  refine d_s rfl ?_
  refine o_yes rfl rfl rfl (by simp) ?_
  refine o_call ((snd31 _).det) goes31 ac_nil rfl ?_
  refine o_nil ⟨(by simp [Mem.upd, *]), ?_⟩
  refine d_s rfl ?_
  refine o_yes rfl rfl rfl (by simp) ?_
  refine o_call ((snd32 _).det) goes32 ac_nil rfl ?_
  refine o_nil ⟨(by simp [Mem.upd, *]), ?_⟩
  refine d_yes rfl (q_bin' rfl rfl (binEqM _ _ ⟨1, 0⟩ ⟨1, 0⟩)) rfl rfl rfl (by simp) rfl rfl ?_
  refine d_q rfl (q_pick_c (t := true) rfl (by simp) (v_raw rfl)) rfl rfl rfl ?_
  refine d_q rfl (q_as (v_raw rfl)) rfl rfl rfl ?_
  refine d_nil ?_
  refine s_ret ?_
  refine s_end ?_
  exact ⟨congrArg (fun b => AVal.raw (.bool b)) (by decide), (by repeat first | exact hle | exact Mem.le_refl M | assumption | exact Mem.none_of_le hle (by assumption) | refine Mem.le_upd ?_ ?_)⟩

def tk10 : Nat → Nat → Option Nat := fun _ _ => none
def pl10 : Nat → List PStep
  | 6 => [.q 0, .q 1, .q 2, .q 3, .q 4, .s 5 [3, 2, 1], .q 6, .q 7, .q 8, .s 9 [8]]
  | 13 => [.q 0, .q 1, .q 2, .q 3, .q 4, .s 5 [3, 2, 1], .q 6, .q 7, .q 8, .s 9 [8]]
  | 14 => [.q 0, .q 1, .q 2, .q 3, .q 4, .s 5 [3, 2, 1], .q 6, .q 7, .q 8, .s 9 [8]]
  | _ => []
theorem cb10 : Try.f10.body.map (codeB Try.prog Try.f10.ntmps tk10 pl10) = some true := by kernel_rfl
theorem goes10 : goesB Try.prog 10 = true := by kernel_rfl
-- carillon/carillonlaw03.GaussJoins params ['[]string', '[]string'] results [['t', 4]] own [] names ['0:a', '1:b', '2:a', '3:b', '5:head', '6:d', '7:i', '8:all', '9:e', '10:steps', '11:i', '12:j', '13:f'] calls [11, 13, 23, 28, 31] paths 7
set_option maxHeartbeats 4000000 in
set_option maxRecDepth 20000 in
theorem snd10 (a b : List ByteArray) (oa ob : Bool) (M : Mem) (ha : ∀ s ∈ a, s.size ≤ 140737488351232) (hb : ∀ s ∈ b, s.size ≤ 140737488351232) (hla : a.length < 2 ^ 47) (hlb : b.length < 2 ^ 47) : SoundCall Try.prog 10 [.sl (a.map str) oa, .sl (b.map str) ob] M fun r M' => r = .raw (.bool true) ∧ M.le M' := by
  refine SoundCall.go tk10 pl10 mixed Try.func10 cb10 rfl (Nat.le_of_ble_eq_true rfl) ?_
  refine s_seq ?_
  refine s_region ?_
  refine o_q (q_as (v_raw rfl)) rfl rfl rfl ?_
  refine o_nil ?_
  refine s_seq ?_
  refine s_region ?_
  refine o_call ((snd11 _).det) goes11 ac_nil rfl ?_
  refine o_q (q_as (v_raw rfl)) rfl rfl rfl ?_
  refine o_nil ?_
  refine s_seq ?_
  refine s_region ?_
  refine o_call ((snd31 _).det) goes31 ac_nil rfl ?_
  refine o_alloc zc23 (fun B1 hB1 => ?_)
  have m1 : M B1 = none := by have h := hB1; repeat (first | exact h | exact Mem.none_of_le hle h | replace h := (Mem.upd_none h).2)
  refine o_storew rfl (by repeat first | exact Mem.upd_self _ _ _ | assumption | refine Mem.upd_ne (by assumption) ?_) (by first | exact e_agg rfl | rfl) rfl sz23 rfl rfl rfl rfl ?_
  refine o_nil ?_
  refine s_seq ?_
  refine s_seq ?_
  refine s_region ?_
  refine o_q (q_as (v_raw rfl)) rfl rfl rfl ?_
  refine o_nil ?_
  refine s_cut (fun S => ∃ T, ∃ M' : Mem, ∃ i : Nat, S = ⟨setT (setT (setT (setT (setT T 0 (.sl (a.map str) oa)) 1 (.sl (b.map str) ob)) 5 (.raw (.bool true))) 6 (ptr B1)) 7 (int i), M'⟩ ∧ M.le M' ∧ M' B1 = some (.cells (encP (onAll one (a.take i))).cells) ∧ i ≤ a.length) ?_ ?_
  · skip
    refine s_block ?_
    refine s_loop (fun m S => ∃ T, ∃ M' : Mem, ∃ i : Nat, S = ⟨setT (setT (setT (setT (setT T 0 (.sl (a.map str) oa)) 1 (.sl (b.map str) ob)) 5 (.raw (.bool true))) 6 (ptr B1)) 7 (int i), M'⟩ ∧ M.le M' ∧ M' B1 = some (.cells (encP (onAll one (a.take i))).cells) ∧ i ≤ a.length ∧ i ≤ 20 ∧ m = a.length - i) a.length ?_ ?_
    · exact ⟨_, _, 0, St.mkT (kp (kp (kp (kp (kp rfl rfl) rfl) rfl) rfl) rfl).symm, (by repeat first | exact hle | exact Mem.le_refl M | assumption | exact Mem.none_of_le hle (by assumption) | refine Mem.le_upd ?_ ?_), (by repeat first | exact Mem.upd_self _ _ _ | assumption | refine Mem.upd_ne (by assumption) ?_), by omega, by omega, rfl⟩
    rintro m S ⟨T, M', i, rfl, hle, c1, hi, hi20, rfl⟩
    have hr1 := onAll_right one_right (a.take i)
    have har : right (onAll one (a.take i)) = true := hr1
    refine s_seq ?_
    refine s_seq ?_
    refine s_region ?_
    refine o_q (q_mv (v_raw rfl)) rfl rfl rfl ?_
    refine o_q (q_mv (v_sl rfl)) rfl rfl rfl ?_
    refine o_q (q_len rfl und50 rfl) rfl rfl rfl ?_
    refine o_q (q_lss rfl rfl) rfl rfl rfl ?_
    refine o_q (q_mv (v_raw rfl)) rfl rfl rfl ?_
    refine o_cases (want := true) (j := 4) rfl rfl (fun h1 => ?_) (fun h1 => ?_)
    · have k1 := h1; try simp only [decide_eq_true_eq, decide_eq_false_iff_not, Bool.not_eq_true', Bool.not_eq_false', Bool.not_true, Bool.not_false, List.length_map, Decidable.not_not] at k1
      refine o_yes rfl rfl rfl h1 ?_
      refine o_q (q_mv (v_raw rfl)) rfl rfl rfl ?_
      refine o_yes rfl rfl rfl h1 ?_
      refine o_q (q_lss rfl rfl) rfl rfl rfl ?_
      refine o_q (q_pick_c (t := true) rfl h1 (v_raw rfl)) rfl rfl rfl ?_
      refine o_nil ?_
      refine s_cond rfl (fun h2 => ?_) (fun h2 => ?_)
      · have k2 := h2; try simp only [decide_eq_true_eq, decide_eq_false_iff_not, Bool.not_eq_true', Bool.not_eq_false', Bool.not_true, Bool.not_false, List.length_map, Decidable.not_not] at k2
        refine s_skip ?_
        refine s_seq ?_
        refine s_block ?_
        refine s_draw rfl ?_
        refine d_q rfl (q_ldmw ag23 sz23 rfl (by repeat first | exact Mem.upd_self _ _ _ | assumption | refine Mem.upd_ne (by assumption) ?_) rfl rfl) rfl rfl rfl ?_
        refine d_q rfl (q_mv (v_sl rfl)) rfl rfl rfl ?_
        refine d_q rfl (q_mv (v_raw rfl)) rfl rfl rfl ?_
        refine d_q rfl (q_idx und50 sz9 rfl rfl (by omega) (gm i (by first | omega | simp)) rfl) rfl rfl rfl ?_
        refine d_q rfl (q_ld ag9 sz9 rfl (gm i (by first | omega | simp)) rfl (v_raw rfl)) rfl rfl rfl ?_
        refine d_s rfl ?_
        refine o_call (snd13r (onAll one (a.take i)) a[i] _ har (by have := ha a[i] (List.getElem_mem _); omega)) goes13 (ac (v_agg rfl) (ac (v_raw rfl) ac_nil)) rfl ?_
        refine o_nil ⟨(by simp [Mem.upd, *]), ?_⟩
        refine d_q rfl (q_mv (v_tup rfl)) rfl rfl rfl ?_
        refine d_q rfl (q_ext rfl rfl (v_agg rfl)) rfl rfl rfl ?_
        refine d_q rfl (q_ext rfl rfl (v_raw rfl)) rfl rfl rfl ?_
        refine d_s rfl ?_
        refine o_storew rfl (by repeat first | exact Mem.upd_self _ _ _ | assumption | refine Mem.upd_ne (by assumption) ?_) (by first | exact e_agg rfl | rfl) rfl sz23 rfl rfl rfl rfl ?_
        refine o_nil ⟨(by simp [Mem.upd, *]), ?_⟩
        refine d_nil ?_
        refine s_blk_normal ?_
        refine s_region ?_
        refine o_q (q_mv (v_raw rfl)) rfl rfl rfl ?_
        refine o_q (q_add rfl rfl (wrap64 (by omega) (by omega))) rfl rfl rfl ?_
        refine o_q (q_as (v_raw rfl)) rfl rfl rfl ?_
        refine o_nil ?_
        refine s_inv ?_
        exact ⟨a.length - (i + 1), by omega, _, _, i + 1, St.mkT (kp (kp (kp (kp (kp rfl rfl) rfl) rfl) rfl) rfl).symm, (by repeat first | exact hle | exact Mem.le_refl M | assumption | exact Mem.none_of_le hle (by assumption) | refine Mem.le_upd ?_ ?_), by rw [onAll_succ one a (by omega)]; exact (by repeat first | exact Mem.upd_self _ _ _ | assumption | refine Mem.upd_ne (by assumption) ?_), by omega, by omega, rfl⟩
      · have k2 := h2; try simp only [decide_eq_true_eq, decide_eq_false_iff_not, Bool.not_eq_true', Bool.not_eq_false', Bool.not_true, Bool.not_false, List.length_map, Decidable.not_not] at k2
        refine s_exit ?_
        refine s_code_exit ?_
        refine s_inv_exit ?_
        refine s_blk_here ?_
        refine s_inv ?_
        exact ⟨_, _, i, St.mkT (kp (kp (kp (kp (kp rfl rfl) rfl) rfl) rfl) rfl).symm, hle, c1, hi⟩
    · have k1 := h1; try simp only [decide_eq_true_eq, decide_eq_false_iff_not, Bool.not_eq_true', Bool.not_eq_false', Bool.not_true, Bool.not_false, List.length_map, Decidable.not_not] at k1
      refine o_no rfl rfl rfl rfl h1 ?_
      refine o_no rfl rfl rfl rfl h1 ?_
      refine o_q (q_pick_c (t := false) rfl h1 (v_raw rfl)) rfl rfl rfl ?_
      refine o_nil ?_
      refine s_else rfl rfl ?_
      refine s_exit ?_
      refine s_code_exit ?_
      refine s_inv_exit ?_
      refine s_blk_here ?_
      refine s_inv ?_
      exact ⟨_, _, i, St.mkT (kp (kp (kp (kp (kp rfl rfl) rfl) rfl) rfl) rfl).symm, hle, c1, hi⟩
  rintro S ⟨T, M', ia, rfl, hle, c1, hia⟩
  have hra : right (onAll one (a.take ia)) = true := onAll_right one_right _
  refine s_seq ?_
  refine s_region ?_
  refine o_q (q_ldmw ag23 sz23 rfl (by repeat first | exact Mem.upd_self _ _ _ | assumption | refine Mem.upd_ne (by assumption) ?_) rfl rfl) rfl rfl rfl ?_
  refine o_alloc zc23 (fun B2 hB2 => ?_)
  have f1_2 : B1 ≠ B2 := Mem.fresh_ne hB2 (by repeat first | exact Mem.upd_self _ _ _ | assumption | refine Mem.upd_ne (by assumption) ?_)
  have g2_1 : B2 ≠ B1 := f1_2.symm
  have m2 : M B2 = none := by have h := hB2; repeat (first | exact h | exact Mem.none_of_le hle h | replace h := (Mem.upd_none h).2)
  refine o_storew rfl (by repeat first | exact Mem.upd_self _ _ _ | assumption | refine Mem.upd_ne (by assumption) ?_) (by first | exact e_agg rfl | rfl) rfl sz23 rfl rfl rfl rfl ?_
  refine o_nil ?_
  refine s_seq ?_
  refine s_region ?_
  refine o_call ((snd31 _).det) goes31 ac_nil rfl ?_
  refine o_alloc zc23 (fun B3 hB3 => ?_)
  have f1_3 : B1 ≠ B3 := Mem.fresh_ne hB3 (by repeat first | exact Mem.upd_self _ _ _ | assumption | refine Mem.upd_ne (by assumption) ?_)
  have g3_1 : B3 ≠ B1 := f1_3.symm
  have f2_3 : B2 ≠ B3 := Mem.fresh_ne hB3 (by repeat first | exact Mem.upd_self _ _ _ | assumption | refine Mem.upd_ne (by assumption) ?_)
  have g3_2 : B3 ≠ B2 := f2_3.symm
  have m3 : M B3 = none := by have h := hB3; repeat (first | exact h | exact Mem.none_of_le hle h | replace h := (Mem.upd_none h).2)
  refine o_storew rfl (by repeat first | exact Mem.upd_self _ _ _ | assumption | refine Mem.upd_ne (by assumption) ?_) (by first | exact e_agg rfl | rfl) rfl sz23 rfl rfl rfl rfl ?_
  refine o_nil ?_
  refine s_seq ?_
  refine s_region ?_
  refine o_q (q_as (v_raw rfl)) rfl rfl rfl ?_
  refine o_nil ?_
  refine s_seq ?_
  refine s_seq ?_
  refine s_region ?_
  refine o_q (q_as (v_raw rfl)) rfl rfl rfl ?_
  refine o_nil ?_
  refine s_cut (fun S => ∃ T, ∃ M' : Mem, ∃ i : Nat, S = ⟨setT (setT (setT (setT (setT (setT (setT (setT T 0 (.sl (a.map str) oa)) 1 (.sl (b.map str) ob)) 5 (.raw (.bool true))) 6 (ptr B1)) 8 (ptr B2)) 9 (ptr B3)) 10 (int (stepsOf (b.take i) : Nat))) 11 (int i), M'⟩ ∧ M.le M' ∧ (M' B1 = some (.cells (encP (onAll one (a.take ia))).cells) ∧ M' B2 = some (.cells (encP (onAll (onAll one (a.take ia)) (b.take i))).cells) ∧ M' B3 = some (.cells (encP (onAll one (b.take i))).cells)) ∧ i ≤ b.length ∧ i ≤ 20) ?_ ?_
  · skip
    refine s_block ?_
    refine s_loop (fun m S => ∃ T, ∃ M' : Mem, ∃ i : Nat, S = ⟨setT (setT (setT (setT (setT (setT (setT (setT T 0 (.sl (a.map str) oa)) 1 (.sl (b.map str) ob)) 5 (.raw (.bool true))) 6 (ptr B1)) 8 (ptr B2)) 9 (ptr B3)) 10 (int (stepsOf (b.take i) : Nat))) 11 (int i), M'⟩ ∧ M.le M' ∧ (M' B1 = some (.cells (encP (onAll one (a.take ia))).cells) ∧ M' B2 = some (.cells (encP (onAll (onAll one (a.take ia)) (b.take i))).cells) ∧ M' B3 = some (.cells (encP (onAll one (b.take i))).cells)) ∧ i ≤ b.length ∧ i ≤ 20 ∧ m = b.length - i) b.length ?_ ?_
    · exact ⟨_, _, 0, St.mkT (kp (kp (kp (kp (kp (kp (kp (kp rfl rfl) rfl) rfl) rfl) rfl) rfl) rfl) rfl).symm, (by repeat first | exact hle | exact Mem.le_refl M | assumption | exact Mem.none_of_le hle (by assumption) | refine Mem.le_upd ?_ ?_), ⟨(by repeat first | exact Mem.upd_self _ _ _ | assumption | refine Mem.upd_ne (by assumption) ?_), (by repeat first | exact Mem.upd_self _ _ _ | assumption | refine Mem.upd_ne (by assumption) ?_), (by repeat first | exact Mem.upd_self _ _ _ | assumption | refine Mem.upd_ne (by assumption) ?_)⟩, by omega, by omega, rfl⟩
    rintro m S ⟨T, M', i, rfl, hle, ⟨c1, c2, c3⟩, hi, hi20, rfl⟩
    have hrb : right (onAll (onAll one (a.take ia)) (b.take i)) = true := onAll_right hra _
    have hre : right (onAll one (b.take i)) = true := onAll_right one_right _
    have hst := strs_le hb i hi20 hi
    refine s_seq ?_
    refine s_seq ?_
    refine s_region ?_
    refine o_q (q_mv (v_raw rfl)) rfl rfl rfl ?_
    refine o_q (q_mv (v_sl rfl)) rfl rfl rfl ?_
    refine o_q (q_len rfl und50 rfl) rfl rfl rfl ?_
    refine o_q (q_lss rfl rfl) rfl rfl rfl ?_
    refine o_q (q_mv (v_raw rfl)) rfl rfl rfl ?_
    refine o_cases (want := true) (j := 4) rfl rfl (fun h3 => ?_) (fun h3 => ?_)
    · have k3 := h3; try simp only [decide_eq_true_eq, decide_eq_false_iff_not, Bool.not_eq_true', Bool.not_eq_false', Bool.not_true, Bool.not_false, List.length_map, Decidable.not_not] at k3
      refine o_yes rfl rfl rfl h3 ?_
      refine o_q (q_mv (v_raw rfl)) rfl rfl rfl ?_
      refine o_yes rfl rfl rfl h3 ?_
      refine o_q (q_lss rfl rfl) rfl rfl rfl ?_
      refine o_q (q_pick_c (t := true) rfl h3 (v_raw rfl)) rfl rfl rfl ?_
      refine o_nil ?_
      refine s_cond rfl (fun h4 => ?_) (fun h4 => ?_)
      · have k4 := h4; try simp only [decide_eq_true_eq, decide_eq_false_iff_not, Bool.not_eq_true', Bool.not_eq_false', Bool.not_true, Bool.not_false, List.length_map, Decidable.not_not] at k4
        have hbi := hb b[i] (List.getElem_mem _)
        refine s_skip ?_
        refine s_seq ?_
        refine s_block ?_
        refine s_seq ?_
        refine s_draw rfl ?_
        refine d_q rfl (q_ldmw ag23 sz23 rfl (by repeat first | exact Mem.upd_self _ _ _ | assumption | refine Mem.upd_ne (by assumption) ?_) rfl rfl) rfl rfl rfl ?_
        refine d_q rfl (q_mv (v_sl rfl)) rfl rfl rfl ?_
        refine d_q rfl (q_mv (v_raw rfl)) rfl rfl rfl ?_
        refine d_q rfl (q_idx und50 sz9 rfl rfl (by omega) (gm i (by first | omega | simp)) rfl) rfl rfl rfl ?_
        refine d_q rfl (q_ld ag9 sz9 rfl (gm i (by first | omega | simp)) rfl (v_raw rfl)) rfl rfl rfl ?_
        refine d_s rfl ?_
        refine o_call (snd13r (onAll (onAll one (a.take ia)) (b.take i)) b[i] _ hrb (by omega)) goes13 (ac (v_agg rfl) (ac (v_raw rfl) ac_nil)) rfl ?_
        refine o_nil ⟨(by simp [Mem.upd, *]), ?_⟩
        refine d_q rfl (q_mv (v_tup rfl)) rfl rfl rfl ?_
        refine d_q rfl (q_ext rfl rfl (v_agg rfl)) rfl rfl rfl ?_
        refine d_q rfl (q_ext rfl rfl (v_raw rfl)) rfl rfl rfl ?_
        refine d_s rfl ?_
        refine o_storew rfl (by repeat first | exact Mem.upd_self _ _ _ | assumption | refine Mem.upd_ne (by assumption) ?_) (by first | exact e_agg rfl | rfl) rfl sz23 rfl rfl rfl rfl ?_
        refine o_nil ⟨(by simp [Mem.upd, *]), ?_⟩
        refine d_nil ?_
        refine s_seq ?_
        refine s_draw rfl ?_
        refine d_q rfl (q_ldmw ag23 sz23 rfl (by repeat first | exact Mem.upd_self _ _ _ | assumption | refine Mem.upd_ne (by assumption) ?_) rfl rfl) rfl rfl rfl ?_
        refine d_q rfl (q_mv (v_sl rfl)) rfl rfl rfl ?_
        refine d_q rfl (q_mv (v_raw rfl)) rfl rfl rfl ?_
        refine d_q rfl (q_idx und50 sz9 rfl rfl (by omega) (gm i (by first | omega | simp)) rfl) rfl rfl rfl ?_
        refine d_q rfl (q_ld ag9 sz9 rfl (gm i (by first | omega | simp)) rfl (v_raw rfl)) rfl rfl rfl ?_
        refine d_s rfl ?_
        refine o_call (snd13r (onAll one (b.take i)) b[i] _ hre (by omega)) goes13 (ac (v_agg rfl) (ac (v_raw rfl) ac_nil)) rfl ?_
        refine o_nil ⟨(by simp [Mem.upd, *]), ?_⟩
        refine d_q rfl (q_mv (v_tup rfl)) rfl rfl rfl ?_
        refine d_q rfl (q_ext rfl rfl (v_agg rfl)) rfl rfl rfl ?_
        refine d_q rfl (q_ext rfl rfl (v_raw rfl)) rfl rfl rfl ?_
        refine d_s rfl ?_
        refine o_storew rfl (by repeat first | exact Mem.upd_self _ _ _ | assumption | refine Mem.upd_ne (by assumption) ?_) (by first | exact e_agg rfl | rfl) rfl sz23 rfl rfl rfl rfl ?_
        refine o_nil ⟨(by simp [Mem.upd, *]), ?_⟩
        refine d_nil ?_
        refine s_region ?_
        refine o_q (q_mv (v_raw rfl)) rfl rfl rfl ?_
        refine o_q (q_add rfl rfl (wrap64 (by omega) (by omega))) rfl rfl rfl ?_
        refine o_q (q_mv (v_sl rfl)) rfl rfl rfl ?_
        refine o_q (q_mv (v_raw rfl)) rfl rfl rfl ?_
        refine o_q (q_idx und50 sz9 rfl rfl (by omega) (gm i (by first | omega | simp)) rfl) rfl rfl rfl ?_
        refine o_q (q_ld ag9 sz9 rfl (gm i (by first | omega | simp)) rfl (v_raw rfl)) rfl rfl rfl ?_
        refine o_q (q_lens rfl und9 rfl) rfl rfl rfl ?_
        refine o_q (q_add rfl rfl (wrap64 (by omega) (by omega))) rfl rfl rfl ?_
        refine o_q (q_as (v_raw rfl)) rfl rfl rfl ?_
        refine o_nil ?_
        refine s_blk_normal ?_
        refine s_region ?_
        refine o_q (q_mv (v_raw rfl)) rfl rfl rfl ?_
        refine o_q (q_add rfl rfl (wrap64 (by omega) (by omega))) rfl rfl rfl ?_
        refine o_q (q_as (v_raw rfl)) rfl rfl rfl ?_
        refine o_nil ?_
        refine s_inv ?_
        exact ⟨b.length - (i + 1), by omega, _, _, i + 1, St.mkT (kp (kp (kp (kp (kp (kp (kp (kp rfl rfl) rfl) rfl) rfl) rfl) rfl) (show _ = int ((stepsOf (b.take (i + 1)) : Nat) : Int) by rw [stepsOf_succ b (by omega)]; exact congrArg int (by push_cast; omega))) rfl).symm, (by repeat first | exact hle | exact Mem.le_refl M | assumption | exact Mem.none_of_le hle (by assumption) | refine Mem.le_upd ?_ ?_), ⟨(by repeat first | exact Mem.upd_self _ _ _ | assumption | refine Mem.upd_ne (by assumption) ?_), by rw [onAll_succ _ b (by omega)]; exact (by repeat first | exact Mem.upd_self _ _ _ | assumption | refine Mem.upd_ne (by assumption) ?_), by rw [onAll_succ _ b (by omega)]; exact (by repeat first | exact Mem.upd_self _ _ _ | assumption | refine Mem.upd_ne (by assumption) ?_)⟩, by omega, by omega, rfl⟩
      · have k4 := h4; try simp only [decide_eq_true_eq, decide_eq_false_iff_not, Bool.not_eq_true', Bool.not_eq_false', Bool.not_true, Bool.not_false, List.length_map, Decidable.not_not] at k4
        refine s_exit ?_
        refine s_code_exit ?_
        refine s_inv_exit ?_
        refine s_blk_here ?_
        refine s_inv ?_
        exact ⟨_, _, i, St.mkT (kp (kp (kp (kp (kp (kp (kp (kp rfl rfl) rfl) rfl) rfl) rfl) rfl) rfl) rfl).symm, hle, ⟨c1, c2, c3⟩, hi, hi20⟩
    · have k3 := h3; try simp only [decide_eq_true_eq, decide_eq_false_iff_not, Bool.not_eq_true', Bool.not_eq_false', Bool.not_true, Bool.not_false, List.length_map, Decidable.not_not] at k3
      refine o_no rfl rfl rfl rfl h3 ?_
      refine o_no rfl rfl rfl rfl h3 ?_
      refine o_q (q_pick_c (t := false) rfl h3 (v_raw rfl)) rfl rfl rfl ?_
      refine o_nil ?_
      refine s_else rfl rfl ?_
      refine s_exit ?_
      refine s_code_exit ?_
      refine s_inv_exit ?_
      refine s_blk_here ?_
      refine s_inv ?_
      exact ⟨_, _, i, St.mkT (kp (kp (kp (kp (kp (kp (kp (kp rfl rfl) rfl) rfl) rfl) rfl) rfl) rfl) rfl).symm, hle, ⟨c1, c2, c3⟩, hi, hi20⟩
  rintro S ⟨T, M', i, rfl, hle, ⟨c1, c2, c3⟩, hi, hi20⟩
  have hrb : right (onAll (onAll one (a.take ia)) (b.take i)) = true := onAll_right hra _
  have hre : right (onAll one (b.take i)) = true := onAll_right one_right _
  have hst := strs_le hb i hi20 hi
  have hj : joinP (onAll one (a.take ia)) (onAll one (b.take i)) ((stepsOf (b.take i) : Nat) : Int).toNat = (onAll (onAll one (a.take ia)) (b.take i)) := by
    rw [Int.toNat_natCast]
    exact join_all hra (b.take i) (by omega)
  refine s_seq ?_
  refine s_region ?_
  refine o_q (q_ldmw ag23 sz23 rfl (by repeat first | exact Mem.upd_self _ _ _ | assumption | refine Mem.upd_ne (by assumption) ?_) rfl rfl) rfl rfl rfl ?_
  refine o_q (q_ldmw ag23 sz23 rfl (by repeat first | exact Mem.upd_self _ _ _ | assumption | refine Mem.upd_ne (by assumption) ?_) rfl rfl) rfl rfl rfl ?_
  refine o_q (q_mv (v_raw rfl)) rfl rfl rfl ?_
  refine o_call (snd28r (onAll one (a.take ia)) (onAll one (b.take i)) ((stepsOf (b.take i) : Nat) : Int) _ (by omega) hra hre (by omega)) goes28 (ac (v_agg rfl) (ac (v_agg rfl) (ac (v_raw rfl) ac_nil))) rfl ?_
  refine o_q (q_mv (v_tup rfl)) rfl rfl rfl ?_
  refine o_q (q_ext rfl rfl (v_agg rfl)) rfl rfl rfl ?_
  refine o_q (q_ext rfl rfl (v_raw rfl)) rfl rfl rfl ?_
  refine o_alloc zc23 (fun B4 hB4 => ?_)
  have f1_4 : B1 ≠ B4 := Mem.fresh_ne hB4 (by repeat first | exact Mem.upd_self _ _ _ | assumption | refine Mem.upd_ne (by assumption) ?_)
  have g4_1 : B4 ≠ B1 := f1_4.symm
  have f2_4 : B2 ≠ B4 := Mem.fresh_ne hB4 (by repeat first | exact Mem.upd_self _ _ _ | assumption | refine Mem.upd_ne (by assumption) ?_)
  have g4_2 : B4 ≠ B2 := f2_4.symm
  have f3_4 : B3 ≠ B4 := Mem.fresh_ne hB4 (by repeat first | exact Mem.upd_self _ _ _ | assumption | refine Mem.upd_ne (by assumption) ?_)
  have g4_3 : B4 ≠ B3 := f3_4.symm
  have m4 : M B4 = none := by have h := hB4; repeat (first | exact h | exact Mem.none_of_le hle h | replace h := (Mem.upd_none h).2)
  refine o_storew rfl (by repeat first | exact Mem.upd_self _ _ _ | assumption | refine Mem.upd_ne (by assumption) ?_) (by first | exact e_agg rfl | rfl) rfl sz23 rfl rfl rfl rfl ?_
  refine o_q (q_as (v_raw rfl)) rfl rfl rfl ?_
  refine o_nil ?_
  refine s_seq ?_
  refine s_region ?_
  refine o_q (q_mv (v_raw rfl)) rfl rfl rfl ?_
  refine o_q (q_mv (v_raw rfl)) rfl rfl rfl ?_
  refine o_yes rfl rfl rfl rfl ?_
  refine o_q (q_mv (v_raw rfl)) rfl rfl rfl ?_
  refine o_yes rfl rfl rfl rfl ?_
  refine o_q (q_eql rfl rfl) rfl rfl rfl ?_
  refine o_q (q_pick_c (t := true) rfl rfl (v_raw rfl)) rfl rfl rfl ?_
  refine o_q (q_mv (v_raw rfl)) rfl rfl rfl ?_
  refine o_yes rfl rfl rfl rfl ?_
  refine o_q (q_ldmw ag23 sz23 rfl (by repeat first | exact Mem.upd_self _ _ _ | assumption | refine Mem.upd_ne (by assumption) ?_) rfl rfl) rfl rfl rfl ?_
  refine o_yes rfl rfl rfl rfl ?_
  refine o_q (q_ldmw ag23 sz23 rfl (by repeat first | exact Mem.upd_self _ _ _ | assumption | refine Mem.upd_ne (by assumption) ?_) rfl rfl) rfl rfl rfl ?_
  refine o_yes rfl rfl rfl rfl ?_
  refine o_q (q_bin' rfl rfl (binEqM _ _ (joinP (onAll one (a.take ia)) (onAll one (b.take i)) ((stepsOf (b.take i) : Nat) : Int).toNat) (onAll (onAll one (a.take ia)) (b.take i)))) rfl rfl rfl ?_
  refine o_q (q_pick_c (t := true) rfl rfl (v_raw rfl)) rfl rfl rfl ?_
  refine o_q (q_mv (v_raw rfl)) rfl rfl rfl ?_
  refine o_yes rfl rfl rfl (decide_eq_true hj) ?_
  refine o_q (q_ldmw ag23 sz23 rfl (by repeat first | exact Mem.upd_self _ _ _ | assumption | refine Mem.upd_ne (by assumption) ?_) rfl rfl) rfl rfl rfl ?_
  refine o_yes rfl rfl rfl (decide_eq_true hj) ?_
  refine o_call (right_t' _ hrb) goes23 (ac (v_agg rfl) ac_nil) rfl ?_
  refine o_q (q_pick_c (t := true) rfl (decide_eq_true hj) (v_raw rfl)) rfl rfl rfl ?_
  refine o_q (q_as (v_raw rfl)) rfl rfl rfl ?_
  refine o_nil ?_
  refine s_ret ?_
  refine s_end ?_
  exact ⟨rfl, (by repeat first | exact hle | exact Mem.le_refl M | assumption | exact Mem.none_of_le hle (by assumption) | refine Mem.le_upd ?_ ?_)⟩

def tk3 : Nat → Nat → Option Nat := fun _ _ => none
def pl3 : Nat → List PStep
  | 8 => [.q 0, .q 1, .q 2, .q 3, .q 4, .q 5, .q 6, .q 7, .q 8, .q 9, .q 10, .q 11, .q 12, .q 13, .q 14, .s 15 []]
  | _ => []
theorem cb3 : Try.f3.body.map (codeB Try.prog Try.f3.ntmps tk3 pl3) = some true := by kernel_rfl
theorem goes3 : goesB Try.prog 3 = true := by kernel_rfl
-- carillon/carillonlaw03.GaussTells params ['api.Pair', 'string', 'int', 'uint8'] results [['t', 8]] own [] names ['0:d', '1:s', '2:at', '3:by', '4:d', '5:s', '6:at', '7:by', '9:head', '10:b', '11:x', '12:e', '13:y', '14:f'] calls [11] paths 2
set_option maxHeartbeats 4000000 in
set_option maxRecDepth 20000 in
theorem snd3a (x : Pr) (s : ByteArray) (at0 : Int) (u : UInt8) (M : Mem) (hs : s.size < 2 ^ 62) (hat : -2 ^ 63 ≤ at0 ∧ at0 < 2 ^ 63) (he : s.size = 0 ∨ u = 0) : SoundCall Try.prog 3 [encP x, .raw (.string s), int at0, .raw (.int .u8 u.toNat)] M fun r M' => r = .raw (.bool true) ∧ M.le M' := by
  refine SoundCall.go tk3 pl3 mixed Try.func3 cb3 rfl (Nat.le_of_ble_eq_true rfl) ?_
  refine s_seq ?_
  refine s_region ?_
  refine o_box (by first | exact e_raw rfl | exact e_agg rfl | exact e_sl rfl) rfl rfl (fun B1 hB1 => ?_)
  have m1 : M B1 = none := by have h := hB1; repeat (first | exact h | exact Mem.none_of_le hle h | replace h := (Mem.upd_none h).2)
  refine o_q (q_as (v_raw rfl)) rfl rfl rfl ?_
  refine o_nil ?_
  refine s_seq ?_
  refine s_region ?_
  refine o_call ((snd11 _).det) goes11 ac_nil rfl ?_
  refine o_q (q_as (v_raw rfl)) rfl rfl rfl ?_
  refine o_nil ?_
  refine s_seq ?_
  refine s_seq ?_
  refine s_region ?_
  refine o_q (q_mv (v_raw rfl)) rfl rfl rfl ?_
  refine o_q (q_lens rfl und9 rfl) rfl rfl rfl ?_
  refine o_q (q_eql rfl rfl) rfl rfl rfl ?_
  refine o_q (q_mv (v_raw rfl)) rfl rfl rfl ?_
  refine o_cases (want := false) (j := 3) rfl rfl (fun h1 => ?_) (fun h1 => ?_)
  · have k1 := h1; try simp only [decide_eq_true_eq, decide_eq_false_iff_not, Bool.not_eq_true', Bool.not_eq_false', Bool.not_true, Bool.not_false, List.length_map, Decidable.not_not] at k1
    refine o_yes rfl rfl rfl h1 ?_
    refine o_q (q_mv (v_raw rfl)) rfl rfl rfl ?_
    refine o_yes rfl rfl rfl h1 ?_
    refine o_q (q_eql rfl rfl) rfl rfl rfl ?_
    refine o_q (q_pick_c (t := false) rfl h1 (v_raw rfl)) rfl rfl rfl ?_
    refine o_nil ?_
    refine s_cond rfl (fun h2 => ?_) (fun h2 => ?_)
    · have k2 := h2; try simp only [decide_eq_true_eq, decide_eq_false_iff_not, Bool.not_eq_true', Bool.not_eq_false', Bool.not_true, Bool.not_false, List.length_map, Decidable.not_not] at k2
      refine s_seq ?_
      refine s_region ?_
      refine o_q (q_mv (v_raw rfl)) rfl rfl rfl ?_
      refine o_q (q_as (v_raw rfl)) rfl rfl rfl ?_
      refine o_nil ?_
      refine s_ret ?_
      refine s_code_ret ?_
      refine s_end ?_
      exact ⟨rfl, (by repeat first | exact hle | exact Mem.le_refl M | assumption | exact Mem.none_of_le hle (by assumption) | refine Mem.le_upd ?_ ?_)⟩
    · have k2 := h2; try simp only [decide_eq_true_eq, decide_eq_false_iff_not, Bool.not_eq_true', Bool.not_eq_false', Bool.not_true, Bool.not_false, List.length_map, Decidable.not_not] at k2
      exfalso
      rcases he with he | he
      · simp_all
      · subst he; simp_all
  · have k1 := h1; try simp only [decide_eq_true_eq, decide_eq_false_iff_not, Bool.not_eq_true', Bool.not_eq_false', Bool.not_true, Bool.not_false, List.length_map, Decidable.not_not] at k1
    refine o_no rfl rfl rfl rfl h1 ?_
    refine o_no rfl rfl rfl rfl h1 ?_
    refine o_q (q_pick_c (t := true) rfl h1 (v_raw rfl)) rfl rfl rfl ?_
    refine o_nil ?_
    refine s_then rfl rfl ?_
    refine s_seq ?_
    refine s_region ?_
    refine o_q (q_mv (v_raw rfl)) rfl rfl rfl ?_
    refine o_q (q_as (v_raw rfl)) rfl rfl rfl ?_
    refine o_nil ?_
    refine s_ret ?_
    refine s_code_ret ?_
    refine s_end ?_
    exact ⟨rfl, (by repeat first | exact hle | exact Mem.le_refl M | assumption | exact Mem.none_of_le hle (by assumption) | refine Mem.le_upd ?_ ?_)⟩

-- carillon/carillonlaw03.GaussTells params ['api.Pair', 'string', 'int', 'uint8'] results [['t', 8]] own [] names ['0:d', '1:s', '2:at', '3:by', '4:d', '5:s', '6:at', '7:by', '9:head', '10:b', '11:x', '12:e', '13:y', '14:f'] calls [11, 12, 13] paths 3
set_option maxHeartbeats 4000000 in
set_option maxRecDepth 20000 in
theorem snd3b (x : Pr) (s : ByteArray) (at0 : Int) (u : UInt8) (M : Mem) (hs : s.size < 2 ^ 62) (hat : -2 ^ 63 ≤ at0 ∧ at0 < 2 ^ 63) (he : s.size ≠ 0) (hu : u ≠ 0) : SoundCall Try.prog 3 [encP x, .raw (.string s), int at0, .raw (.int .u8 u.toNat)] M fun r M' => r = .raw (.bool true) ∧ M.le M' := by
  have hx := md_right x
  have hu' : u.toNat ≠ 0 := fun h => hu (UInt8.toNat_inj.1 h)
  have hsz0 : (s.size : Int) ≠ 0 := by omega
  refine SoundCall.go tk3 pl3 mixed Try.func3 cb3 rfl (Nat.le_of_ble_eq_true rfl) ?_
  refine s_seq ?_
  refine s_region ?_
  refine o_box (by first | exact e_raw rfl | exact e_agg rfl | exact e_sl rfl) rfl rfl (fun B1 hB1 => ?_)
  have m1 : M B1 = none := by have h := hB1; repeat (first | exact h | exact Mem.none_of_le hle h | replace h := (Mem.upd_none h).2)
  refine o_q (q_as (v_raw rfl)) rfl rfl rfl ?_
  refine o_nil ?_
  refine s_seq ?_
  refine s_region ?_
  refine o_call ((snd11 _).det) goes11 ac_nil rfl ?_
  refine o_q (q_as (v_raw rfl)) rfl rfl rfl ?_
  refine o_nil ?_
  refine s_seq ?_
  refine s_seq ?_
  refine s_region ?_
  refine o_q (q_mv (v_raw rfl)) rfl rfl rfl ?_
  refine o_q (q_lens rfl und9 rfl) rfl rfl rfl ?_
  refine o_q (q_eql rfl rfl) rfl rfl rfl ?_
  refine o_q (q_mv (v_raw rfl)) rfl rfl rfl ?_
  refine o_yes rfl rfl rfl (decide_eq_false hsz0) ?_
  refine o_q (q_mv (v_raw rfl)) rfl rfl rfl ?_
  refine o_yes rfl rfl rfl (decide_eq_false hsz0) ?_
  refine o_q (q_eql rfl rfl) rfl rfl rfl ?_
  refine o_q (q_pick_c (t := false) rfl (decide_eq_false hsz0) (v_raw rfl)) rfl rfl rfl ?_
  refine o_nil ?_
  refine s_else rfl (decide_eq_false (by omega)) ?_
  refine s_skip ?_
  refine s_seq ?_
  refine s_region ?_
  refine o_q (q_ldmw ag23 sz23 rfl (by repeat first | exact Mem.upd_self _ _ _ | assumption | refine Mem.upd_ne (by assumption) ?_) rfl rfl) rfl rfl rfl ?_
  refine o_call ((snd12 x _).det) goes12 (ac (v_agg rfl) ac_nil) rfl ?_
  refine o_storew rfl (by repeat first | exact Mem.upd_self _ _ _ | assumption | refine Mem.upd_ne (by assumption) ?_) (by first | exact e_agg rfl | rfl) rfl sz23 rfl rfl rfl rfl ?_
  refine o_nil ?_
  refine s_seq ?_
  refine s_seq ?_
  refine s_region ?_
  refine o_q (q_mv (v_raw rfl)) rfl rfl rfl ?_
  refine o_q (q_lss rfl rfl) rfl rfl rfl ?_
  refine o_nil ?_
  refine s_cut (fun S => ∃ T, ∃ M' : Mem, ∃ p : Int, S = ⟨setT (setT (setT (setT (setT T 1 (.raw (.string s))) 2 (int p)) 3 (.raw (.int .u8 u.toNat))) 4 (ptr B1)) 9 (.raw (.bool true)), M'⟩ ∧ M.le M' ∧ M' B1 = some (.cells (encP (md x)).cells) ∧ 0 ≤ p ∧ p < 2 ^ 63) ?_ ?_
  · skip
    refine s_cond rfl (fun h1 => ?_) (fun h1 => ?_)
    · have k1 := h1; try simp only [decide_eq_true_eq, decide_eq_false_iff_not, Bool.not_eq_true', Bool.not_eq_false', Bool.not_true, Bool.not_false, List.length_map, Decidable.not_not] at k1
      refine s_region ?_
      refine o_q (q_mv (v_raw rfl)) rfl rfl rfl ?_
      refine o_q (q_add rfl rfl (wrap64 (by omega) (by omega))) rfl rfl rfl ?_
      refine o_q (q_neg rfl (wrap64 (by omega) (by omega))) rfl rfl rfl ?_
      refine o_q (q_as (v_raw rfl)) rfl rfl rfl ?_
      refine o_nil ?_
      refine s_inv ?_
      exact ⟨_, _, -(at0 + 1), St.mkT (kp (kp (kp (kp (kp rfl rfl) rfl) rfl) rfl) rfl).symm, (by repeat first | exact hle | exact Mem.le_refl M | assumption | exact Mem.none_of_le hle (by assumption) | refine Mem.le_upd ?_ ?_), (by repeat first | exact Mem.upd_self _ _ _ | assumption | refine Mem.upd_ne (by assumption) ?_), by omega, by omega⟩
    · have k1 := h1; try simp only [decide_eq_true_eq, decide_eq_false_iff_not, Bool.not_eq_true', Bool.not_eq_false', Bool.not_true, Bool.not_false, List.length_map, Decidable.not_not] at k1
      refine s_skip ?_
      refine s_inv ?_
      exact ⟨_, _, at0, St.mkT (kp (kp (kp (kp (kp rfl rfl) rfl) rfl) rfl) rfl).symm, (by repeat first | exact hle | exact Mem.le_refl M | assumption | exact Mem.none_of_le hle (by assumption) | refine Mem.le_upd ?_ ?_), (by repeat first | exact Mem.upd_self _ _ _ | assumption | refine Mem.upd_ne (by assumption) ?_), by omega, by omega⟩
  rintro S ⟨T, M', p, rfl, hle, c1, p0, p1⟩
  have t0 : 0 ≤ p.tmod s.size := Int.tmod_nonneg _ p0
  have t1 : p.tmod s.size < s.size := Int.tmod_lt_of_pos _ (by omega)
  have hj : (p.tmod s.size).toNat < s.size := by omega
  have hne : onP (md x) s ≠ onP (md x) (⟨s.data.set (p.tmod s.size).toNat ((s.data[(p.tmod s.size).toNat]'hj) ^^^ u) hj⟩ : ByteArray) := on_tells (md x) s _ hj _ (fun h => hu (xor_zero h))
  have hsz1 : (⟨s.data.set (p.tmod s.size).toNat ((s.data[(p.tmod s.size).toNat]'hj) ^^^ u) hj⟩ : ByteArray).size = s.size := by show (s.data.set _ _ _).size = _; simp
  refine s_seq ?_
  refine s_region ?_
  refine o_q (q_mv (v_raw rfl)) rfl rfl rfl ?_
  refine o_s2b s2b9_26 rfl (fun B2 C2 hB2 hC2 => ?_)
  have f1_2 : B1 ≠ B2 := Mem.fresh_ne hB2 (by repeat first | exact Mem.upd_self _ _ _ | assumption | refine Mem.upd_ne (by assumption) ?_)
  have g2_1 : B2 ≠ B1 := f1_2.symm
  have m2 : M B2 = none := by have h := hB2; repeat (first | exact h | exact Mem.none_of_le hle h | replace h := (Mem.upd_none h).2)
  refine o_q (q_as (v_raw rfl)) rfl rfl rfl ?_
  refine o_nil ?_
  refine s_seq ?_
  refine s_draw rfl ?_
  refine d_q rfl (q_mv (v_raw rfl)) rfl rfl rfl ?_
  refine d_q rfl (q_mv (v_raw rfl)) rfl rfl rfl ?_
  refine d_q rfl (q_mv (v_raw rfl)) rfl rfl rfl ?_
  refine d_q rfl (q_lens rfl und9 rfl) rfl rfl rfl ?_
  refine d_q rfl (q_rem rfl rfl (by omega)) rfl rfl rfl ?_
  refine d_q rfl (q_mv (v_raw rfl)) rfl rfl rfl ?_
  refine d_q rfl (q_mv (v_raw rfl)) rfl rfl rfl ?_
  refine d_q rfl (q_mv (v_raw rfl)) rfl rfl rfl ?_
  refine d_q rfl (q_lens rfl und9 rfl) rfl rfl rfl ?_
  refine d_q rfl (q_rem rfl rfl (by omega)) rfl rfl rfl ?_
  refine d_q rfl (q_idxr und26 sz5 rfl rfl (by omega) (by omega)) rfl rfl rfl ?_
  refine d_q rfl (q_ldm ag5 sz5 rfl (by repeat first | exact Mem.upd_self _ _ _ | assumption | refine Mem.upd_ne (by assumption) ?_) (by simpa [piece] using u8l_get (s := s) (j := (p.tmod s.size).toNat) hj) (v_raw rfl)) rfl rfl rfl ?_
  refine d_q rfl (q_mv (v_raw rfl)) rfl rfl rfl ?_
  refine d_q rfl (q_xor8 rfl rfl) rfl rfl rfl ?_
  refine d_q rfl (q_idxr und26 sz5 rfl rfl (by omega) (by omega)) rfl rfl rfl ?_
  refine d_s rfl ?_
  refine o_store rfl (by repeat first | exact Mem.upd_self _ _ _ | assumption | refine Mem.upd_ne (by assumption) ?_) (by first | exact e_raw rfl | exact e_agg rfl | exact e_sl rfl | rfl) rfl sz5 rfl (by rw [List.length_append, u8l_length]; omega) rfl (show _ = u8l (⟨s.data.set (p.tmod s.size).toNat ((s.data[(p.tmod s.size).toNat]'hj) ^^^ u) hj⟩ : ByteArray) ++ List.replicate (C2 - s.size) (.raw (.int .u8 0)) from u8l_set1 hj) ?_
  refine o_nil ⟨(by simp [Mem.upd, *]), ?_⟩
  refine d_nil ?_
  refine s_seq ?_
  refine s_region ?_
  refine o_q (q_ldmw ag23 sz23 rfl (by repeat first | exact Mem.upd_self _ _ _ | assumption | refine Mem.upd_ne (by assumption) ?_) rfl rfl) rfl rfl rfl ?_
  refine o_q (q_mv (v_raw rfl)) rfl rfl rfl ?_
  refine o_call (snd13r (md x) s _ hx hs) goes13 (ac (v_agg rfl) (ac (v_raw rfl) ac_nil)) rfl ?_
  refine o_q (q_mv (v_tup rfl)) rfl rfl rfl ?_
  refine o_q (q_ext rfl rfl (v_agg rfl)) rfl rfl rfl ?_
  refine o_q (q_ext rfl rfl (v_raw rfl)) rfl rfl rfl ?_
  refine o_alloc zc23 (fun B3 hB3 => ?_)
  have f1_3 : B1 ≠ B3 := Mem.fresh_ne hB3 (by repeat first | exact Mem.upd_self _ _ _ | assumption | refine Mem.upd_ne (by assumption) ?_)
  have g3_1 : B3 ≠ B1 := f1_3.symm
  have f2_3 : B2 ≠ B3 := Mem.fresh_ne hB3 (by repeat first | exact Mem.upd_self _ _ _ | assumption | refine Mem.upd_ne (by assumption) ?_)
  have g3_2 : B3 ≠ B2 := f2_3.symm
  have m3 : M B3 = none := by have h := hB3; repeat (first | exact h | exact Mem.none_of_le hle h | replace h := (Mem.upd_none h).2)
  refine o_storew rfl (by repeat first | exact Mem.upd_self _ _ _ | assumption | refine Mem.upd_ne (by assumption) ?_) (by first | exact e_agg rfl | rfl) rfl sz23 rfl rfl rfl rfl ?_
  refine o_q (q_as (v_raw rfl)) rfl rfl rfl ?_
  refine o_nil ?_
  refine s_seq ?_
  refine s_region ?_
  refine o_q (q_ldmw ag23 sz23 rfl (by repeat first | exact Mem.upd_self _ _ _ | assumption | refine Mem.upd_ne (by assumption) ?_) rfl rfl) rfl rfl rfl ?_
  refine o_q (q_mv (v_raw rfl)) rfl rfl rfl ?_
  refine o_q (q_b2s b2s26_9 rfl (by repeat first | exact Mem.upd_self _ _ _ | assumption | refine Mem.upd_ne (by assumption) ?_) (by rw [List.length_append, u8l_length, hsz1]; omega) (by rw [List.drop_zero, List.take_append_of_le_length (by rw [u8l_length, hsz1]; exact Nat.le_refl _), List.take_of_length_le (by rw [u8l_length, hsz1]; exact Nat.le_refl _)]; exact aStr_u8l (⟨s.data.set (p.tmod s.size).toNat ((s.data[(p.tmod s.size).toNat]'hj) ^^^ u) hj⟩ : ByteArray)) rfl) rfl rfl rfl ?_
  refine o_call (snd13r (md x) (⟨s.data.set (p.tmod s.size).toNat ((s.data[(p.tmod s.size).toNat]'hj) ^^^ u) hj⟩ : ByteArray) _ hx (by rw [hsz1]; exact hs)) goes13 (ac (v_agg rfl) (ac (v_raw rfl) ac_nil)) rfl ?_
  refine o_q (q_mv (v_tup rfl)) rfl rfl rfl ?_
  refine o_q (q_ext rfl rfl (v_agg rfl)) rfl rfl rfl ?_
  refine o_q (q_ext rfl rfl (v_raw rfl)) rfl rfl rfl ?_
  refine o_alloc zc23 (fun B4 hB4 => ?_)
  have f1_4 : B1 ≠ B4 := Mem.fresh_ne hB4 (by repeat first | exact Mem.upd_self _ _ _ | assumption | refine Mem.upd_ne (by assumption) ?_)
  have g4_1 : B4 ≠ B1 := f1_4.symm
  have f2_4 : B2 ≠ B4 := Mem.fresh_ne hB4 (by repeat first | exact Mem.upd_self _ _ _ | assumption | refine Mem.upd_ne (by assumption) ?_)
  have g4_2 : B4 ≠ B2 := f2_4.symm
  have f3_4 : B3 ≠ B4 := Mem.fresh_ne hB4 (by repeat first | exact Mem.upd_self _ _ _ | assumption | refine Mem.upd_ne (by assumption) ?_)
  have g4_3 : B4 ≠ B3 := f3_4.symm
  have m4 : M B4 = none := by have h := hB4; repeat (first | exact h | exact Mem.none_of_le hle h | replace h := (Mem.upd_none h).2)
  refine o_storew rfl (by repeat first | exact Mem.upd_self _ _ _ | assumption | refine Mem.upd_ne (by assumption) ?_) (by first | exact e_agg rfl | rfl) rfl sz23 rfl rfl rfl rfl ?_
  refine o_q (q_as (v_raw rfl)) rfl rfl rfl ?_
  refine o_nil ?_
  refine s_seq ?_
  refine s_region ?_
  refine o_q (q_mv (v_raw rfl)) rfl rfl rfl ?_
  refine o_q (q_mv (v_raw rfl)) rfl rfl rfl ?_
  refine o_yes rfl rfl rfl rfl ?_
  refine o_q (q_mv (v_raw rfl)) rfl rfl rfl ?_
  refine o_yes rfl rfl rfl rfl ?_
  refine o_q (q_eql rfl rfl) rfl rfl rfl ?_
  refine o_q (q_pick_c (t := true) rfl rfl (v_raw rfl)) rfl rfl rfl ?_
  refine o_q (q_mv (v_raw rfl)) rfl rfl rfl ?_
  refine o_yes rfl rfl rfl rfl ?_
  refine o_q (q_mv (v_raw rfl)) rfl rfl rfl ?_
  refine o_yes rfl rfl rfl rfl ?_
  refine o_q (q_eql rfl rfl) rfl rfl rfl ?_
  refine o_q (q_pick_c (t := true) rfl rfl (v_raw rfl)) rfl rfl rfl ?_
  refine o_q (q_mv (v_raw rfl)) rfl rfl rfl ?_
  refine o_yes rfl rfl rfl rfl ?_
  refine o_q (q_ldmw ag23 sz23 rfl (by repeat first | exact Mem.upd_self _ _ _ | assumption | refine Mem.upd_ne (by assumption) ?_) rfl rfl) rfl rfl rfl ?_
  refine o_yes rfl rfl rfl rfl ?_
  refine o_q (q_ldmw ag23 sz23 rfl (by repeat first | exact Mem.upd_self _ _ _ | assumption | refine Mem.upd_ne (by assumption) ?_) rfl rfl) rfl rfl rfl ?_
  refine o_yes rfl rfl rfl rfl ?_
  refine o_q (q_bin' rfl rfl (binNeM _ _ (onP (md x) s) (onP (md x) (⟨s.data.set (p.tmod s.size).toNat ((s.data[(p.tmod s.size).toNat]'hj) ^^^ u) hj⟩ : ByteArray)))) rfl rfl rfl ?_
  refine o_q (q_pick_c (t := true) rfl rfl (v_raw rfl)) rfl rfl rfl ?_
  refine o_q (q_as (v_raw rfl)) rfl rfl rfl ?_
  refine o_nil ?_
  refine s_ret ?_
  refine s_end ?_
  exact ⟨congrArg (fun b => AVal.raw (.bool b)) (by rw [decide_eq_false hne]; rfl), (by repeat first | exact hle | exact Mem.le_refl M | assumption | exact Mem.none_of_le hle (by assumption) | refine Mem.le_upd ?_ ?_)⟩

theorem reckons (x y : Pr) (M : Mem) : SoundCall Try.prog 5 [encP x, encP y] M fun r M' => r = .raw (.bool true) ∧ M' = M := by
  cases hx : right x with
  | false => exact (snd5c x y M hx).det
  | true =>
    cases hy : right y with
    | false => exact (snd5b x y M hx hy).det
    | true => exact (snd5a x y M hx hy).det
theorem powers (x : Pr) (n : Int) (M : Mem) (hn : n < 2 ^ 63) : SoundCall Try.prog 6 [encP x, int n] M fun r M' => r = .raw (.bool true) ∧ M' = M := by
  cases hx : right x with
  | false => exact (snd6a x n M hn hx).det
  | true =>
    by_cases h : n < 0
    · exact (snd6b x n M hn hx h).det
    · exact (snd6c x n M hn hx (by omega)).det
theorem digests (d : Pr) (s : ByteArray) (e : Pr) (n : Int) (M : Mem) (hs : s.size < 2 ^ 62) (hn : n < 2 ^ 63) : SoundCall Try.prog 9 [encP d, .raw (.string s), encP e, int n] M fun r M' => r = .raw (.bool true) ∧ M' = M := by
  cases hd : right d with
  | false => exact (snd9a d s e n M hs hn hd).det
  | true =>
    cases he : right e with
    | false => exact (snd9b d s e n M hs hn hd he).det
    | true =>
      by_cases h : n < 0
      · exact (snd9c d s e n M hs hn hd he h).det
      · exact (snd9d d s e n M hs hn hd he (by omega)).det
theorem tells (x : Pr) (s : ByteArray) (at0 : Int) (u : UInt8) (M : Mem) (hs : s.size < 2 ^ 62) (hat : -2 ^ 63 ≤ at0 ∧ at0 < 2 ^ 63) : SoundCall Try.prog 3 [encP x, .raw (.string s), int at0, .raw (.int .u8 u.toNat)] M fun r M' => r = .raw (.bool true) ∧ M' = M := by
  by_cases h : s.size = 0 ∨ u = 0
  · exact (snd3a x s at0 u M hs hat h).det
  · exact (snd3b x s at0 u M hs hat (fun e => h (.inl e)) (fun e => h (.inr e))).det
theorem norms (x y : Pr) (M : Mem) : SoundCall Try.prog 4 [encP x, encP y] M fun r M' => r = .raw (.bool true) ∧ M' = M := (snd4 x y M).det
theorem laws (x y z : Pr) (M : Mem) : SoundCall Try.prog 7 [encP x, encP y, encP z] M fun r M' => r = .raw (.bool true) ∧ M' = M := (snd7 x y z M).det
theorem inverses (x : Pr) (n m : Int) (M : Mem) (hn : -2 ^ 63 ≤ n ∧ n < 2 ^ 63) (hm : -2 ^ 63 ≤ m ∧ m < 2 ^ 63) : SoundCall Try.prog 8 [encP x, int n, int m] M fun r M' => r = .raw (.bool true) ∧ M' = M := (snd8 x n m M hn hm).det
theorem joins (a b : List ByteArray) (oa ob : Bool) (M : Mem) (ha : ∀ s ∈ a, s.size ≤ 140737488351232) (hb : ∀ s ∈ b, s.size ≤ 140737488351232) (hla : a.length < 2 ^ 47) (hlb : b.length < 2 ^ 47) : SoundCall Try.prog 10 [.sl (a.map str) oa, .sl (b.map str) ob] M fun r M' => r = .raw (.bool true) ∧ M' = M := (snd10 a b oa ob M ha hb hla hlb).det
theorem u8_of (n : Int) (h : (Lit.int .u8 n).wf = true) : ∃ u : UInt8, n = u.toNat := by
  simp [Lit.wf, IntKind.min, IntKind.max, IntKind.signed, IntKind.bits] at h
  obtain ⟨k, rfl⟩ := Int.eq_ofNat_of_zero_le (show 0 ≤ n by omega)
  refine ⟨UInt8.ofNat k, ?_⟩
  have : k < 256 := by omega
  simp [Nat.mod_eq_of_lt this]
theorem i64_of {n : Int} (h : (Lit.int .i64 n).wf = true) : -2 ^ 63 ≤ n ∧ n < 2 ^ 63 := by
  simp [Lit.wf, IntKind.min, IntKind.max, IntKind.signed, IntKind.bits] at h
  omega
end C3
