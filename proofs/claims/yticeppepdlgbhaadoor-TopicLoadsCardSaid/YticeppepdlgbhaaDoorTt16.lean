import Derived.Test.YticeppepdlgbhaaDoorTt15
import Derived.Test.YticeppepdlgbhaaDoorTt13
/-! The document's reading of bytes (chapters 1, 15), walked. -/
open Go Go.Proofs Go.Am
set_option linter.unusedVariables false
set_option linter.unusedSimpArgs false
set_option autoImplicit false
namespace C17
theorem und27 : Tryd.prog.underlying 27 = some (.pointer 34) := by kernel_rfl
def tk9n : Nat → Nat → Option Nat
 | 22, 4 => some 0
 | _, _ => none
def pl9n : Nat → List PStep
 | 2 => [.q 0, .q 1, .q 2, .q 3, .q 4, .q 5, .q 6, .s 7 [5, 4, 3, 1, 0], .q 8, .q 9, .q 10, .q 11, .q 12, .q 13, .q 14, .q 15, .q 16, .q 17, .q 18, .q 19, .q 20, .q 21, .q 22, .q 23, .q 24, .q 25, .q 26, .q 27]
 | 4 => [.q 0, .q 1, .q 2, .q 3, .q 4, .q 5, .q 6, .q 7, .q 8, .q 9, .q 10, .q 11, .q 12, .q 13, .s 14 [13, 12, 11, 10, 9, 8, 7, 6, 5, 4, 3, 2, 1, 0], .q 15, .s 16 [13, 12, 11, 10, 9, 8, 7, 6, 5, 4, 3, 2, 1, 0], .q 17]
 | 9 => [.q 0, .q 1, .q 2, .q 3, .s 4 [2, 1, 0], .q 5, .q 6, .q 7, .q 8, .q 9, .q 10, .q 11, .q 12, .q 13, .q 14, .q 15, .q 16, .q 17, .q 18, .q 19, .q 20, .q 21, .q 22, .q 23, .q 24, .q 25, .q 26, .q 27, .q 28, .q 29, .q 30, .q 31, .q 32]
 | 12 => [.q 0, .q 1, .q 2, .q 3, .q 4, .q 5, .q 6, .q 7, .q 8, .q 9, .q 10, .q 11, .q 12, .q 13, .q 14, .q 15, .q 16, .q 17, .s 18 []]
 | 16 => [.q 0, .q 1, .q 2, .q 3, .q 4, .q 5, .q 6, .q 7, .q 8, .q 9, .q 10, .q 11, .q 12, .q 13, .q 14, .q 15, .q 16]
 | 18 => [.q 0, .q 1, .q 2, .q 3, .q 4, .q 5, .q 6, .q 7, .q 8, .q 9, .q 10, .q 11, .q 12, .q 13, .q 14, .q 15, .q 16, .q 17, .q 18, .q 19, .q 20, .q 21, .q 22, .s 23 [22, 21, 20, 19, 18, 17, 16, 15, 14, 13, 12, 11, 10, 9, 8, 7, 6, 5, 4, 3, 2, 1, 0], .s 24 []]
 | 22 => [.q 0, .q 1, .q 2, .q 3, .q 5, .q 6, .s 4 [6, 5, 2, 1, 0], .q 7, .q 8, .q 9, .s 10 [8]]
 | _ => []
theorem cb9n : Tryd.f9.body.map (codeB Tryd.prog Tryd.f9.ntmps tk9n pl9n) = some true := by kernel_rfl
set_option maxHeartbeats 4000000 in
set_option maxRecDepth 20000 in
theorem snd9n (s : ByteArray) (M : Mem) (hI : SoundCall Tryd.prog 27 [str s] M fun r M' => (∃ o, r = .tup [.sl [] o, int 0, bool false]) ∧ M.le M') : SoundCall Tryd.prog 9 [str s] M fun r M' => r = .tup [.raw (.pointer none), int 10] ∧ M.le M' := by
 refine SoundCall.go tk9n pl9n mixed Tryd.func9 cb9n rfl (Nat.le_of_ble_eq_true rfl) ?_
 refine s_seq ?_
 refine s_region ?_
 refine o_q (q_as (mvQ)) rfl rfl rfl ?_
 refine o_q (q_as (v_raw rfl)) rfl rfl rfl ?_
 refine o_nil ?_
 refine s_seq ?_
 refine s_region ?_
 refine o_q (q_mv (v_raw rfl)) rfl rfl rfl ?_
 refine o_callx (hI) goes27 (ac (v_raw rfl) ac_nil) rfl ?_
 rintro r M1 ⟨⟨o, rfl⟩, hle⟩
 refine o_q (q_mv (v_tup rfl)) rfl rfl rfl ?_
 refine o_q (q_ext rfl rfl (v_sl rfl)) rfl rfl rfl ?_
 refine o_q (q_ext rfl rfl (v_raw rfl)) rfl rfl rfl ?_
 refine o_q (q_ext rfl rfl (v_raw rfl)) rfl rfl rfl ?_
 refine o_q (q_as (v_sl rfl)) rfl rfl rfl ?_
 refine o_q (q_as (v_raw rfl)) rfl rfl rfl ?_
 refine o_q (q_as (v_raw rfl)) rfl rfl rfl ?_
 refine o_nil ?_
 refine s_seq ?_
 refine s_seq ?_
 refine s_draw rfl ?_
 refine d_q rfl (q_mv (v_raw rfl)) rfl rfl rfl ?_
 refine d_q rfl (q_not rfl) rfl rfl rfl ?_
 refine d_q rfl (q_mv (v_raw rfl)) rfl rfl rfl ?_
 refine d_no rfl rfl rfl rfl rfl rfl ?_
 refine d_no rfl rfl rfl rfl rfl rfl ?_
 refine d_no rfl rfl rfl rfl rfl rfl ?_
 refine d_no rfl rfl rfl rfl rfl rfl ?_
 refine d_s rfl ?_
 refine o_no rfl rfl rfl rfl rfl ?_
 refine o_nil ⟨(by simp [Mem.upd, *]), ?_⟩
 refine d_no rfl rfl rfl rfl rfl rfl ?_
 refine d_q rfl (q_pick_c (t := true) rfl rfl (v_raw rfl)) rfl rfl rfl ?_
 refine d_q rfl (q_mv (v_raw rfl)) rfl rfl rfl ?_
 refine d_no rfl rfl rfl rfl rfl rfl ?_
 refine d_no rfl rfl rfl rfl rfl rfl ?_
 refine d_no rfl rfl rfl rfl rfl rfl ?_
 refine d_no rfl rfl rfl rfl rfl rfl ?_
 refine d_no rfl rfl rfl rfl rfl rfl ?_
 refine d_no rfl rfl rfl rfl rfl rfl ?_
 refine d_no rfl rfl rfl rfl rfl rfl ?_
 refine d_no rfl rfl rfl rfl rfl rfl ?_
 refine d_no rfl rfl rfl rfl rfl rfl ?_
 refine d_q rfl (q_pick_c (t := true) rfl rfl (v_raw rfl)) rfl rfl rfl ?_
 refine d_q rfl (q_mv (v_raw rfl)) rfl rfl rfl ?_
 refine d_no rfl rfl rfl rfl rfl rfl ?_
 refine d_no rfl rfl rfl rfl rfl rfl ?_
 refine d_no rfl rfl rfl rfl rfl rfl ?_
 refine d_no rfl rfl rfl rfl rfl rfl ?_
 refine d_no rfl rfl rfl rfl rfl rfl ?_
 refine d_q rfl (q_pick_c (t := true) rfl rfl (v_raw rfl)) rfl rfl rfl ?_
 refine d_nil ?_
 refine s_then rfl rfl ?_
 refine s_seq ?_
 refine s_region ?_
 refine o_q (q_as (mvQ)) rfl rfl rfl ?_
 refine o_q (q_as (v_raw rfl)) rfl rfl rfl ?_
 refine o_nil ?_
 refine s_ret ?_
 refine s_code_ret ?_
 refine s_end ?_
 exact ret_many (.inl rfl) rfl (rl_t rfl (rl_t rfl (rl_nil))) rfl (⟨rfl, hle⟩)

def tk11 : Nat → Nat → Option Nat := fun _ _ => none
def pl11 : Nat → List PStep
 | 6 => [.q 0, .q 1, .q 2, .q 3, .q 4, .q 5, .q 6, .q 7, .q 8]
 | _ => []
theorem cb11 : Tryd.f11.body.map (codeB Tryd.prog Tryd.f11.ntmps tk11 pl11) = some true := by kernel_rfl
theorem goes11 : goesB Tryd.prog 11 = true := by kernel_rfl
set_option maxHeartbeats 4000000 in
set_option maxRecDepth 20000 in
theorem snd11 (l : List Rec) (o1 o2 : Bool) (M : Mem) (hl : l.length < 2 ^ 62) : SoundCall Tryd.prog 11 [.sl (l.map enc) o1, .sl (l.map enc) o2] M fun r M' => r = bool true ∧ M' = M := by
 have hml : (l.map enc).length = l.length := List.length_map _
 refine SoundCall.go tk11 pl11 mixed Tryd.func11 cb11 rfl (Nat.le_of_ble_eq_true rfl) ?_
 refine s_seq ?_
 refine s_region ?_
 refine o_q (q_as (v_raw rfl)) rfl rfl rfl ?_
 refine o_nil ?_
 refine s_seq ?_
 refine s_seq ?_
 refine s_region ?_
 refine o_q (q_mv (v_sl rfl)) rfl rfl rfl ?_
 refine o_q (q_len rfl und30 rfl) rfl rfl rfl ?_
 refine o_q (q_mv (v_sl rfl)) rfl rfl rfl ?_
 refine o_q (q_len rfl und30 rfl) rfl rfl rfl ?_
 refine o_q (q_neq rfl rfl) rfl rfl rfl ?_
 refine o_nil ?_
 refine s_cond rfl (fun h1 => ?_) (fun h1 => ?_)
 ·have k1 := h1; try simp only [decide_eq_true_eq, decide_eq_false_iff_not, Bool.not_eq_true', Bool.not_eq_false', Bool.not_true, Bool.not_false, List.length_map, Decidable.not_not] at k1
  first | exact absurd h1 (by decide) | (simp at h1; done) | (simp at h1; omega)
 ·have k1 := h1; try simp only [decide_eq_true_eq, decide_eq_false_iff_not, Bool.not_eq_true', Bool.not_eq_false', Bool.not_true, Bool.not_false, List.length_map, Decidable.not_not] at k1
  refine s_skip ?_
  refine s_seq ?_
  refine s_seq ?_
  refine s_region ?_
  refine o_q (q_as (v_raw rfl)) rfl rfl rfl ?_
  refine o_nil ?_
  refine s_block ?_
  refine s_loop (fun m S => ∃ T, ∃ i : Nat, S = ⟨setT (setT (setT T 0 (.sl (l.map enc) o1)) 1 (.sl (l.map enc) o2)) 5 (int (i : Nat)), M⟩ ∧ i ≤ l.length ∧ m = l.length - i) l.length ?_ ?_
  ·exact ⟨_, 0, St.mkT (kp (kp (kp rfl rfl) rfl) rfl).symm, by omega, rfl⟩
  rintro m S ⟨T, i, rfl, hi, rfl⟩
  refine s_seq ?_
  refine s_seq ?_
  refine s_region ?_
  refine o_q (q_mv (v_raw rfl)) rfl rfl rfl ?_
  refine o_q (q_mv (v_sl rfl)) rfl rfl rfl ?_
  refine o_q (q_len rfl und30 rfl) rfl rfl rfl ?_
  refine o_q (q_lss rfl rfl) rfl rfl rfl ?_
  refine o_nil ?_
  refine s_cond rfl (fun h2 => ?_) (fun h2 => ?_)
  ·have k2 := h2; try simp only [decide_eq_true_eq, decide_eq_false_iff_not, Bool.not_eq_true', Bool.not_eq_false', Bool.not_true, Bool.not_false, List.length_map, Decidable.not_not] at k2
   refine s_skip ?_
   refine s_seq ?_
   refine s_block ?_
   refine s_seq ?_
   refine s_draw rfl ?_
   refine d_q rfl (q_mv (v_sl rfl)) rfl rfl rfl ?_
   refine d_q rfl (q_mv (v_raw rfl)) rfl rfl rfl ?_
   refine d_q rfl (q_idx und30 sz60 rfl rfl (by omega) (gm i (by first | omega | simp)) rfl) rfl rfl rfl ?_
   refine d_q rfl (q_lde ag60 sz60 rfl (gm i (by first | omega | simp)) rfl rfl) rfl rfl rfl ?_
   refine d_q rfl (q_mv (v_sl rfl)) rfl rfl rfl ?_
   refine d_q rfl (q_mv (v_raw rfl)) rfl rfl rfl ?_
   refine d_q rfl (q_idx und30 sz60 rfl rfl (by omega) (gm i (by first | omega | simp)) rfl) rfl rfl rfl ?_
   refine d_q rfl (q_lde ag60 sz60 rfl (gm i (by first | omega | simp)) rfl rfl) rfl rfl rfl ?_
   refine d_q rfl (q_bin' rfl rfl (binNeq _ _ l[i] l[i])) rfl rfl rfl ?_
   refine d_nil ?_
   refine s_cond rfl (fun h3 => ?_) (fun h3 => ?_)
   ·have k3 := h3; try simp only [decide_eq_true_eq, decide_eq_false_iff_not, Bool.not_eq_true', Bool.not_eq_false', Bool.not_true, Bool.not_false, List.length_map, Decidable.not_not] at k3
    first | exact absurd h3 (by decide) | (simp at h3; done) | (simp at h3; omega)
   ·have k3 := h3; try simp only [decide_eq_true_eq, decide_eq_false_iff_not, Bool.not_eq_true', Bool.not_eq_false', Bool.not_true, Bool.not_false, List.length_map, Decidable.not_not] at k3
    refine s_skip ?_
    refine s_blk_normal ?_
    refine s_region ?_
    refine o_q (q_mv (v_raw rfl)) rfl rfl rfl ?_
    refine o_q (q_add rfl rfl (wrap64 (by omega) (by omega))) rfl rfl rfl ?_
    refine o_q (q_as (v_raw rfl)) rfl rfl rfl ?_
    refine o_nil ?_
    refine s_inv ?_
    exact ⟨l.length - (i + 1), by omega, _, i + 1, St.mkT (kp (kp (kp rfl rfl) rfl) rfl).symm, by omega, rfl⟩
  ·have k2 := h2; try simp only [decide_eq_true_eq, decide_eq_false_iff_not, Bool.not_eq_true', Bool.not_eq_false', Bool.not_true, Bool.not_false, List.length_map, Decidable.not_not] at k2
   refine s_exit ?_
   refine s_code_exit ?_
   refine s_inv_exit ?_
   refine s_blk_here ?_
   refine s_seq ?_
   refine s_region ?_
   refine o_q (q_as (v_raw rfl)) rfl rfl rfl ?_
   refine o_nil ?_
   refine s_ret ?_
   refine s_end ?_
   exact ⟨rfl, rfl⟩

def tk3 : Nat → Nat → Option Nat := fun _ _ => none
def pl3 : Nat → List PStep
 | 8 => [.q 0, .q 2, .q 3, .q 4, .q 5, .s 1 [5, 4, 3, 2], .s 6 [4, 3, 2, 0], .q 7]
 | 9 => [.q 0, .q 1, .q 2, .q 3, .q 4, .q 5, .q 7, .q 8, .q 9, .q 10, .s 6 [10, 9, 8, 7, 3, 2, 1, 0], .q 11, .q 12, .q 13, .q 14, .q 16, .q 17, .q 18, .q 19, .s 15 [19, 18, 17, 16, 12, 11, 10, 9, 8, 7, 5, 4, 3, 2, 1, 0], .q 20, .q 21, .q 22, .q 23, .q 25, .s 24 [25, 21, 20, 19, 18, 17, 16, 14, 13, 12, 11, 10, 9, 8, 7, 5, 4, 3, 2, 1, 0], .q 26, .q 27, .q 28]
 | _ => []
theorem cb3 : Tryd.f3.body.map (codeB Tryd.prog Tryd.f3.ntmps tk3 pl3) = some true := by kernel_rfl

theorem itemsN {s : ByteArray} (hno : ∀ j, j ≤ 333 → ¬ hit s j) (ge : TypeId) (gf : Nat × Nat) (M : Mem) (hG : M 0 = some (szO ge gf)) (hs : s.size < 2 ^ 62) : SoundCall Tryd.prog 27 [str s] M fun r M' => (∃ o, r = .tup [.sl [] o, int 0, bool false]) ∧ M.le M' :=
 (snd27 s ge gf M hG hs (dec_len4 s)).mono fun r M' hp => ⟨by
  rcases hp.1 with ⟨n, hn, hh, -⟩ | ⟨-, o, e⟩
  ·exact absurd hh (hno n hn)
  ·exact ⟨o, e⟩, hp.2⟩
theorem itemsY {s : ByteArray} {n : Nat} (hn : n ≤ 333) (hh : hit s n) (ge : TypeId) (gf : Nat × Nat) (M : Mem) (hG : M 0 = some (szO ge gf)) (hs : s.size < 2 ^ 62) : SoundCall Tryd.prog 27 [str s] M fun r M' => (∃ o, r = .tup [.sl ((decF (shN n) s).1.map encIt) o, int (n : Nat), bool true]) ∧ M.le M' :=
 (snd27 s ge gf M hG hs (dec_len4 s)).mono fun r M' hp => ⟨by
  rcases hp.1 with ⟨n', hn', hh', -, o, e⟩ | ⟨hno, -⟩
  ·obtain rfl : n' = n := (four_hit hh').symm.trans (four_hit hh)
   exact ⟨o, e⟩
  ·exact absurd hh (hno n hn), hp.2⟩
theorem load9 {s : ByteArray} {n : Nat} (hn : n ≤ 333) (hh : hit s n) (ge : TypeId) (gf : Nat × Nat) (M : Mem) (hG : M 0 = some (szO ge gf)) (hs : s.size < 2 ^ 62) : SoundCall Tryd.prog 9 [str s] M fun r M' => (loadT (decF (shN n) s).1 n = none ∧ r = .tup [.raw (.pointer none), int 10] ∧ M.le M') ∨ ∃ x, loadT (decF (shN n) s).1 n = some x ∧ ∃ t m l, M t = none ∧ M m = none ∧ t ≠ m ∧ r = .tup [ptr t, int 0] ∧ l.map nilOwn = tpC m x ∧ M' t = some (.cells l) ∧ M' m = some (tpK x) ∧ M.le M' := by
 have hi := itemsY hn hh ge gf M hG hs
 obtain ⟨j, hl⟩ := dec_len hh.1
 have h1000 := decF_1000 n s
 match hm : (decF (shN n) s).1, (show 4 ≤ (decF (shN n) s).1.length by omega) with
 | a :: b :: c :: d :: R, _ =>
  rw [hm] at hi hl h1000
  simp only [List.length_cons] at hl h1000
  exact snd9 s a b c d R n j M (by omega) hn (by omega) hi
theorem doc_some {s : ByteArray} {x : Tp} (h : docLoad s = some x) : ∃ n, n ≤ 333 ∧ hit s n ∧ loadT (decF (shN n) s).1 n = some x := by
 by_cases hh : ∃ n, n ≤ 333 ∧ hit s n
 ·obtain ⟨n, hn, hh⟩ := hh
  exact ⟨n, hn, hh, (doc_hit hn hh).symm.trans h⟩
 ·rw [doc_none fun j hj hj2 => hh ⟨j, hj, hj2⟩] at h; cases h
theorem loadNone {s : ByteArray} (h : docLoad s = none) (ge : TypeId) (gf : Nat × Nat) (M : Mem) (hG : M 0 = some (szO ge gf)) (hs : s.size < 2 ^ 62) : SoundCall Tryd.prog 9 [str s] M fun r M' => r = .tup [.raw (.pointer none), int 10] ∧ M.le M' := by
 by_cases hh : ∃ n, n ≤ 333 ∧ hit s n
 ·obtain ⟨n, hn, hh⟩ := hh
  rw [doc_hit hn hh] at h
  refine (load9 hn hh ge gf M hG hs).mono fun r M' hp => ?_
  rcases hp with ⟨-, h1, h2⟩ | ⟨x, hx, -⟩
  ·exact ⟨h1, h2⟩
  ·rw [h] at hx; cases hx
 ·exact snd9n s M (itemsN (fun j hj hj2 => hh ⟨j, hj, hj2⟩) ge gf M hG hs)
theorem loadSome {s : ByteArray} {x : Tp} (h : docLoad s = some x) (ge : TypeId) (gf : Nat × Nat) (M : Mem) (hG : M 0 = some (szO ge gf)) (hs : s.size < 2 ^ 62) : SoundCall Tryd.prog 9 [str s] M fun r M' => ∃ t m, M t = none ∧ M m = none ∧ t ≠ m ∧ r = .tup [ptr t, int 0] ∧ M' = setTp M t m x := by
 obtain ⟨n, hn, hh, hx⟩ := doc_some h
 refine (load9 hn hh ge gf M hG hs).recast fun r M' hp => ?_
 rcases hp with ⟨hno, -⟩ | ⟨y, hy, t, m, l, h1, h2, h3, h4, h5, h6, h7, h8⟩
 ·rw [hx] at hno; cases hno
 ·obtain rfl := Option.some.inj (hy.symm.trans hx)
  refine ⟨_, Mem.imp_trans (Mem.imp_nil h6) (M'' := setTp M t m y) ?_, t, m, h1, h2, h3, h4, rfl⟩
  refine Mem.imp_of_le (le_tp (M' := M'.upd t (.cells (l.map nilOwn))) (l := l.map nilOwn) (Mem.upd_self _ _ _) ((upd_other h3.symm).trans h7) (fun c o hc _ ho => (upd_other hc).trans (h8 c o ho)) h5)
theorem docNone {s : ByteArray} (h : docLoad s = none) (M : Mem) (hs : s.size < 2 ^ 62) : SoundCall Tryd.prog 10 [str s] M fun r M' => r = .raw (.pointer none) ∧ M.le M' :=
 (snd10 s M hs).mono fun r M' hp => by
  obtain ⟨p, rfl, h1, ⟨rfl, -⟩ | ⟨x, hx, -⟩⟩ := hp
  ·exact ⟨rfl, h1⟩
  ·rw [h] at hx; cases hx
theorem leW2 {M M' : Mem} {B C : Nat} {o o1 : AObj} (h : M.le M') (hB : M B = none) (hC : M C = none) : M.le ((M'.upd C o1).upd B o) := leN (leN h hC) hB
/-- The document's topic in memory. -/
def ryT (x : Tp) (V : AVal) : List AVal := [str x.name, int x.low, int x.en, V, .sl (x.recs.map enc) true]
theorem docSome {s : ByteArray} {x : Tp} (h : docLoad s = some x) (M : Mem) (hs : s.size < 2 ^ 62) : SoundCall Tryd.prog 10 [str s] M fun r M' => ∃ y V, M y = none ∧ r = ptr y ∧ M' = M.upd y (.cells (ryT x V)) :=
 (snd10 s M hs).recast fun r M' hp => by
  obtain ⟨p, rfl, h1, ⟨-, hno⟩ | ⟨x', hx, t, V, W, g1, rfl, g3, g4⟩⟩ := hp
  ·rw [h] at hno; cases hno
  ·obtain rfl := Option.some.inj (h.symm.trans hx)
   refine ⟨_, Mem.imp_trans (Mem.imp_nil g3) (M'' := M.upd t (.cells (ryT x (nilOwn V)))) ?_, t, nilOwn V, g1, rfl, rfl⟩
   refine Mem.imp_of_le fun c o hc => ?_
   by_cases e : c = t
   ·subst e
    rw [Mem.upd_self] at hc ⊢
    rw [← hc]
    show some (AObj.cells [str x.name, int x.low, int x.en, nilOwn V, nilOwn W]) = _
    rw [g4]; rfl
   ·rw [upd_other e] at hc ⊢
    exact h1 c o hc
theorem read_all {x : Tp} (h : LoadOk x) (hl : x.recs.length ≤ 1000) : readL x.recs 0 1000 = x.recs := by
 have h0 : atN x.recs 0 = 0 := by
  unfold atN
  cases hr : x.recs with
  | nil => rfl
  | cons r l =>
   have := (h.rc r (by rw [hr]; exact List.mem_cons_self ..)).2.1.1
   rw [List.takeWhile_cons, if_neg (by simp; omega)]; rfl
 unfold readL
 rw [h0, List.drop_zero, List.take_of_length_le (by show x.recs.length ≤ 1000; exact hl)]
set_option maxHeartbeats 4000000 in
set_option maxRecDepth 20000 in
theorem snd3a (ge : TypeId) (gf : Nat × Nat) (s : ByteArray) (M : Mem) (hG : M 0 = some (szO ge gf)) (hs : s.size < 2 ^ 62) (hd : docLoad s = none) : SoundCall Tryd.prog 3 [str s] M fun r M' => r = bool true ∧ M.le M' := by
 refine SoundCall.go tk3 pl3 mixed Tryd.func3 cb3 rfl (Nat.le_of_ble_eq_true rfl) ?_
 refine s_seq ?_
 refine s_region ?_
 refine o_q (q_as (v_raw rfl)) rfl rfl rfl ?_
 refine o_nil ?_
 refine s_seq ?_
 refine s_region ?_
 refine o_call (((snd8 _).det)) goes8 ac_nil rfl ?_
 refine o_q (q_as (v_raw rfl)) rfl rfl rfl ?_
 refine o_nil ?_
 refine s_seq ?_
 refine s_region ?_
 refine o_q (q_mv (v_raw rfl)) rfl rfl rfl ?_
 refine o_callx ((loadNone hd ge gf _ hG hs)) goes9 (ac (v_raw rfl) ac_nil) rfl ?_
 rintro r M1 ⟨rfl, hle1⟩
 refine o_q (q_mv (v_tup rfl)) rfl rfl rfl ?_
 refine o_q (q_ext rfl rfl (mvQ)) rfl rfl rfl ?_
 refine o_q (q_ext rfl rfl (v_raw rfl)) rfl rfl rfl ?_
 refine o_q (q_as (mvQ)) rfl rfl rfl ?_
 refine o_q (q_as (v_raw rfl)) rfl rfl rfl ?_
 refine o_nil ?_
 refine s_seq ?_
 refine s_region ?_
 refine o_q (q_mv (v_raw rfl)) rfl rfl rfl ?_
 refine o_callx ((docNone hd _ hs)) goes10 (ac (v_raw rfl) ac_nil) rfl ?_
 rintro r M2 ⟨rfl, hle2⟩
 refine o_q (q_as (mvQ)) rfl rfl rfl ?_
 refine o_nil ?_
 refine s_seq ?_
 refine s_seq ?_
 refine s_region ?_
 refine o_q (q_mv (mvQ)) rfl rfl rfl ?_
 refine o_q (q_peql und27 rfl rfl) rfl rfl rfl ?_
 refine o_nil ?_
 refine s_then rfl rfl ?_
 refine s_seq ?_
 refine s_region ?_
 refine o_q (q_mv (v_raw rfl)) rfl rfl rfl ?_
 refine o_q (q_mv (v_raw rfl)) rfl rfl rfl ?_
 refine o_g (G := true) rfl rfl rfl rfl rfl (fun hG hc => (q_mv (mvQ))) ?_
 refine o_g (G := true) rfl rfl rfl rfl rfl (fun hG hc => (q_peql und23 (gv_on (gv_and hG hc) rfl) rfl)) ?_
 refine o_q (q_pand (c := _) (b := _) rfl rfl rfl) rfl rfl rfl ?_
 refine o_q (q_mv (v_raw rfl)) rfl rfl rfl ?_
 refine o_g (G := true) rfl rfl rfl rfl rfl (fun hG hc => (q_mv (v_raw rfl))) ?_
 refine o_g (G := true) rfl rfl rfl rfl rfl (fun hG hc => (q_eql (gv_on (gv_and hG hc) rfl) rfl)) ?_
 refine o_q (q_pand (c := _) (b := _) rfl rfl rfl) rfl rfl rfl ?_
 refine o_q (q_as (v_raw rfl)) rfl rfl rfl ?_
 refine o_nil ?_
 refine s_ret ?_
 refine s_code_ret ?_
 refine s_end ?_
 exact ⟨rfl, fun c o h => hle2 c o (hle1 c o h)⟩

def tk3b : Nat → Nat → Option Nat := fun _ _ => none
def pl3b : Nat → List PStep
 | 8 => [.q 0, .q 2, .q 3, .q 4, .q 5, .s 1 [5, 4, 3, 2], .s 6 [4, 3, 2, 0], .q 7]
 | 9 => [.q 0, .q 1, .q 2, .q 3, .q 4, .q 5, .q 7, .q 8, .q 9, .q 10, .s 6 [10, 9, 8, 7, 3, 2, 1, 0], .q 11, .q 12, .q 13, .q 14, .q 16, .q 17, .q 18, .q 19, .s 15 [19, 18, 17, 16, 12, 11, 10, 9, 8, 7, 5, 4, 3, 2, 1, 0], .q 20, .q 21, .q 22, .q 23, .q 25, .s 24 [25, 21, 20, 19, 18, 17, 16, 14, 13, 12, 11, 10, 9, 8, 7, 5, 4, 3, 2, 1, 0], .q 26, .q 27, .q 28]
 | _ => []
theorem cb3b : Tryd.f3.body.map (codeB Tryd.prog Tryd.f3.ntmps tk3b pl3b) = some true := by kernel_rfl
set_option maxHeartbeats 4000000 in
set_option maxRecDepth 20000 in
theorem snd3b (ge : TypeId) (gf : Nat × Nat) (s : ByteArray) (M : Mem) (hG : M 0 = some (szO ge gf)) (hs : s.size < 2 ^ 62) (x : Tp) (hd : docLoad s = some x) : SoundCall Tryd.prog 3 [str s] M fun r M' => r = bool true ∧ M.le M' := by
 obtain ⟨n, hn, hh, hx⟩ := doc_some hd
 obtain ⟨hdo, hlo, hen, hln⟩ := load_told hh hx
 refine SoundCall.go tk3b pl3b mixed Tryd.func3 cb3b rfl (Nat.le_of_ble_eq_true rfl) ?_
 refine s_seq ?_
 refine s_region ?_
 refine o_q (q_as (v_raw rfl)) rfl rfl rfl ?_
 refine o_nil ?_
 refine s_seq ?_
 refine s_region ?_
 refine o_call (((snd8 _).det)) goes8 ac_nil rfl ?_
 refine o_q (q_as (v_raw rfl)) rfl rfl rfl ?_
 refine o_nil ?_
 refine s_seq ?_
 refine s_region ?_
 refine o_q (q_mv (v_raw rfl)) rfl rfl rfl ?_
 refine o_callx ((loadSome hd ge gf _ hG hs)) goes9 (ac (v_raw rfl) ac_nil) rfl ?_
 rintro r M1 ⟨u, v, nu, nv, huv, rfl, rfl⟩
 have hvu := huv.symm
 refine o_q (q_mv (v_tup rfl)) rfl rfl rfl ?_
 refine o_q (q_ext rfl rfl (mvQ)) rfl rfl rfl ?_
 refine o_q (q_ext rfl rfl (v_raw rfl)) rfl rfl rfl ?_
 refine o_q (q_as (mvQ)) rfl rfl rfl ?_
 refine o_q (q_as (v_raw rfl)) rfl rfl rfl ?_
 refine o_nil ?_
 refine s_seq ?_
 refine s_region ?_
 refine o_q (q_mv (v_raw rfl)) rfl rfl rfl ?_
 refine o_callx ((docSome hd _ hs)) goes10 (ac (v_raw rfl) ac_nil) rfl ?_
 rintro r M2 ⟨y, V, ny, rfl, rfl⟩
 have ht1 : (setTp M u v x) u = some (.cells (tpC v x)) := Mem.upd_self _ _ _
 have hm1 : (setTp M u v x) v = some (tpK x) := (upd_other hvu).trans (Mem.upd_self _ _ _)
 have hyu : y ≠ u := fun e => by rw [e, ht1] at ny; cases ny
 have hyv : y ≠ v := fun e => by rw [e, hm1] at ny; cases ny
 have hl1 : M.le (setTp M u v x) := leW2 (Mem.le_refl M) nu nv
 have hl2 := leN (o := .cells (ryT x V)) hl1 (Mem.none_of_le hl1 ny)
 have ht := (upd_other (o := .cells (ryT x V)) (M := setTp M u v x) hyu.symm).trans ht1
 have hm := (upd_other (o := .cells (ryT x V)) (M := setTp M u v x) hyv.symm).trans hm1
 have hG2 := hl2 0 _ hG
 refine o_q (q_as (mvQ)) rfl rfl rfl ?_
 refine o_nil ?_
 refine s_seq ?_
 refine s_seq ?_
 refine s_region ?_
 refine o_q (q_mv (mvQ)) rfl rfl rfl ?_
 refine o_q (q_peql und27 rfl rfl) rfl rfl rfl ?_
 refine o_nil ?_
 refine s_else rfl rfl ?_
 refine s_skip ?_
 refine s_seq ?_
 refine s_seq ?_
 refine s_region ?_
 refine o_q (q_mv (mvQ)) rfl rfl rfl ?_
 refine o_q (q_peql und23 rfl rfl) rfl rfl rfl ?_
 refine o_q (q_mv (v_raw rfl)) rfl rfl rfl ?_
 refine o_g (G := true) rfl rfl rfl rfl rfl (fun hG hc => (q_mv (v_raw rfl))) ?_
 refine o_g (G := true) rfl rfl rfl rfl rfl (fun hG hc => (q_neq (gv_on (gv_and hG hc) rfl) rfl)) ?_
 refine o_q (q_por (c := _) (b := _) rfl rfl rfl) rfl rfl rfl ?_
 refine o_nil ?_
 refine s_cond rfl (fun h1 => ?_) (fun h1 => ?_)
 ·have k1 := h1; try simp only [decide_eq_true_eq, decide_eq_false_iff_not, Bool.not_eq_true', Bool.not_eq_false', Bool.not_true, Bool.not_false, List.length_map, Decidable.not_not] at k1
  first | exact absurd h1 (by decide) | (simp at h1; done) | (simp at h1; omega)
 ·have k1 := h1; try simp only [decide_eq_true_eq, decide_eq_false_iff_not, Bool.not_eq_true', Bool.not_eq_false', Bool.not_true, Bool.not_false, List.length_map, Decidable.not_not] at k1
  refine s_skip ?_
  refine s_seq ?_
  refine s_draw rfl ?_
  refine d_q rfl (q_mv (mvQ)) rfl rfl rfl ?_
  refine d_q rfl (q_mv (mvQ)) rfl rfl rfl ?_
  refine d_q rfl (q_nil rfl) rfl rfl rfl ?_
  refine d_q rfl (q_fr fo34_4 rfl) rfl rfl rfl ?_
  refine d_q rfl (q_ldm ag30 sz30 rfl mmQ rfl (v_sl rfl)) rfl rfl rfl ?_
  refine d_s rfl ?_
  refine o_call ((readE u v _ (read_all hlo hln) ht hlo.so (by omega))) goes12 (ac (mvQ) (ac (v_raw rfl) (ac (v_raw rfl) ac_nil))) rfl ?_
  refine o_nil ⟨(by simp [Mem.upd, *]), ?_⟩
  refine d_s rfl ?_
  refine o_call ((snd11 x.recs _ _ _ (by omega))) goes11 (ac (v_sl rfl) (ac (v_sl rfl) ac_nil)) rfl ?_
  refine o_nil ⟨(by simp [Mem.upd, *]), ?_⟩
  refine d_q rfl (q_as (v_raw rfl)) rfl rfl rfl ?_
  refine d_nil ?_
  refine s_seq ?_
  refine s_draw rfl ?_
  refine d_q rfl (q_mv (v_raw rfl)) rfl rfl rfl ?_
  refine d_q rfl (q_mv (v_raw rfl)) rfl rfl rfl ?_
  refine d_cases (want := true) (j := 1) rfl rfl (fun h2 => ?_) (fun h2 => ?_)
  ·have k2 := h2; try simp only [decide_eq_true_eq, decide_eq_false_iff_not, Bool.not_eq_true', Bool.not_eq_false', Bool.not_true, Bool.not_false, List.length_map, Decidable.not_not] at k2
   refine d_yes rfl (q_mv (v_raw rfl)) rfl rfl rfl h2 rfl rfl ?_
   refine d_q rfl (q_pick_c (t := true) rfl h2 (v_raw rfl)) rfl rfl rfl ?_
   refine d_q rfl (q_mv (v_raw rfl)) rfl rfl rfl ?_
   refine d_cases (want := true) (j := 4) rfl rfl (fun h3 => ?_) (fun h3 => ?_)
   ·have k3 := h3; try simp only [decide_eq_true_eq, decide_eq_false_iff_not, Bool.not_eq_true', Bool.not_eq_false', Bool.not_true, Bool.not_false, List.length_map, Decidable.not_not] at k3
    refine d_yes rfl (q_mv (mvQ)) rfl rfl rfl h3 rfl rfl ?_
    refine d_yes rfl (q_mv (mvQ)) rfl rfl rfl h3 rfl rfl ?_
    refine d_yes rfl (q_nil rfl) rfl rfl rfl h3 rfl rfl ?_
    refine d_yes rfl (q_fr fo34_1 rfl) rfl rfl rfl h3 rfl rfl ?_
    refine d_yes rfl (q_ldm ag3 sz3 rfl mmQ rfl (v_raw rfl)) rfl rfl rfl h3 rfl rfl ?_
    refine d_s rfl ?_
    refine o_yes rfl rfl rfl h3 ?_
    refine o_call (((snd13 u v x _ ht hm huv).det)) goes13 (ac (mvQ) ac_nil) rfl ?_
    refine o_nil ⟨(by simp [Mem.upd, *]), ?_⟩
    refine d_yes rfl (q_eql rfl rfl) rfl rfl rfl h3 rfl rfl ?_
    refine d_q rfl (q_pick_c (t := true) rfl h3 (v_raw rfl)) rfl rfl rfl ?_
    refine d_q rfl (q_mv (v_raw rfl)) rfl rfl rfl ?_
    refine d_cases (want := true) (j := 13) rfl rfl (fun h4 => ?_) (fun h4 => ?_)
    ·have k4 := h4; try simp only [decide_eq_true_eq, decide_eq_false_iff_not, Bool.not_eq_true', Bool.not_eq_false', Bool.not_true, Bool.not_false, List.length_map, Decidable.not_not] at k4
     refine d_yes rfl (q_mv (mvQ)) rfl rfl rfl h4 rfl rfl ?_
     refine d_yes rfl (q_mv (mvQ)) rfl rfl rfl h4 rfl rfl ?_
     refine d_yes rfl (q_nil rfl) rfl rfl rfl h4 rfl rfl ?_
     refine d_yes rfl (q_fr fo34_2 rfl) rfl rfl rfl h4 rfl rfl ?_
     refine d_yes rfl (q_ldm ag3 sz3 rfl mmQ rfl (v_raw rfl)) rfl rfl rfl h4 rfl rfl ?_
     refine d_s rfl ?_
     refine o_yes rfl rfl rfl h4 ?_
     refine o_call (((snd14 u v x _ ht hm huv).det)) goes14 (ac (mvQ) ac_nil) rfl ?_
     refine o_nil ⟨(by simp [Mem.upd, *]), ?_⟩
     refine d_yes rfl (q_eql rfl rfl) rfl rfl rfl h4 rfl rfl ?_
     refine d_q rfl (q_pick_c (t := true) rfl h4 (v_raw rfl)) rfl rfl rfl ?_
     refine d_q rfl (q_mv (v_raw rfl)) rfl rfl rfl ?_
     refine d_cases (want := true) (j := 22) rfl rfl (fun h5 => ?_) (fun h5 => ?_)
     ·have k5 := h5; try simp only [decide_eq_true_eq, decide_eq_false_iff_not, Bool.not_eq_true', Bool.not_eq_false', Bool.not_true, Bool.not_false, List.length_map, Decidable.not_not] at k5
      refine d_yes rfl (q_mv (mvQ)) rfl rfl rfl h5 rfl rfl ?_
      refine d_yes rfl (q_mv (v_raw rfl)) rfl rfl rfl h5 rfl rfl ?_
      refine d_s rfl ?_
      refine o_yes rfl rfl rfl h5 ?_
      refine o_call (((snd15 u v x ge gf _ ht hm huv hG2 hdo).det)) goes15 (ac (mvQ) ac_nil) rfl ?_
      refine o_nil ⟨(by simp [Mem.upd, *]), ?_⟩
      refine d_yes rfl (q_seql rfl rfl) rfl rfl rfl h5 rfl rfl ?_
      refine d_q rfl (q_pick_c (t := true) rfl h5 (v_raw rfl)) rfl rfl rfl ?_
      refine d_q rfl (q_as (v_raw rfl)) rfl rfl rfl ?_
      refine d_nil ?_
      refine s_ret ?_
      refine s_end ?_
      exact ⟨congrArg bool (by rw [hen]; simp), hl2⟩
     ·have k5 := h5; try simp only [decide_eq_true_eq, decide_eq_false_iff_not, Bool.not_eq_true', Bool.not_eq_false', Bool.not_true, Bool.not_false, List.length_map, Decidable.not_not] at k5
      first | exact absurd h5 (by decide) | (simp at h5; done) | (simp at h5; omega)
    ·have k4 := h4; try simp only [decide_eq_true_eq, decide_eq_false_iff_not, Bool.not_eq_true', Bool.not_eq_false', Bool.not_true, Bool.not_false, List.length_map, Decidable.not_not] at k4
     first | exact absurd h4 (by decide) | (simp at h4; done) | (simp at h4; omega)
   ·have k3 := h3; try simp only [decide_eq_true_eq, decide_eq_false_iff_not, Bool.not_eq_true', Bool.not_eq_false', Bool.not_true, Bool.not_false, List.length_map, Decidable.not_not] at k3
    first | exact absurd h3 (by decide) | (simp at h3; done) | (simp at h3; omega)
  ·have k2 := h2; try simp only [decide_eq_true_eq, decide_eq_false_iff_not, Bool.not_eq_true', Bool.not_eq_false', Bool.not_true, Bool.not_false, List.length_map, Decidable.not_not] at k2
   first | exact absurd h2 (by decide) | (simp at h2; done) | (simp at h2; omega)
theorem snd3 (ge : TypeId) (gf : Nat × Nat) (s : ByteArray) (M : Mem) (hG : M 0 = some (szO ge gf)) (hs : s.size < 2 ^ 62) : SoundCall Tryd.prog 3 [str s] M fun r M' => r = bool true ∧ M.le M' := by
 cases hd : docLoad s with
 | none => exact snd3a ge gf s M hG hs hd
 | some x => exact snd3b ge gf s M hG hs x hd

end C17
