import Derived.Test.YticeppepdlgbhaaDoorMa1
import Derived.Test.YticeppepdlgbhaaDoorProg
/-! Items and commands as bytes: what their functions compute. -/
open Go Go.Proofs Go.Am
set_option linter.unusedVariables false
set_option autoImplicit false
set_option linter.unusedSimpArgs false
namespace C17
theorem ag5 : aggT Tryd.prog 5 = some false := by kernel_rfl
theorem ag24 : aggT Tryd.prog 24 = some false := by kernel_rfl
theorem ag72 : aggT Tryd.prog 72 = some false := by kernel_rfl
theorem ag74 : aggT Tryd.prog 74 = some true := by kernel_rfl
theorem b2s125_9 : b2s Tryd.prog 125 9 = true := by kernel_rfl
theorem bz74 : (zeroT Tryd.prog 74).map (fun z => z.cells.toList.map AVal.raw) = some [.raw (.int .i64 0), .raw (.int .u64 0), .raw (.string { data := #[] })] := by kernel_rfl
theorem bp74 : (aPlaces Tryd.prog 74).isSome = true := by kernel_rfl
theorem bz141 : (zeroT Tryd.prog 141).map (fun z => z.cells.toList.map AVal.raw) = some [.raw (.string { data := #[] }), .raw (.int .i64 0)] := by kernel_rfl
theorem bp141 : (aPlaces Tryd.prog 141).isSome = true := by kernel_rfl
theorem fo74_0 : fo Tryd.prog 74 0 = some (0, 1) := by kernel_rfl
theorem fo74_1 : fo Tryd.prog 74 1 = some (1, 1) := by kernel_rfl
theorem fo74_2 : fo Tryd.prog 74 2 = some (2, 1) := by kernel_rfl
theorem fo141_0 : fo Tryd.prog 141 0 = some (0, 1) := by kernel_rfl
theorem fo141_1 : fo Tryd.prog 141 1 = some (1, 1) := by kernel_rfl
theorem s2b9_125 : s2b Tryd.prog 9 125 = true := by kernel_rfl
theorem slt69 : SlT Tryd.prog 69 74 3 32 := ⟨by kernel_rfl, by kernel_rfl, by kernel_rfl, by kernel_rfl, by decide⟩
theorem sz5 : sizeT Tryd.prog 5 = some 1 := by kernel_rfl
theorem sz24 : sizeT Tryd.prog 24 = some 1 := by kernel_rfl
theorem sz72 : sizeT Tryd.prog 72 = some 1 := by kernel_rfl
theorem sz74 : sizeT Tryd.prog 74 = some 3 := by kernel_rfl
theorem sz141 : sizeT Tryd.prog 141 = some 2 := by kernel_rfl
theorem und5 : Tryd.prog.underlying 5 = some (.int .u8) := by kernel_rfl
theorem und69 : Tryd.prog.underlying 69 = some (.slice 74) := by kernel_rfl
theorem und72 : Tryd.prog.underlying 72 = some (.int .u64) := by kernel_rfl
theorem und125 : Tryd.prog.underlying 125 = some (.slice 5) := by kernel_rfl
theorem und127 : Tryd.prog.underlying 127 = some (.array 5 3) := by kernel_rfl
theorem zc5 : zeroCellsT Tryd.prog 5 = some [.raw (.int .u8 0)] := by kernel_rfl
theorem zc74 : zeroCellsT Tryd.prog 74 = some [.raw (.int .i64 0), .raw (.int .u64 0), .raw (.string { data := #[] })] := by kernel_rfl
theorem zc141 : zeroCellsT Tryd.prog 141 = some [.raw (.string { data := #[] }), .raw (.int .i64 0)] := by kernel_rfl
def tk102 : Nat → Nat → Option Nat := fun _ _ => none
def pl102 : Nat → List PStep := fun _ => []
theorem cb102 : Tryd.f102.body.map (codeB Tryd.prog Tryd.f102.ntmps tk102 pl102) = some true := by kernel_rfl
theorem goes102 : goesB Tryd.prog 102 = true := by kernel_rfl

/-- The letters of the kinds. -/
def letters : ByteArray := ⟨#[98, 119, 108, 116]⟩
abbrev star : ByteArray := ⟨#[42]⟩
/-- A number of bytes, the first one the greatest. -/
def beN (l : List UInt8) : Nat := l.foldl (fun n c => n * 256 + c.toNat) 0
theorem beN_snoc (l : List UInt8) (c : UInt8) : beN (l ++ [c]) = beN l * 256 + c.toNat := by simp [beN, List.foldl_append]
theorem beN_lt' (l : List UInt8) : ∀ n, l.foldl (fun n c => n * 256 + c.toNat) n + 1 ≤ (n + 1) * 256 ^ l.length := by
 induction l with
 | nil => intro n; simp
 | cons c l ih =>
  intro n
  have h1 := ih (n * 256 + c.toNat)
  have h2 := c.toNat_lt
  have h3 : (n * 256 + c.toNat + 1) * 256 ^ l.length ≤ ((n + 1) * 256) * 256 ^ l.length := Nat.mul_le_mul_right _ (by omega)
  rw [List.foldl_cons, List.length_cons, Nat.pow_succ, Nat.mul_comm (256 ^ l.length) 256, ← Nat.mul_assoc]
  exact Nat.le_trans h1 h3
theorem beN_lt (l : List UInt8) : beN l < 256 ^ l.length := by
 have := beN_lt' l 0
 rw [Nat.zero_add, Nat.one_mul] at this
 exact this
set_option maxHeartbeats 4000000 in
set_option maxRecDepth 20000 in
theorem snd102 (s : ByteArray) (c : UInt8) (M : Mem) : SoundCall Tryd.prog 102 [str s, .raw (.int .u8 c.toNat)] M fun r M' => r = int (idxB s c) ∧ M' = M := by
 refine SoundCall.go tk102 pl102 mixed Tryd.func102 cb102 rfl (Nat.le_of_ble_eq_true rfl) ?_
 refine s_seq ?_
 refine s_region ?_
 refine o_q (q_as (v_raw rfl)) rfl rfl rfl ?_
 refine o_nil ?_
 refine s_seq ?_
 refine s_region ?_
 refine o_q (q_mv (v_raw rfl)) rfl rfl rfl ?_
 refine o_q (q_mv (v_raw rfl)) rfl rfl rfl ?_
 refine x_indexByte Tryd.func129 (by kernel_rfl) rfl (by kernel_rfl) (by kernel_rfl) rfl rfl ?_
 refine o_q (q_as (v_raw rfl)) rfl rfl rfl ?_
 refine o_nil ?_
 refine s_ret ?_
 refine s_end ?_
 exact ⟨rfl, rfl⟩

def tk70 : Nat → Nat → Option Nat := fun _ _ => none
def pl70 : Nat → List PStep := fun _ => []
theorem cb70 : Tryd.f70.body.map (codeB Tryd.prog Tryd.f70.ntmps tk70 pl70) = some true := by kernel_rfl
theorem goes70 : goesB Tryd.prog 70 = true := by kernel_rfl
set_option maxHeartbeats 4000000 in
set_option maxRecDepth 20000 in
theorem snd70 (s : ByteArray) (c : UInt8) (M : Mem) : SoundCall Tryd.prog 70 [str s, .raw (.int .u8 c.toNat)] M fun r M' => r = int (idxB s c) ∧ M' = M := by
 refine SoundCall.go tk70 pl70 mixed Tryd.func70 cb70 rfl (Nat.le_of_ble_eq_true rfl) ?_
 refine s_seq ?_
 refine s_region ?_
 refine o_q (q_as (v_raw rfl)) rfl rfl rfl ?_
 refine o_nil ?_
 refine s_seq ?_
 refine s_region ?_
 refine o_q (q_mv (v_raw rfl)) rfl rfl rfl ?_
 refine o_q (q_mv (v_raw rfl)) rfl rfl rfl ?_
 refine o_call ((snd102 s c M)) goes102 (ac (v_raw rfl) (ac (v_raw rfl) ac_nil)) rfl ?_
 refine o_q (q_as (v_raw rfl)) rfl rfl rfl ?_
 refine o_nil ?_
 refine s_ret ?_
 refine s_end ?_
 exact ⟨rfl, rfl⟩

def tk147 : Nat → Nat → Option Nat := fun _ _ => none
def pl147 : Nat → List PStep := fun _ => []
theorem cb147 : Tryd.f147.body.map (codeB Tryd.prog Tryd.f147.ntmps tk147 pl147) = some true := by kernel_rfl
theorem goes147 : goesB Tryd.prog 147 = true := by kernel_rfl
set_option maxHeartbeats 4000000 in
set_option maxRecDepth 20000 in
theorem snd147 (s : ByteArray) (M : Mem) : SoundCall Tryd.prog 147 [str s, str star] M fun r M' => r = int (idxB s 42) ∧ M' = M := by
 refine SoundCall.go tk147 pl147 mixed Tryd.func147 cb147 rfl (Nat.le_of_ble_eq_true rfl) ?_
 refine s_seq ?_
 refine s_region ?_
 refine o_q (q_as (v_raw rfl)) rfl rfl rfl ?_
 refine o_nil ?_
 refine s_seq ?_
 refine s_region ?_
 refine o_q (q_mv (v_raw rfl)) rfl rfl rfl ?_
 refine o_q (q_lens rfl und9 rfl) rfl rfl rfl ?_
 refine o_q (q_as (v_raw rfl)) rfl rfl rfl ?_
 refine o_nil ?_
 refine s_seq ?_
 refine s_block ?_
 refine s_seq ?_
 refine s_region ?_
 refine o_q (q_mv (v_raw rfl)) rfl rfl rfl ?_
 refine o_q (q_eql rfl rfl) rfl rfl rfl ?_
 refine o_q (q_mv (v_raw rfl)) rfl rfl rfl ?_
 refine o_yes rfl rfl rfl rfl ?_
 refine o_q (q_mv (v_raw rfl)) rfl rfl rfl ?_
 refine o_yes rfl rfl rfl rfl ?_
 refine o_q (q_mv (v_raw rfl)) rfl rfl rfl ?_
 refine o_yes rfl rfl rfl rfl ?_
 refine o_q (q_seql rfl rfl) rfl rfl rfl ?_
 refine o_q (q_pick_c (t := false) rfl rfl (v_raw rfl)) rfl rfl rfl ?_
 refine o_q (q_as (v_raw rfl)) rfl rfl rfl ?_
 refine o_nil ?_
 refine s_cond rfl (fun h1 => ?_) (fun h1 => ?_)
 ·have k1 := h1; try simp only [decide_eq_true_eq, decide_eq_false_iff_not, Bool.not_eq_true', Bool.not_eq_false', Bool.not_true, Bool.not_false, List.length_map, Decidable.not_not] at k1
  refine s_seq ?_
  refine s_region ?_
  refine o_q (q_as (v_raw rfl)) rfl rfl rfl ?_
  refine o_nil ?_
  refine s_ret ?_
  refine s_blk_ret ?_
  refine s_code_ret ?_
  refine s_end ?_
  have e1 : star = s := by simpa using h1
  rw [← e1]
  exact ⟨by kernel_rfl, rfl⟩
 ·have k1 := h1; try simp only [decide_eq_true_eq, decide_eq_false_iff_not, Bool.not_eq_true', Bool.not_eq_false', Bool.not_true, Bool.not_false, List.length_map, Decidable.not_not] at k1
  refine s_seq ?_
  refine s_region ?_
  refine o_q (q_mv (v_raw rfl)) rfl rfl rfl ?_
  refine o_q (q_eql rfl rfl) rfl rfl rfl ?_
  refine o_q (q_as (v_raw rfl)) rfl rfl rfl ?_
  refine o_nil ?_
  refine s_then rfl rfl ?_
  refine s_seq ?_
  refine s_region ?_
  refine o_q (q_mv (v_raw rfl)) rfl rfl rfl ?_
  refine o_q (q_mv (v_raw rfl)) rfl rfl rfl ?_
  refine o_q (q_stri (n := 0) und9 rfl rfl rfl (by decide)) rfl rfl rfl ?_
  refine o_call ((snd102 s 42 M)) goes102 (ac (v_raw rfl) (ac (v_raw rfl) ac_nil)) rfl ?_
  refine o_q (q_as (v_raw rfl)) rfl rfl rfl ?_
  refine o_nil ?_
  refine s_ret ?_
  refine s_blk_ret ?_
  refine s_code_ret ?_
  refine s_end ?_
  exact ⟨rfl, rfl⟩

def tk72 : Nat → Nat → Option Nat := fun _ _ => none
def pl72 : Nat → List PStep := fun _ => []
theorem cb72 : Tryd.f72.body.map (codeB Tryd.prog Tryd.f72.ntmps tk72 pl72) = some true := by kernel_rfl
theorem goes72 : goesB Tryd.prog 72 = true := by kernel_rfl

theorem leB {M M' : Mem} {b : Nat} {o : AObj} (h : ∀ c q, c ≠ b → M c = some q → M' c = some q) (hb : M' b = some o) : (M.upd b o).le M' := fun c q hc => by
 unfold Mem.upd at hc
 by_cases e : c = b
 ·rw [if_pos e] at hc; cases hc; rw [e]; exact hb
 ·rw [if_neg e] at hc; exact h c q e hc
theorem ext0_size {s : ByteArray} {n : Nat} (h : n ≤ s.size) : (s.extract 0 n).size = n := by simp; omega
theorem beN_succ {s : ByteArray} {i : Nat} (hi : i < s.size) : beN (s.data.toList.take (i + 1)) = beN (s.data.toList.take i) * 256 + (s.data[i]'hi).toNat := by
 have hl : i < s.data.toList.length := by rw [Array.length_toList]; exact hi
 rw [List.take_succ_eq_append_getElem hl, beN_snoc]
 rw [Array.getElem_toList]
theorem beN_shl {l : List UInt8} (h : l.length < 8) : beN l * 2 ^ 8 < 2 ^ 64 := by
 have h1 := beN_lt l
 have h2 : 256 ^ l.length ≤ 256 ^ 7 := Nat.pow_le_pow_right (by decide) (by omega)
 have h3 : beN l < 256 ^ 7 := Nat.lt_of_lt_of_le h1 h2
 exact Nat.lt_of_lt_of_le (Nat.mul_lt_mul_of_pos_right h3 (by decide)) (by decide)
abbrev u64 (n : Nat) : AVal := .raw (.int .u64 (n : Int))
abbrev rdC (s : ByteArray) (e : Int) : AObj := .cells [str s, int e]
/-- A number that is read: it, what is left, the error. -/
def numF (size : Nat) (s : ByteArray) (e : Int) : Nat × ByteArray × Int := if s.size < size then (0, s, 2) else (beN (s.data.toList.take size), s.extract size s.size, e)
set_option maxHeartbeats 4000000 in
set_option maxRecDepth 20000 in
theorem snd72 (b size : Nat) (s : ByteArray) (e : Int) (M : Mem) (hb : M b = some (rdC s e)) (h8 : size ≤ 8) : SoundCall Tryd.prog 72 [ptr b, int size] M fun r M' => r = u64 (numF size s e).1 ∧ (M.upd b (rdC (numF size s e).2.1 (numF size s e).2.2)).le M' := by
 refine SoundCall.go tk72 pl72 mixed Tryd.func72 cb72 rfl (Nat.le_of_ble_eq_true rfl) ?_
 refine s_seq ?_
 refine s_region ?_
 refine o_q (q_as (v_raw rfl)) rfl rfl rfl ?_
 refine o_nil ?_
 refine s_seq ?_
 refine s_seq ?_
 refine s_region ?_
 refine o_q (q_mv (mvQ)) rfl rfl rfl ?_
 refine o_q (q_nil rfl) rfl rfl rfl ?_
 refine o_q (q_fr fo141_0 rfl) rfl rfl rfl ?_
 refine o_q (q_ldm ag9 sz9 rfl mmQ rfl (v_raw rfl)) rfl rfl rfl ?_
 refine o_q (q_lens rfl und9 rfl) rfl rfl rfl ?_
 refine o_q (q_mv (v_raw rfl)) rfl rfl rfl ?_
 refine o_q (q_lss rfl rfl) rfl rfl rfl ?_
 refine o_nil ?_
 refine s_cond rfl (fun h1 => ?_) (fun h1 => ?_)
 ·have k1 := h1; try simp only [decide_eq_true_eq, decide_eq_false_iff_not, Bool.not_eq_true', Bool.not_eq_false', Bool.not_true, Bool.not_false, List.length_map, Decidable.not_not] at k1
  refine s_seq ?_
  refine s_region ?_
  refine o_q (q_mv (mvQ)) rfl rfl rfl ?_
  refine o_q (q_nil rfl) rfl rfl rfl ?_
  refine o_q (q_fr fo141_1 rfl) rfl rfl rfl ?_
  refine o_store rfl mmQ meQ rfl sz24 rfl (Nat.le_of_ble_eq_true rfl) rfl rfl ?_
  refine o_nil ?_
  refine s_seq ?_
  refine s_region ?_
  refine o_q (q_as (v_raw rfl)) rfl rfl rfl ?_
  refine o_nil ?_
  refine s_ret ?_
  refine s_code_ret ?_
  refine s_end ?_
  have e1 : numF size s e = (0, s, 2) := by unfold numF; rw [if_pos (by omega)]
  rw [e1]
  exact ⟨rfl, Mem.le_refl _⟩
 ·have k1 := h1; try simp only [decide_eq_true_eq, decide_eq_false_iff_not, Bool.not_eq_true', Bool.not_eq_false', Bool.not_true, Bool.not_false, List.length_map, Decidable.not_not] at k1
  have hle1 : size ≤ s.size := by omega
  have hsz := ext0_size hle1
  refine s_skip ?_
  refine s_seq ?_
  refine s_region ?_
  refine o_q (q_as (v_raw rfl)) rfl rfl rfl ?_
  refine o_nil ?_
  refine s_seq ?_
  refine s_seq ?_
  refine s_region ?_
  refine o_q (q_mv (mvQ)) rfl rfl rfl ?_
  refine o_q (q_nil rfl) rfl rfl rfl ?_
  refine o_q (q_fr fo141_0 rfl) rfl rfl rfl ?_
  refine o_q (q_ldm ag9 sz9 rfl mmQ rfl (v_raw rfl)) rfl rfl rfl ?_
  refine o_q (q_mv (v_raw rfl)) rfl rfl rfl ?_
  refine o_q (q_slstr und9 rfl rfl (by omega)) rfl rfl rfl ?_
  refine o_s2b s2b9_125 rfl (fun B1 C1 hB1 hC1 => ?_)
  have nb : b ≠ B1 := Mem.fresh_ne hB1 hb
  have m1 : M B1 = none := by have h := hB1; repeat (first | exact h | exact Mem.none_of_le hle h | replace h := (Mem.upd_none h).2)
  refine o_q (q_lenr rfl und125 rfl) rfl rfl rfl ?_
  refine o_q (q_mv (v_raw rfl)) rfl rfl rfl ?_
  refine o_nil ?_
  refine s_block ?_
  refine s_loop (fun m S => ∃ T, ∃ M' : Mem, ∃ i : Nat, S = ⟨setT (setT (setT (setT (setT (setT T 0 (ptr b)) 1 (int size)) 5 (u64 (beN (s.data.toList.take i)))) 24 (.raw (.slice (some ⟨B1, 0, none⟩) (s.extract 0 size).size C1))) 25 (int (s.extract 0 size).size)) 26 (int i), M'⟩ ∧ M.le M' ∧ (M' b = some (rdC s e) ∧ M' B1 = some (.cells (u8l (s.extract 0 size) ++ List.replicate (C1 - (s.extract 0 size).size) (.raw (.int .u8 0))))) ∧ i ≤ size ∧ m = size - i) size ?_ ?_
  ·exact ⟨_, _, 0, St.mkT (kp (kp (kp (kp (kp (kp rfl rfl) rfl) rfl) rfl) rfl) rfl).symm, (by repeat first | exact hle | exact Mem.le_refl M | assumption | exact Mem.none_of_le hle (by assumption) | refine Mem.le_upd ?_ ?_), ⟨mmQ, mmQ⟩, by omega, rfl⟩
  rintro m S ⟨T, M', i, rfl, hle, ⟨bm1, bm2⟩, hi, rfl⟩
  refine s_seq ?_
  refine s_region ?_
  refine o_q (q_lss rfl rfl) rfl rfl rfl ?_
  refine o_nil ?_
  refine s_seq ?_
  refine s_cond rfl (fun h2 => ?_) (fun h2 => ?_)
  ·have k2 := h2; try simp only [decide_eq_true_eq, decide_eq_false_iff_not, Bool.not_eq_true', Bool.not_eq_false', Bool.not_true, Bool.not_false, List.length_map, Decidable.not_not] at k2
   have hi2 : i < (s.extract 0 size).size := by omega
   have hi3 : i < s.size := by omega
   have hc8 : (s.data[i]'hi3).toNat < 256 := UInt8.toNat_lt _
   have hsh : beN (s.data.toList.take i) * 2 ^ 8 < 2 ^ 64 := beN_shl (by rw [List.length_take]; omega)
   refine s_skip ?_
   refine s_seq ?_
   refine s_block ?_
   refine s_seq ?_
   refine s_region ?_
   refine o_q (q_idxr und125 sz5 rfl rfl (by omega) (by omega)) rfl rfl rfl ?_
   refine o_q (q_ldm ag5 sz5 rfl mmQ (by simpa [piece] using u8l_get (s := (s.extract 0 size)) (j := i) hi2) (v_raw rfl)) rfl rfl rfl ?_
   refine o_q (q_as (v_raw rfl)) rfl rfl rfl ?_
   refine o_nil ?_
   refine s_region ?_
   refine o_q (q_mv (v_raw rfl)) rfl rfl rfl ?_
   refine o_q (q_shlu (n := 8) rfl rfl (by decide) hsh) rfl rfl rfl ?_
   refine o_q (q_mv (v_raw rfl)) rfl rfl rfl ?_
   refine o_q (q_i2i und5 und72 rfl (u64_wrap (by omega) (by omega))) rfl rfl rfl ?_
   refine o_q (q_orb rfl rfl hsh hc8) rfl rfl rfl ?_
   refine o_q (q_as (v_raw rfl)) rfl rfl rfl ?_
   refine o_nil ?_
   refine s_blk_normal ?_
   refine s_region ?_
   refine o_q (q_add rfl rfl (wrap64 (by omega) (by omega))) rfl rfl rfl ?_
   refine o_q (q_mv (v_raw rfl)) rfl rfl rfl ?_
   refine o_nil ?_
   refine s_inv ?_
   exact ⟨size - (i + 1), by omega, _, _, i + 1, St.mkT (kp (kp (kp (kp (kp (kp rfl rfl) rfl) (show _ = u64 (beN (s.data.toList.take (i + 1))) by rw [beN_succ hi3]; rfl)) rfl) rfl) rfl).symm, (by repeat first | exact hle | exact Mem.le_refl M | assumption | exact Mem.none_of_le hle (by assumption) | refine Mem.le_upd ?_ ?_), ⟨mmQ, mmQ⟩, by omega, rfl⟩
  ·have k2 := h2; try simp only [decide_eq_true_eq, decide_eq_false_iff_not, Bool.not_eq_true', Bool.not_eq_false', Bool.not_true, Bool.not_false, List.length_map, Decidable.not_not] at k2
   refine s_exit ?_
   refine s_code_exit ?_
   refine s_inv_exit ?_
   refine s_blk_here ?_
   refine s_seq ?_
   refine s_region ?_
   refine o_q (q_mv (mvQ)) rfl rfl rfl ?_
   refine o_q (q_mv (mvQ)) rfl rfl rfl ?_
   refine o_q (q_nil rfl) rfl rfl rfl ?_
   refine o_q (q_fr fo141_0 rfl) rfl rfl rfl ?_
   refine o_q (q_ldm ag9 sz9 rfl mmQ rfl (v_raw rfl)) rfl rfl rfl ?_
   refine o_q (q_mv (v_raw rfl)) rfl rfl rfl ?_
   refine o_q (q_slslo und9 rfl rfl (by omega)) rfl rfl rfl ?_
   refine o_q (q_nil rfl) rfl rfl rfl ?_
   refine o_q (q_fr fo141_0 rfl) rfl rfl rfl ?_
   refine o_store rfl mmQ meQ rfl sz9 rfl (Nat.le_of_ble_eq_true rfl) rfl rfl ?_
   refine o_nil ?_
   refine s_seq ?_
   refine s_region ?_
   refine o_q (q_mv (v_raw rfl)) rfl rfl rfl ?_
   refine o_q (q_as (v_raw rfl)) rfl rfl rfl ?_
   refine o_nil ?_
   refine s_ret ?_
   refine s_end ?_
   obtain rfl : i = size := by omega
   have e1 : numF i s e = (beN (s.data.toList.take i), s.extract i s.size, e) := by unfold numF; rw [if_neg (by omega)]
   rw [e1]
   exact ⟨rfl, leB (fun c q hc h => by repeat first | exact h | exact hle c q h | refine Mem.upd_ne (by first | exact hc | exact Mem.ne_none h (by assumption)) ?_) mmQ⟩

def tk71 : Nat → Nat → Option Nat := fun _ _ => none
def pl71 : Nat → List PStep := fun _ => []
theorem cb71 : Tryd.f71.body.map (codeB Tryd.prog Tryd.f71.ntmps tk71 pl71) = some true := by kernel_rfl
theorem goes71 : goesB Tryd.prog 71 = true := by kernel_rfl

/-- A text that is read: it, what is left, the error. -/
def textF (s : ByteArray) (e : Int) : ByteArray × ByteArray × Int :=
 if (numF 4 s e).2.2 ≠ 0 then (emp, (numF 4 s e).2) else if 100000 < (numF 4 s e).1 then (emp, (numF 4 s e).2.1, 3) else if (numF 4 s e).2.1.size < (numF 4 s e).1 then (emp, (numF 4 s e).2.1, 2)
 else ((numF 4 s e).2.1.extract 0 (numF 4 s e).1, (numF 4 s e).2.1.extract (numF 4 s e).1 (numF 4 s e).2.1.size, (numF 4 s e).2.2)
theorem numF_size (n : Nat) (s : ByteArray) (e : Int) : (numF n s e).2.1.size ≤ s.size := by
 unfold numF
 split
 ·exact Nat.le_refl _
 ·simp
theorem textF_size (s : ByteArray) (e : Int) : (textF s e).2.1.size ≤ s.size := by
 have := numF_size 4 s e
 unfold textF
 split
 ·exact this
 ·split
  ·exact this
  ·split
   ·exact this
   ·simp; omega
theorem Mem.upd2_le {M M' : Mem} {b : Nat} {o o' : AObj} (h : (M.upd b o).le M') : (M.upd b o').le (M'.upd b o') := fun c q hc => by
 unfold Mem.upd at hc ⊢
 by_cases e : c = b
 ·rw [if_pos e] at hc ⊢; exact hc
 ·rw [if_neg e] at hc ⊢
  exact h c q (by unfold Mem.upd; rw [if_neg e]; exact hc)
set_option maxHeartbeats 4000000 in
set_option maxRecDepth 20000 in
theorem snd71 (b : Nat) (s : ByteArray) (e : Int) (M : Mem) (hb : M b = some (rdC s e)) (hs : s.size < 2 ^ 62) : SoundCall Tryd.prog 71 [ptr b] M fun r M' => r = str (textF s e).1 ∧ (M.upd b (rdC (textF s e).2.1 (textF s e).2.2)).le M' := by
 have hns := numF_size 4 s e
 refine SoundCall.go tk71 pl71 mixed Tryd.func71 cb71 rfl (Nat.le_of_ble_eq_true rfl) ?_
 refine s_seq ?_
 refine s_region ?_
 refine o_q (q_as (v_raw rfl)) rfl rfl rfl ?_
 refine o_nil ?_
 refine s_seq ?_
 refine s_region ?_
 refine o_q (q_mv (mvQ)) rfl rfl rfl ?_
 refine o_callx ((snd72 b 4 s e M hb (by decide))) goes72 (ac (mvQ) (ac (v_raw rfl) ac_nil)) rfl ?_
 rintro r M' ⟨rfl, hq⟩
 have hb' : M' b = some (rdC (numF 4 s e).2.1 (numF 4 s e).2.2) := hq b _ (Mem.upd_self _ _ _)
 refine o_q (q_as (v_raw rfl)) rfl rfl rfl ?_
 refine o_nil ?_
 refine s_seq ?_
 refine s_block ?_
 refine s_seq ?_
 refine s_region ?_
 refine o_q (q_mv (mvQ)) rfl rfl rfl ?_
 refine o_q (q_nil rfl) rfl rfl rfl ?_
 refine o_q (q_fr fo141_1 rfl) rfl rfl rfl ?_
 refine o_q (q_ldm ag24 sz24 rfl mmQ rfl (v_raw rfl)) rfl rfl rfl ?_
 refine o_q (q_neq rfl rfl) rfl rfl rfl ?_
 refine o_q (q_as (v_raw rfl)) rfl rfl rfl ?_
 refine o_nil ?_
 refine s_cond rfl (fun h1 => ?_) (fun h1 => ?_)
 ·have k1 := h1; try simp only [decide_eq_true_eq, decide_eq_false_iff_not, Bool.not_eq_true', Bool.not_eq_false', Bool.not_true, Bool.not_false, List.length_map, Decidable.not_not] at k1
  refine s_seq ?_
  refine s_region ?_
  refine o_q (q_as (v_raw rfl)) rfl rfl rfl ?_
  refine o_nil ?_
  refine s_ret ?_
  refine s_blk_ret ?_
  refine s_code_ret ?_
  refine s_end ?_
  have e1 : textF s e = (emp, (numF 4 s e).2) := by unfold textF; rw [if_pos k1]
  rw [e1]
  exact ⟨rfl, hq⟩
 ·have k1 := h1; try simp only [decide_eq_true_eq, decide_eq_false_iff_not, Bool.not_eq_true', Bool.not_eq_false', Bool.not_true, Bool.not_false, List.length_map, Decidable.not_not] at k1
  refine s_seq ?_
  refine s_region ?_
  refine o_q (q_mv (v_raw rfl)) rfl rfl rfl ?_
  refine o_q (q_gtr rfl rfl) rfl rfl rfl ?_
  refine o_q (q_as (v_raw rfl)) rfl rfl rfl ?_
  refine o_nil ?_
  refine s_cond rfl (fun h2 => ?_) (fun h2 => ?_)
  ·have k2 := h2; try simp only [decide_eq_true_eq, decide_eq_false_iff_not, Bool.not_eq_true', Bool.not_eq_false', Bool.not_true, Bool.not_false, List.length_map, Decidable.not_not] at k2
   refine s_seq ?_
   refine s_region ?_
   refine o_q (q_mv (mvQ)) rfl rfl rfl ?_
   refine o_q (q_nil rfl) rfl rfl rfl ?_
   refine o_q (q_fr fo141_1 rfl) rfl rfl rfl ?_
   refine o_store rfl mmQ meQ rfl sz24 rfl (Nat.le_of_ble_eq_true rfl) rfl rfl ?_
   refine o_nil ?_
   refine s_seq ?_
   refine s_region ?_
   refine o_q (q_as (v_raw rfl)) rfl rfl rfl ?_
   refine o_nil ?_
   refine s_ret ?_
   refine s_blk_ret ?_
   refine s_code_ret ?_
   refine s_end ?_
   have e1 : textF s e = (emp, (numF 4 s e).2.1, 3) := by unfold textF; rw [if_neg (by simpa using k1), if_pos (by omega)]
   rw [e1]
   exact ⟨rfl, Mem.upd2_le hq⟩
  ·have k2 := h2; try simp only [decide_eq_true_eq, decide_eq_false_iff_not, Bool.not_eq_true', Bool.not_eq_false', Bool.not_true, Bool.not_false, List.length_map, Decidable.not_not] at k2
   refine s_seq ?_
   refine s_region ?_
   refine o_q (q_mv (v_raw rfl)) rfl rfl rfl ?_
   refine o_q (q_mv (mvQ)) rfl rfl rfl ?_
   refine o_q (q_nil rfl) rfl rfl rfl ?_
   refine o_q (q_fr fo141_0 rfl) rfl rfl rfl ?_
   refine o_q (q_ldm ag9 sz9 rfl mmQ rfl (v_raw rfl)) rfl rfl rfl ?_
   refine o_q (q_lens rfl und9 rfl) rfl rfl rfl ?_
   refine o_q (q_i2i und3 und72 rfl (u64_wrap (by omega) (by omega))) rfl rfl rfl ?_
   refine o_q (q_gtr rfl rfl) rfl rfl rfl ?_
   refine o_q (q_as (v_raw rfl)) rfl rfl rfl ?_
   refine o_nil ?_
   refine s_cond rfl (fun h3 => ?_) (fun h3 => ?_)
   ·have k3 := h3; try simp only [decide_eq_true_eq, decide_eq_false_iff_not, Bool.not_eq_true', Bool.not_eq_false', Bool.not_true, Bool.not_false, List.length_map, Decidable.not_not] at k3
    refine s_seq ?_
    refine s_region ?_
    refine o_q (q_mv (mvQ)) rfl rfl rfl ?_
    refine o_q (q_nil rfl) rfl rfl rfl ?_
    refine o_q (q_fr fo141_1 rfl) rfl rfl rfl ?_
    refine o_store rfl mmQ meQ rfl sz24 rfl (Nat.le_of_ble_eq_true rfl) rfl rfl ?_
    refine o_nil ?_
    refine s_seq ?_
    refine s_region ?_
    refine o_q (q_as (v_raw rfl)) rfl rfl rfl ?_
    refine o_nil ?_
    refine s_ret ?_
    refine s_blk_ret ?_
    refine s_code_ret ?_
    refine s_end ?_
    have e1 : textF s e = (emp, (numF 4 s e).2.1, 2) := by unfold textF; rw [if_neg (by simpa using k1), if_neg (by omega), if_pos (by omega)]
    rw [e1]
    exact ⟨rfl, Mem.upd2_le hq⟩
   ·have k3 := h3; try simp only [decide_eq_true_eq, decide_eq_false_iff_not, Bool.not_eq_true', Bool.not_eq_false', Bool.not_true, Bool.not_false, List.length_map, Decidable.not_not] at k3
    refine s_skip ?_
    refine s_blk_normal ?_
    refine s_seq ?_
    refine s_region ?_
    refine o_q (q_mv (mvQ)) rfl rfl rfl ?_
    refine o_q (q_nil rfl) rfl rfl rfl ?_
    refine o_q (q_fr fo141_0 rfl) rfl rfl rfl ?_
    refine o_q (q_ldm ag9 sz9 rfl mmQ rfl (v_raw rfl)) rfl rfl rfl ?_
    refine o_q (q_mv (v_raw rfl)) rfl rfl rfl ?_
    refine o_q (q_slstr und9 rfl rfl (by omega)) rfl rfl rfl ?_
    refine o_q (q_as (v_raw rfl)) rfl rfl rfl ?_
    refine o_nil ?_
    refine s_seq ?_
    refine s_region ?_
    refine o_q (q_mv (mvQ)) rfl rfl rfl ?_
    refine o_q (q_mv (mvQ)) rfl rfl rfl ?_
    refine o_q (q_nil rfl) rfl rfl rfl ?_
    refine o_q (q_fr fo141_0 rfl) rfl rfl rfl ?_
    refine o_q (q_ldm ag9 sz9 rfl mmQ rfl (v_raw rfl)) rfl rfl rfl ?_
    refine o_q (q_mv (v_raw rfl)) rfl rfl rfl ?_
    refine o_q (q_slslo und9 rfl rfl (by omega)) rfl rfl rfl ?_
    refine o_q (q_nil rfl) rfl rfl rfl ?_
    refine o_q (q_fr fo141_0 rfl) rfl rfl rfl ?_
    refine o_store rfl mmQ meQ rfl sz9 rfl (Nat.le_of_ble_eq_true rfl) rfl rfl ?_
    refine o_nil ?_
    refine s_seq ?_
    refine s_region ?_
    refine o_q (q_mv (v_raw rfl)) rfl rfl rfl ?_
    refine o_q (q_as (v_raw rfl)) rfl rfl rfl ?_
    refine o_nil ?_
    refine s_ret ?_
    refine s_end ?_
    have e1 : textF s e = ((numF 4 s e).2.1.extract 0 (numF 4 s e).1, (numF 4 s e).2.1.extract (numF 4 s e).1 (numF 4 s e).2.1.size, (numF 4 s e).2.2) := by unfold textF; rw [if_neg (by simpa using k1), if_neg (by omega), if_neg (by omega)]
    rw [e1]
    exact ⟨rfl, Mem.upd2_le hq⟩

def tk128 : Nat → Nat → Option Nat := fun _ _ => none
def pl128 : Nat → List PStep
 | 3 => [.q 0, .q 1, .q 2, .q 3, .q 4, .q 5, .q 6, .q 7, .q 8, .q 9, .q 10, .q 11]
 | _ => []
theorem cb128 : Tryd.f128.body.map (codeB Tryd.prog Tryd.f128.ntmps tk128 pl128) = some true := by kernel_rfl
theorem goes128 : goesB Tryd.prog 128 = true := by kernel_rfl

theorem idxB_cases (s : ByteArray) (c : UInt8) : (∃ n : Nat, idxB s c = n ∧ n < s.size) ∨ idxB s c = -1 := by
 unfold idxB
 cases h : (List.range s.size).find? fun i => s[i]! == c with
 | none => exact .inr rfl
 | some i => exact .inl ⟨i, rfl, List.mem_range.1 (List.mem_of_find?_eq_some h)⟩
/-- A text ahead of a star and behind it; whether there is one. -/
def cutF (s : ByteArray) : ByteArray × ByteArray × Bool := if 0 ≤ idxB s 42 then (s.extract 0 (idxB s 42).toNat, s.extract ((idxB s 42).toNat + 1) s.size, true) else (s, emp, false)
set_option maxHeartbeats 4000000 in
set_option maxRecDepth 20000 in
theorem snd128a (s : ByteArray) (n : Nat) (hi : idxB s 42 = n) (hlt : n < s.size) (hs : s.size < 2 ^ 62) (M : Mem) : SoundCall Tryd.prog 128 [str s, str star] M fun r M' => r = .tup [str (cutF s).1, str (cutF s).2.1, bool (cutF s).2.2] ∧ M' = M := by
 refine SoundCall.go tk128 pl128 mixed Tryd.func128 cb128 rfl (Nat.le_of_ble_eq_true rfl) ?_
 refine s_seq ?_
 refine s_region ?_
 refine o_q (q_as (v_raw rfl)) rfl rfl rfl ?_
 refine o_q (q_as (v_raw rfl)) rfl rfl rfl ?_
 refine o_q (q_as (v_raw rfl)) rfl rfl rfl ?_
 refine o_nil ?_
 refine s_seq ?_
 refine s_seq ?_
 refine s_region ?_
 refine o_q (q_mv (v_raw rfl)) rfl rfl rfl ?_
 refine o_q (q_mv (v_raw rfl)) rfl rfl rfl ?_
 refine o_call ((by have h := snd147 s M; rw [hi] at h; exact h)) goes147 (ac (v_raw rfl) (ac (v_raw rfl) ac_nil)) rfl ?_
 refine o_q (q_as (v_raw rfl)) rfl rfl rfl ?_
 refine o_nil ?_
 refine s_seq ?_
 refine s_region ?_
 refine o_q (q_mv (v_raw rfl)) rfl rfl rfl ?_
 refine o_q (q_geq rfl rfl) rfl rfl rfl ?_
 refine o_nil ?_
 refine s_then rfl (decide_eq_true (by omega)) ?_
 refine s_seq ?_
 refine s_draw rfl ?_
 refine d_q rfl (q_mv (v_raw rfl)) rfl rfl rfl ?_
 refine d_q rfl (q_mv (v_raw rfl)) rfl rfl rfl ?_
 refine d_q rfl (q_slstr und9 rfl rfl (by omega)) rfl rfl rfl ?_
 refine d_q rfl (q_mv (v_raw rfl)) rfl rfl rfl ?_
 refine d_q rfl (q_mv (v_raw rfl)) rfl rfl rfl ?_
 refine d_q rfl (q_mv (v_raw rfl)) rfl rfl rfl ?_
 refine d_q rfl (q_lens rfl und9 rfl) rfl rfl rfl ?_
 refine d_q rfl (q_add rfl rfl (wrap64 (by show _ ≤ (n : Int) + 1; omega) (by show (n : Int) + 1 < _; omega))) rfl rfl rfl ?_
 refine d_q rfl (q_slslo (n := n + 1) und9 rfl rfl (by omega)) rfl rfl rfl ?_
 refine d_q rfl (q_as (v_raw rfl)) rfl rfl rfl ?_
 refine d_q rfl (q_as (v_raw rfl)) rfl rfl rfl ?_
 refine d_q rfl (q_as (v_raw rfl)) rfl rfl rfl ?_
 refine d_nil ?_
 refine s_ret ?_
 refine s_code_ret ?_
 refine s_end ?_
 exact ret_many (.inl rfl) rfl (rl_t rfl (rl_t rfl (rl_t rfl rl_nil))) rfl ⟨by unfold cutF; rw [hi, if_pos (by omega)]; rfl, rfl⟩

set_option maxHeartbeats 4000000 in
set_option maxRecDepth 20000 in
theorem snd128b (s : ByteArray) (hi : idxB s 42 = -1) (hs : s.size < 2 ^ 62) (M : Mem) : SoundCall Tryd.prog 128 [str s, str star] M fun r M' => r = .tup [str (cutF s).1, str (cutF s).2.1, bool (cutF s).2.2] ∧ M' = M := by
 refine SoundCall.go tk128 pl128 mixed Tryd.func128 cb128 rfl (Nat.le_of_ble_eq_true rfl) ?_
 refine s_seq ?_
 refine s_region ?_
 refine o_q (q_as (v_raw rfl)) rfl rfl rfl ?_
 refine o_q (q_as (v_raw rfl)) rfl rfl rfl ?_
 refine o_q (q_as (v_raw rfl)) rfl rfl rfl ?_
 refine o_nil ?_
 refine s_seq ?_
 refine s_seq ?_
 refine s_region ?_
 refine o_q (q_mv (v_raw rfl)) rfl rfl rfl ?_
 refine o_q (q_mv (v_raw rfl)) rfl rfl rfl ?_
 refine o_call ((by have h := snd147 s M; rw [hi] at h; exact h)) goes147 (ac (v_raw rfl) (ac (v_raw rfl) ac_nil)) rfl ?_
 refine o_q (q_as (v_raw rfl)) rfl rfl rfl ?_
 refine o_nil ?_
 refine s_seq ?_
 refine s_region ?_
 refine o_q (q_mv (v_raw rfl)) rfl rfl rfl ?_
 refine o_q (q_geq rfl rfl) rfl rfl rfl ?_
 refine o_nil ?_
 refine s_else rfl rfl ?_
 refine s_skip ?_
 refine s_seq ?_
 refine s_region ?_
 refine o_q (q_mv (v_raw rfl)) rfl rfl rfl ?_
 refine o_q (q_as (v_raw rfl)) rfl rfl rfl ?_
 refine o_q (q_as (v_raw rfl)) rfl rfl rfl ?_
 refine o_q (q_as (v_raw rfl)) rfl rfl rfl ?_
 refine o_nil ?_
 refine s_ret ?_
 refine s_end ?_
 exact ret_many (.inl rfl) rfl (rl_t rfl (rl_t rfl (rl_t rfl rl_nil))) rfl ⟨by unfold cutF; rw [hi]; rfl, rfl⟩

def tk101 : Nat → Nat → Option Nat := fun _ _ => none
def pl101 : Nat → List PStep := fun _ => []
theorem cb101 : Tryd.f101.body.map (codeB Tryd.prog Tryd.f101.ntmps tk101 pl101) = some true := by kernel_rfl
theorem goes101 : goesB Tryd.prog 101 = true := by kernel_rfl
theorem cut128 (s : ByteArray) (hs : s.size < 2 ^ 62) (M : Mem) : SoundCall Tryd.prog 128 [str s, str star] M fun r M' => r = .tup [str (cutF s).1, str (cutF s).2.1, bool (cutF s).2.2] ∧ M' = M := by
 rcases idxB_cases s 42 with ⟨n, h1, h2⟩ | h1
 ·exact snd128a s n h1 h2 hs M
 ·exact snd128b s h1 hs M
set_option maxHeartbeats 4000000 in
set_option maxRecDepth 20000 in
theorem snd101 (s : ByteArray) (hs : s.size < 2 ^ 62) (M : Mem) : SoundCall Tryd.prog 101 [str s, str star] M fun r M' => r = .tup [str (cutF s).1, str (cutF s).2.1, bool (cutF s).2.2] ∧ M' = M := by
 refine SoundCall.go tk101 pl101 mixed Tryd.func101 cb101 rfl (Nat.le_of_ble_eq_true rfl) ?_
 refine s_seq ?_
 refine s_region ?_
 refine o_q (q_as (v_raw rfl)) rfl rfl rfl ?_
 refine o_q (q_as (v_raw rfl)) rfl rfl rfl ?_
 refine o_q (q_as (v_raw rfl)) rfl rfl rfl ?_
 refine o_nil ?_
 refine s_seq ?_
 refine s_region ?_
 refine o_q (q_mv (v_raw rfl)) rfl rfl rfl ?_
 refine o_q (q_mv (v_raw rfl)) rfl rfl rfl ?_
 refine o_call ((cut128 s hs M)) goes128 (ac (v_raw rfl) (ac (v_raw rfl) ac_nil)) rfl ?_
 refine o_q (q_ext rfl rfl (v_raw rfl)) rfl rfl rfl ?_
 refine o_q (q_ext rfl rfl (v_raw rfl)) rfl rfl rfl ?_
 refine o_q (q_ext rfl rfl (v_raw rfl)) rfl rfl rfl ?_
 refine o_q (q_as (v_raw rfl)) rfl rfl rfl ?_
 refine o_q (q_as (v_raw rfl)) rfl rfl rfl ?_
 refine o_q (q_as (v_raw rfl)) rfl rfl rfl ?_
 refine o_nil ?_
 refine s_ret ?_
 refine s_end ?_
 exact ret_many (.inl rfl) rfl (rl_t rfl (rl_t rfl (rl_t rfl rl_nil))) rfl ⟨rfl, rfl⟩

def tk69 : Nat → Nat → Option Nat := fun _ _ => none
def pl69 : Nat → List PStep := fun _ => []
theorem cb69 : Tryd.f69.body.map (codeB Tryd.prog Tryd.f69.ntmps tk69 pl69) = some true := by kernel_rfl
theorem goes69 : goesB Tryd.prog 69 = true := by kernel_rfl

theorem piece_u8 {s : ByteArray} {rest : List AVal} {j o : Nat} (h : j < s.size) (ho : o = j) : piece false (u8l s ++ rest) o 1 = some (.raw (.int .u8 (s.data[j]'h).toNat)) := by
 subst ho
 simpa [piece] using u8l_get (s := s) (j := o) h
theorem all_succ {s : ByteArray} {i : Nat} {p : UInt8 → Bool} (h : (s.data.toList.take i).all p = true) (hi : i < s.size) (hp : p (s.data[i]'hi) = true) : (s.data.toList.take (i + 1)).all p = true := by
 have hl : i < s.data.toList.length := by rw [Array.length_toList]; exact hi
 rw [List.take_succ_eq_append_getElem hl, List.all_append, h, Array.getElem_toList]
 simpa using hp
theorem all_not {s : ByteArray} {i : Nat} {p : UInt8 → Bool} (hi : i < s.size) (hp : p (s.data[i]'hi) = false) : s.data.toList.all p = false := by
 rw [List.all_eq_false]
 exact ⟨s.data[i]'hi, Array.mem_toList_iff.2 (Array.getElem_mem _), by rw [hp]; decide⟩
/-- Whether a text is a shape. -/
def letterB (c : UInt8) : Bool := decide (0 ≤ idxB letters c)
def rightS (s : ByteArray) : Bool := ((cutF s).1 ++ (cutF s).2.1).data.toList.all letterB && (!(cutF s).2.2 || !decide ((cutF s).2.1 = emp))
theorem cutF_size (s : ByteArray) : ((cutF s).1 ++ (cutF s).2.1).size ≤ s.size := by
 unfold cutF
 split
 ·rename_i h
  rcases idxB_cases s 42 with ⟨n, h1, h2⟩ | h1
  ·rw [h1]; simp; omega
  ·omega
 ·show (s ++ ByteArray.empty).size ≤ _
  rw [ByteArray.size_append]; exact Nat.le_refl _
set_option maxHeartbeats 4000000 in
set_option maxRecDepth 20000 in
theorem snd69 (s : ByteArray) (hs : s.size < 2 ^ 62) (M : Mem) : SoundCall Tryd.prog 69 [str s] M fun r M' => r = bool (rightS s) ∧ M.le M' := by
 have hcs := cutF_size s
 have hcs2 := hcs
 rw [ByteArray.size_append] at hcs2
 refine SoundCall.go tk69 pl69 mixed Tryd.func69 cb69 rfl (Nat.le_of_ble_eq_true rfl) ?_
 refine s_seq ?_
 refine s_region ?_
 refine o_q (q_as (v_raw rfl)) rfl rfl rfl ?_
 refine o_nil ?_
 refine s_seq ?_
 refine s_region ?_
 refine o_q (q_mv (v_raw rfl)) rfl rfl rfl ?_
 refine o_call ((snd101 s hs M)) goes101 (ac (v_raw rfl) (ac (v_raw rfl) ac_nil)) rfl ?_
 refine o_q (q_mv (v_tup rfl)) rfl rfl rfl ?_
 refine o_q (q_ext rfl rfl (v_raw rfl)) rfl rfl rfl ?_
 refine o_q (q_ext rfl rfl (v_raw rfl)) rfl rfl rfl ?_
 refine o_q (q_ext rfl rfl (v_raw rfl)) rfl rfl rfl ?_
 refine o_q (q_as (v_raw rfl)) rfl rfl rfl ?_
 refine o_q (q_as (v_raw rfl)) rfl rfl rfl ?_
 refine o_q (q_as (v_raw rfl)) rfl rfl rfl ?_
 refine o_nil ?_
 refine s_seq ?_
 refine s_seq ?_
 refine s_region ?_
 refine o_q (q_mv (v_raw rfl)) rfl rfl rfl ?_
 refine o_q (q_mv (v_raw rfl)) rfl rfl rfl ?_
 refine o_q (q_sadd rfl rfl (by omega)) rfl rfl rfl ?_
 refine o_s2b s2b9_125 rfl (fun B1 C1 hB1 hC1 => ?_)
 have m1 : M B1 = none := by have h := hB1; repeat (first | exact h | exact Mem.none_of_le hle h | replace h := (Mem.upd_none h).2)
 refine o_q (q_lenr rfl und125 rfl) rfl rfl rfl ?_
 refine o_q (q_mv (v_raw rfl)) rfl rfl rfl ?_
 refine o_nil ?_
 refine s_block ?_
 refine s_loop (fun m S => ∃ T, ∃ M' : Mem, ∃ i : Nat, S = ⟨setT (setT (setT (setT (setT (setT T 3 (str (cutF s).1)) 4 (str (cutF s).2.1)) 5 (bool (cutF s).2.2)) 17 (.raw (.slice (some ⟨B1, 0, none⟩) ((cutF s).1 ++ (cutF s).2.1).size C1))) 18 (int ((cutF s).1 ++ (cutF s).2.1).size)) 19 (int i), M'⟩ ∧ M.le M' ∧ M' B1 = some (.cells (u8l ((cutF s).1 ++ (cutF s).2.1) ++ List.replicate (C1 - ((cutF s).1 ++ (cutF s).2.1).size) (.raw (.int .u8 0)))) ∧ i ≤ ((cutF s).1 ++ (cutF s).2.1).size ∧ (((cutF s).1 ++ (cutF s).2.1).data.toList.take i).all letterB = true ∧ m = ((cutF s).1 ++ (cutF s).2.1).size - i) ((cutF s).1 ++ (cutF s).2.1).size ?_ ?_
 ·exact ⟨_, _, 0, St.mkT (kp (kp (kp (kp (kp (kp rfl rfl) rfl) rfl) rfl) rfl) rfl).symm, (by repeat first | exact hle | exact Mem.le_refl M | assumption | exact Mem.none_of_le hle (by assumption) | refine Mem.le_upd ?_ ?_), mmQ, by omega, rfl, rfl⟩
 rintro m S ⟨T, M', i, rfl, hle, bm1, hi, hal, rfl⟩
 refine s_seq ?_
 refine s_region ?_
 refine o_q (q_lss rfl rfl) rfl rfl rfl ?_
 refine o_nil ?_
 refine s_seq ?_
 refine s_cond rfl (fun h1 => ?_) (fun h1 => ?_)
 ·have k1 := h1; try simp only [decide_eq_true_eq, decide_eq_false_iff_not, Bool.not_eq_true', Bool.not_eq_false', Bool.not_true, Bool.not_false, List.length_map, Decidable.not_not] at k1
  have hi2 : i < ((cutF s).1 ++ (cutF s).2.1).size := by omega
  refine s_skip ?_
  refine s_seq ?_
  refine s_block ?_
  refine s_seq ?_
  refine s_region ?_
  refine o_q (q_idxr und125 sz5 rfl rfl (by omega) (by omega)) rfl rfl rfl ?_
  refine o_q (q_ldm ag5 sz5 rfl mmQ (piece_u8 hi2 (by omega)) (v_raw rfl)) rfl rfl rfl ?_
  refine o_q (q_as (v_raw rfl)) rfl rfl rfl ?_
  refine o_nil ?_
  refine s_seq ?_
  refine s_region ?_
  refine o_q (q_mv (v_raw rfl)) rfl rfl rfl ?_
  refine o_call ((snd70 letters (((cutF s).1 ++ (cutF s).2.1).data[i]'hi2) _)) goes70 (ac (v_raw rfl) (ac (v_raw rfl) ac_nil)) rfl ?_
  refine o_q (q_lss rfl rfl) rfl rfl rfl ?_
  refine o_nil ?_
  refine s_cond rfl (fun h2 => ?_) (fun h2 => ?_)
  ·have k2 := h2; try simp only [decide_eq_true_eq, decide_eq_false_iff_not, Bool.not_eq_true', Bool.not_eq_false', Bool.not_true, Bool.not_false, List.length_map, Decidable.not_not] at k2
   refine s_seq ?_
   refine s_region ?_
   refine o_q (q_as (v_raw rfl)) rfl rfl rfl ?_
   refine o_nil ?_
   refine s_ret ?_
   refine s_blk_ret ?_
   refine s_code_ret ?_
   refine s_inv_ret ?_
   refine s_blk_ret ?_
   refine s_code_ret ?_
   refine s_end ?_
   refine ⟨congrArg (fun b => AVal.raw (.bool b)) ?_, (by repeat first | exact hle | exact Mem.le_refl M | assumption | exact Mem.none_of_le hle (by assumption) | refine Mem.le_upd ?_ ?_)⟩
   unfold rightS
   rw [all_not hi2 (by unfold letterB; exact decide_eq_false (by omega))]; rfl
  ·have k2 := h2; try simp only [decide_eq_true_eq, decide_eq_false_iff_not, Bool.not_eq_true', Bool.not_eq_false', Bool.not_true, Bool.not_false, List.length_map, Decidable.not_not] at k2
   refine s_skip ?_
   refine s_blk_normal ?_
   refine s_region ?_
   refine o_q (q_add rfl rfl (wrap64 (by omega) (by omega))) rfl rfl rfl ?_
   refine o_q (q_mv (v_raw rfl)) rfl rfl rfl ?_
   refine o_nil ?_
   refine s_inv ?_
   exact ⟨((cutF s).1 ++ (cutF s).2.1).size - (i + 1), by omega, _, _, i + 1, St.mkT (kp (kp (kp (kp (kp (kp rfl rfl) rfl) rfl) rfl) rfl) rfl).symm, (by repeat first | exact hle | exact Mem.le_refl M | assumption | exact Mem.none_of_le hle (by assumption) | refine Mem.le_upd ?_ ?_), mmQ, by omega, all_succ hal hi2 (by unfold letterB; exact decide_eq_true (by omega)), rfl⟩
 ·have k1 := h1; try simp only [decide_eq_true_eq, decide_eq_false_iff_not, Bool.not_eq_true', Bool.not_eq_false', Bool.not_true, Bool.not_false, List.length_map, Decidable.not_not] at k1
  refine s_exit ?_
  refine s_code_exit ?_
  refine s_inv_exit ?_
  refine s_blk_here ?_
  refine s_seq ?_
  refine s_region ?_
  refine o_q (q_mv (v_raw rfl)) rfl rfl rfl ?_
  refine o_q (q_not rfl) rfl rfl rfl ?_
  refine o_q (q_mv (v_raw rfl)) rfl rfl rfl ?_
  refine o_cases (want := false) (j := 2) rfl rfl (fun h3 => ?_) (fun h3 => ?_)
  ·have k3 := h3; try simp only [decide_eq_true_eq, decide_eq_false_iff_not, Bool.not_eq_true', Bool.not_eq_false', Bool.not_true, Bool.not_false, List.length_map, Decidable.not_not] at k3
   refine o_yes rfl rfl rfl h3 ?_
   refine o_q (q_mv (v_raw rfl)) rfl rfl rfl ?_
   refine o_yes rfl rfl rfl h3 ?_
   refine o_q (q_sneq rfl rfl) rfl rfl rfl ?_
   refine o_q (q_pick_c (t := false) rfl h3 (v_raw rfl)) rfl rfl rfl ?_
   refine o_q (q_as (v_raw rfl)) rfl rfl rfl ?_
   refine o_nil ?_
   refine s_ret ?_
   refine s_end ?_
   have hal2 : ((cutF s).1 ++ (cutF s).2.1).data.toList.all letterB = true := by
    have e : i = ((cutF s).1 ++ (cutF s).2.1).size := by omega
    rw [List.take_of_length_le (by rw [Array.length_toList, e]; exact Nat.le_refl _)] at hal; exact hal
   refine ⟨congrArg (fun b => AVal.raw (.bool b)) ?_, (by repeat first | exact hle | exact Mem.le_refl M | assumption | exact Mem.none_of_le hle (by assumption) | refine Mem.le_upd ?_ ?_)⟩
   unfold rightS
   rw [hal2]
   simp_all [emp] <;> congr
  ·have k3 := h3; try simp only [decide_eq_true_eq, decide_eq_false_iff_not, Bool.not_eq_true', Bool.not_eq_false', Bool.not_true, Bool.not_false, List.length_map, Decidable.not_not] at k3
   refine o_no rfl rfl rfl rfl h3 ?_
   refine o_no rfl rfl rfl rfl h3 ?_
   refine o_q (q_pick_c (t := true) rfl h3 (v_raw rfl)) rfl rfl rfl ?_
   refine o_q (q_as (v_raw rfl)) rfl rfl rfl ?_
   refine o_nil ?_
   refine s_ret ?_
   refine s_end ?_
   have hal2 : ((cutF s).1 ++ (cutF s).2.1).data.toList.all letterB = true := by
    have e : i = ((cutF s).1 ++ (cutF s).2.1).size := by omega
    rw [List.take_of_length_le (by rw [Array.length_toList, e]; exact Nat.le_refl _)] at hal; exact hal
   refine ⟨congrArg (fun b => AVal.raw (.bool b)) ?_, (by repeat first | exact hle | exact Mem.le_refl M | assumption | exact Mem.none_of_le hle (by assumption) | refine Mem.le_upd ?_ ?_)⟩
   unfold rightS
   rw [hal2]
   simp_all [emp] <;> congr

def tk45 : Nat → Nat → Option Nat
 | 5, 0 => some 0
 | 22, 0 => some 0
 | 22, 4 => some 0
 | _, _ => none
def pl45 : Nat → List PStep
 | 21 => [.q 0, .q 1, .q 2, .q 3]
 | _ => []
theorem cb45 : Tryd.f45.body.map (codeB Tryd.prog Tryd.f45.ntmps tk45 pl45) = some true := by kernel_rfl
theorem goes45 : goesB Tryd.prog 45 = true := by kernel_rfl

structure Itm where
 kind : Int
 n : Nat
 s : ByteArray
 deriving Inhabited
def encIt (x : Itm) : AVal := .agg [int x.kind, u64 x.n, str x.s]
theorem elsIt {l : List Itm} : Els 3 (l.map encIt) := Els.map fun _ => ⟨rfl, rfl⟩
abbrev szO (e : TypeId) (fr : Nat × Nat) : AObj := .it (.cells #[.int .i64 0, .int .i64 1, .int .i64 4, .int .i64 8, .int .i64 0] e fr)
/-- How many bytes a number of a kind has. -/
def szK (k : Int) : Nat := if k = 1 then 1 else if k = 2 then 4 else if k = 3 then 8 else 0
def kindB (c : UInt8) : Int := 1 + idxB letters c
/-- An item that is read, by a letter: it, what is left, the error. -/
def itemF (c : UInt8) (s : ByteArray) : Itm × ByteArray × Int :=
 if kindB c = 4 then (⟨4, 0, (textF s 0).1⟩, (textF s 0).2) else (⟨kindB c, (numF (szK (kindB c)) s 0).1, emp⟩, (numF (szK (kindB c)) s 0).2)
def decL (sh : ByteArray) (st : Int) : Nat → Int → ByteArray → List Itm → List Itm × Int
 | 0, _, _, _ => ([], 0)
 | f + 1, k, s, out =>
  let k1 := if k = sh.size ∧ 0 ≤ st then st else k
  if k1 = st ∧ 0 ≤ st ∧ s = emp then (out, 0) else
  let k2 := if k1 = st ∧ 0 ≤ st then k1 + 1 else k1
  if k2 < sh.size then
   if out.length = 1000 then ([], 3) else
   let r := itemF (sh.data[k2.toNat]!) s
   if r.2.2 ≠ 0 then ([], r.2.2) else decL sh st f (k2 + 1) r.2.1 (out ++ [r.1])
  else if s ≠ emp then ([], 10) else (out, 0)
theorem decL_succ (sh : ByteArray) (st : Int) (f : Nat) (k : Int) (s : ByteArray) (out : List Itm) : decL sh st (f + 1) k s out =
  if (if k = sh.size ∧ 0 ≤ st then st else k) = st ∧ 0 ≤ st ∧ s = emp then (out, 0) else
  if (if (if k = sh.size ∧ 0 ≤ st then st else k) = st ∧ 0 ≤ st then (if k = sh.size ∧ 0 ≤ st then st else k) + 1 else (if k = sh.size ∧ 0 ≤ st then st else k)) < sh.size then
   if out.length = 1000 then ([], 3) else
   if (itemF (sh.data[(if (if k = sh.size ∧ 0 ≤ st then st else k) = st ∧ 0 ≤ st then (if k = sh.size ∧ 0 ≤ st then st else k) + 1 else (if k = sh.size ∧ 0 ≤ st then st else k)).toNat]!) s).2.2 ≠ 0 then ([], (itemF (sh.data[(if (if k = sh.size ∧ 0 ≤ st then st else k) = st ∧ 0 ≤ st then (if k = sh.size ∧ 0 ≤ st then st else k) + 1 else (if k = sh.size ∧ 0 ≤ st then st else k)).toNat]!) s).2.2)
   else decL sh st f ((if (if k = sh.size ∧ 0 ≤ st then st else k) = st ∧ 0 ≤ st then (if k = sh.size ∧ 0 ≤ st then st else k) + 1 else (if k = sh.size ∧ 0 ≤ st then st else k)) + 1) (itemF (sh.data[(if (if k = sh.size ∧ 0 ≤ st then st else k) = st ∧ 0 ≤ st then (if k = sh.size ∧ 0 ≤ st then st else k) + 1 else (if k = sh.size ∧ 0 ≤ st then st else k)).toNat]!) s).2.1 (out ++ [(itemF (sh.data[(if (if k = sh.size ∧ 0 ≤ st then st else k) = st ∧ 0 ≤ st then (if k = sh.size ∧ 0 ≤ st then st else k) + 1 else (if k = sh.size ∧ 0 ≤ st then st else k)).toNat]!) s).1])
  else if s ≠ emp then ([], 10) else (out, 0) := rfl
def decF (sh s : ByteArray) : List Itm × Int := if rightS sh then decL sh (idxB sh 42) 1001 0 s [] else ([], 1)

theorem idx_letters (c : UInt8) : -1 ≤ idxB letters c ∧ idxB letters c ≤ 3 := by
 rcases idxB_cases letters c with ⟨n, h1, h2⟩ | h1
 ·have h3 : letters.size = 4 := rfl
  omega
 ·omega
theorem gpiece {k : Int} {o : Nat} (h0 : 0 ≤ k) (h1 : k < 4) (ho : o = k.toNat) : piece false ((#[Value.int .i64 0, .int .i64 1, .int .i64 4, .int .i64 8, .int .i64 0] : Array Value).toList.map AVal.raw) o 1 = some (int (szK k : Nat)) := by
 subst ho
 have h : k = 0 ∨ k = 1 ∨ k = 2 ∨ k = 3 := by omega
 rcases h with rfl | rfl | rfl | rfl <;> rfl
theorem szK_le (k : Int) : szK k ≤ 8 := by unfold szK; split <;> (try split) <;> (try split) <;> omega
theorem itemF_size (c : UInt8) (s : ByteArray) : (itemF c s).2.1.size ≤ s.size := by
 unfold itemF
 split
 ·exact textF_size s 0
 ·exact numF_size _ s 0
set_option maxHeartbeats 4000000 in
set_option maxRecDepth 20000 in
theorem snd45 (sh s : ByteArray) (ge : TypeId) (gf : Nat × Nat) (M : Mem) (hG : M 0 = some (szO ge gf)) (hsh : sh.size < 2 ^ 62) (hs : s.size < 2 ^ 62) : SoundCall Tryd.prog 45 [str sh, str s] M fun r M' => (∃ o, r = .tup [.sl ((decF sh s).1.map encIt) o, int (decF sh s).2]) ∧ M.le M' := by
 obtain ⟨N0, hN0⟩ : ∃ N0, N0 = 1001 := ⟨_, rfl⟩
 obtain ⟨st, hst⟩ : ∃ st, st = idxB sh 42 := ⟨_, rfl⟩
 have hsb : -1 ≤ st ∧ st < (sh.size : Int) := by
  rcases idxB_cases sh 42 with ⟨n, c1, c2⟩ | c1
  ·omega
  ·omega
 refine SoundCall.go tk45 pl45 mixed Tryd.func45 cb45 rfl (Nat.le_of_ble_eq_true rfl) ?_
 refine s_seq ?_
 refine s_region ?_
 refine o_q (q_as (v_sl rfl)) rfl rfl rfl ?_
 refine o_q (q_as (v_raw rfl)) rfl rfl rfl ?_
 refine o_nil ?_
 apply s_scopel 0 (fun m S => ∃ T, ∃ M' : Mem, ∃ b : Nat, ∃ k : Int, ∃ s' : ByteArray, ∃ out : List Itm, S = ⟨setT (setT (setT (setT (setT T 0 (str sh)) 6 (int st)) 7 (ptr b)) 8 (.sl (out.map encIt) true)) 9 (int k), M'⟩ ∧ M.le M' ∧ M b = none ∧ M' b = some (rdC s' 0) ∧ s'.size ≤ s.size ∧ out.length ≤ 1000 ∧ m + out.length = 1001 ∧ 0 ≤ k ∧ k ≤ sh.size ∧ decF sh s = decL sh st m k s' out) (N0) rfl
 ·intro N S hY
  refine aFrom_right rfl ?_
  refine aFrom_right rfl ?_
  refine aFrom_right rfl ?_
  refine aFrom_right rfl ?_
  refine aFrom_right rfl ?_
  refine aFrom_left rfl ?_
  refine aFrom_here ?_
  exact hY
 ·intro N m S hmN
  rintro ⟨T, M', b, k, s', out, rfl, hle, hb0, hb, hss, ho, hm, hk0, hkl, hd⟩
  obtain ⟨f, rfl⟩ : ∃ f, m = f + 1 := ⟨m - 1, by omega⟩
  clear hst hN0
  refine s_seq ?_
  refine s_seq ?_
  refine s_cut (fun S => ∃ T, S = ⟨setT (setT (setT (setT (setT (setT T 0 (str sh)) 6 (int st)) 7 (ptr b)) 8 (.sl (out.map encIt) true)) 9 (int k)) 25 (bool (decide (k = sh.size ∧ 0 ≤ st))), M'⟩) ?_ ?_
  ·skip
   refine s_region ?_
   refine o_q (q_mv (v_raw rfl)) rfl rfl rfl ?_
   refine o_q (q_mv (v_raw rfl)) rfl rfl rfl ?_
   refine o_q (q_lens rfl und9 rfl) rfl rfl rfl ?_
   refine o_q (q_eql rfl rfl) rfl rfl rfl ?_
   refine o_q (q_mv (v_raw rfl)) rfl rfl rfl ?_
   refine o_cases (want := true) (j := 4) rfl rfl (fun h1 => ?_) (fun h1 => ?_)
   ·have k1 := h1; try simp only [decide_eq_true_eq, decide_eq_false_iff_not, Bool.not_eq_true', Bool.not_eq_false', Bool.not_true, Bool.not_false, List.length_map, Decidable.not_not] at k1
    refine o_yes rfl rfl rfl h1 ?_
    refine o_q (q_mv (v_raw rfl)) rfl rfl rfl ?_
    refine o_yes rfl rfl rfl h1 ?_
    refine o_q (q_geq rfl rfl) rfl rfl rfl ?_
    refine o_q (q_pick_c (t := true) rfl h1 (v_raw rfl)) rfl rfl rfl ?_
    refine o_nil ?_
    refine s_inv ?_
    exact ⟨_, St.mkT (kp (kp (kp (kp (kp (kp rfl rfl) rfl) rfl) rfl) rfl) (congrArg (fun b => AVal.raw (.bool b)) (by simp_all))).symm⟩
   ·have k1 := h1; try simp only [decide_eq_true_eq, decide_eq_false_iff_not, Bool.not_eq_true', Bool.not_eq_false', Bool.not_true, Bool.not_false, List.length_map, Decidable.not_not] at k1
    refine o_no rfl rfl rfl rfl h1 ?_
    refine o_no rfl rfl rfl rfl h1 ?_
    refine o_q (q_pick_c (t := false) rfl h1 (v_raw rfl)) rfl rfl rfl ?_
    refine o_nil ?_
    refine s_inv ?_
    exact ⟨_, St.mkT (kp (kp (kp (kp (kp (kp rfl rfl) rfl) rfl) rfl) rfl) (congrArg (fun b => AVal.raw (.bool b)) (by simp_all))).symm⟩
  rintro S ⟨T, rfl⟩
  refine s_cut (fun S => ∃ T, S = ⟨setT (setT (setT (setT (setT T 0 (str sh)) 6 (int st)) 7 (ptr b)) 8 (.sl (out.map encIt) true)) 9 (int (if k = sh.size ∧ 0 ≤ st then st else k)), M'⟩) ?_ ?_
  ·skip
   refine s_cond rfl (fun h2 => ?_) (fun h2 => ?_)
   ·have k2 := h2; try simp only [decide_eq_true_eq, decide_eq_false_iff_not, Bool.not_eq_true', Bool.not_eq_false', Bool.not_true, Bool.not_false, List.length_map, Decidable.not_not] at k2
    refine s_region ?_
    refine o_q (q_mv (v_raw rfl)) rfl rfl rfl ?_
    refine o_q (q_as (v_raw rfl)) rfl rfl rfl ?_
    refine o_nil ?_
    refine s_inv ?_
    exact ⟨_, St.mkT (kp (kp (kp (kp (kp rfl rfl) rfl) rfl) rfl) (congrArg int (by first | exact (if_pos (by simpa using h2)).symm | exact (if_neg (by simpa using h2)).symm))).symm⟩
   ·have k2 := h2; try simp only [decide_eq_true_eq, decide_eq_false_iff_not, Bool.not_eq_true', Bool.not_eq_false', Bool.not_true, Bool.not_false, List.length_map, Decidable.not_not] at k2
    refine s_skip ?_
    refine s_inv ?_
    exact ⟨_, St.mkT (kp (kp (kp (kp (kp rfl rfl) rfl) rfl) rfl) (congrArg int (by first | exact (if_pos (by simpa using h2)).symm | exact (if_neg (by simpa using h2)).symm))).symm⟩
  rintro S ⟨T, rfl⟩
  obtain ⟨k1, hk1⟩ : ∃ k1, k1 = (if k = sh.size ∧ 0 ≤ st then st else k) := ⟨_, rfl⟩
  rw [← hk1]
  have hk1b : 0 ≤ k1 ∧ k1 ≤ sh.size := by rw [hk1]; split <;> omega
  refine s_seq ?_
  refine s_seq ?_
  refine s_cut (fun S => ∃ T, S = ⟨setT (setT (setT (setT (setT (setT T 0 (str sh)) 6 (int st)) 7 (ptr b)) 8 (.sl (out.map encIt) true)) 9 (int k1)) 33 (bool (decide (k1 = st ∧ 0 ≤ st))), M'⟩) ?_ ?_
  ·skip
   refine s_region ?_
   refine o_q (q_mv (v_raw rfl)) rfl rfl rfl ?_
   refine o_q (q_mv (v_raw rfl)) rfl rfl rfl ?_
   refine o_q (q_eql rfl rfl) rfl rfl rfl ?_
   refine o_q (q_mv (v_raw rfl)) rfl rfl rfl ?_
   refine o_cases (want := true) (j := 3) rfl rfl (fun h3 => ?_) (fun h3 => ?_)
   ·have k3 := h3; try simp only [decide_eq_true_eq, decide_eq_false_iff_not, Bool.not_eq_true', Bool.not_eq_false', Bool.not_true, Bool.not_false, List.length_map, Decidable.not_not] at k3
    refine o_yes rfl rfl rfl h3 ?_
    refine o_q (q_mv (v_raw rfl)) rfl rfl rfl ?_
    refine o_yes rfl rfl rfl h3 ?_
    refine o_q (q_geq rfl rfl) rfl rfl rfl ?_
    refine o_q (q_pick_c (t := true) rfl h3 (v_raw rfl)) rfl rfl rfl ?_
    refine o_nil ?_
    refine s_inv ?_
    exact ⟨_, St.mkT (kp (kp (kp (kp (kp (kp rfl rfl) rfl) rfl) rfl) rfl) (congrArg (fun b => AVal.raw (.bool b)) (by simp_all))).symm⟩
   ·have k3 := h3; try simp only [decide_eq_true_eq, decide_eq_false_iff_not, Bool.not_eq_true', Bool.not_eq_false', Bool.not_true, Bool.not_false, List.length_map, Decidable.not_not] at k3
    refine o_no rfl rfl rfl rfl h3 ?_
    refine o_no rfl rfl rfl rfl h3 ?_
    refine o_q (q_pick_c (t := false) rfl h3 (v_raw rfl)) rfl rfl rfl ?_
    refine o_nil ?_
    refine s_inv ?_
    exact ⟨_, St.mkT (kp (kp (kp (kp (kp (kp rfl rfl) rfl) rfl) rfl) rfl) (congrArg (fun b => AVal.raw (.bool b)) (by simp_all))).symm⟩
  rintro S ⟨T, rfl⟩
  refine s_cut (fun S => ∃ T, S = ⟨setT (setT (setT (setT (setT T 0 (str sh)) 6 (int st)) 7 (ptr b)) 8 (.sl (out.map encIt) true)) 9 (int (if k1 = st ∧ 0 ≤ st then k1 + 1 else k1)), M'⟩ ∧ ¬ (k1 = st ∧ 0 ≤ st ∧ s' = emp)) ?_ ?_
  ·skip
   refine s_cond rfl (fun h4 => ?_) (fun h4 => ?_)
   ·have k4 := h4; try simp only [decide_eq_true_eq, decide_eq_false_iff_not, Bool.not_eq_true', Bool.not_eq_false', Bool.not_true, Bool.not_false, List.length_map, Decidable.not_not] at k4
    refine s_seq ?_
    refine s_seq ?_
    refine s_region ?_
    refine o_q (q_fr fo141_0 rfl) rfl rfl rfl ?_
    refine o_q (q_ldm ag9 sz9 rfl mmQ rfl (v_raw rfl)) rfl rfl rfl ?_
    refine o_q (q_seql rfl rfl) rfl rfl rfl ?_
    refine o_nil ?_
    refine s_cond rfl (fun h5 => ?_) (fun h5 => ?_)
    ·have k5 := h5; try simp only [decide_eq_true_eq, decide_eq_false_iff_not, Bool.not_eq_true', Bool.not_eq_false', Bool.not_true, Bool.not_false, List.length_map, Decidable.not_not] at k5
     refine s_seq ?_
     refine s_region ?_
     refine o_q (q_mv (v_sl rfl)) rfl rfl rfl ?_
     refine o_q (q_as (v_sl rfl)) rfl rfl rfl ?_
     refine o_q (q_as (v_raw rfl)) rfl rfl rfl ?_
     refine o_nil ?_
     refine s_ret ?_
     refine s_code_ret ?_
     refine s_inv_ret ?_
     refine s_code_ret ?_
     refine s_scj_ret ?_
     refine s_end ?_
     have e1 : decL sh st (f + 1) k s' out = (out, 0) := by
      rw [decL_succ, ← hk1, if_pos (by simp_all [emp])]
     exact ret_many (.inl rfl) rfl (rl_t rfl (rl_t rfl rl_nil)) rfl ⟨⟨_, by rw [hd, e1]; rfl⟩, (by repeat first | exact hle | exact Mem.le_refl M | assumption | exact Mem.none_of_le hle (by assumption) | refine Mem.le_upd ?_ ?_)⟩
    ·have k5 := h5; try simp only [decide_eq_true_eq, decide_eq_false_iff_not, Bool.not_eq_true', Bool.not_eq_false', Bool.not_true, Bool.not_false, List.length_map, Decidable.not_not] at k5
     refine s_skip ?_
     refine s_region ?_
     refine o_q (q_mv (v_raw rfl)) rfl rfl rfl ?_
     refine o_q (q_add rfl rfl (wrap64 (by omega) (by omega))) rfl rfl rfl ?_
     refine o_q (q_as (v_raw rfl)) rfl rfl rfl ?_
     refine o_nil ?_
     refine s_inv ?_
     exact ⟨_, St.mkT (kp (kp (kp (kp (kp rfl rfl) rfl) rfl) rfl) (congrArg int (by first | exact (if_pos (by simpa using h4)).symm | exact (if_neg (by simpa using h4)).symm))).symm, (by first | exact fun h => k5 h.2.2 | exact fun h => absurd (And.intro h.1 h.2.1) (by simpa using h4))⟩
   ·have k4 := h4; try simp only [decide_eq_true_eq, decide_eq_false_iff_not, Bool.not_eq_true', Bool.not_eq_false', Bool.not_true, Bool.not_false, List.length_map, Decidable.not_not] at k4
    refine s_skip ?_
    refine s_inv ?_
    exact ⟨_, St.mkT (kp (kp (kp (kp (kp rfl rfl) rfl) rfl) rfl) (congrArg int (by first | exact (if_pos (by simpa using h4)).symm | exact (if_neg (by simpa using h4)).symm))).symm, (by first | exact fun h => k5 h.2.2 | exact fun h => absurd (And.intro h.1 h.2.1) (by simpa using h4))⟩
  rintro S ⟨T, rfl, hne⟩
  obtain ⟨k2, hk2⟩ : ∃ k2, k2 = (if k1 = st ∧ 0 ≤ st then k1 + 1 else k1) := ⟨_, rfl⟩
  rw [← hk2]
  have hk2b : 0 ≤ k2 ∧ k2 ≤ sh.size + 1 := by rw [hk2]; split <;> omega
  refine s_seq ?_
  refine s_seq ?_
  refine s_region ?_
  refine o_q (q_mv (v_raw rfl)) rfl rfl rfl ?_
  refine o_q (q_mv (v_raw rfl)) rfl rfl rfl ?_
  refine o_q (q_lens rfl und9 rfl) rfl rfl rfl ?_
  refine o_q (q_lss rfl rfl) rfl rfl rfl ?_
  refine o_nil ?_
  refine s_cond rfl (fun h6 => ?_) (fun h6 => ?_)
  ·have k6 := h6; try simp only [decide_eq_true_eq, decide_eq_false_iff_not, Bool.not_eq_true', Bool.not_eq_false', Bool.not_true, Bool.not_false, List.length_map, Decidable.not_not] at k6
   have hk3 : k2.toNat < sh.size := by omega
   have hix := idx_letters (sh.data[k2.toNat]'hk3)
   have hkb : kindB (sh.data[k2.toNat]'hk3) = 1 + idxB letters (sh.data[k2.toNat]'hk3) := rfl
   refine s_seq ?_
   refine s_region ?_
   refine o_q (q_mv (v_raw rfl)) rfl rfl rfl ?_
   refine o_q (q_mv (v_raw rfl)) rfl rfl rfl ?_
   refine o_q (q_stri (n := k2.toNat) und9 rfl rfl (by omega) hk3) rfl rfl rfl ?_
   refine o_call ((snd70 letters (sh.data[k2.toNat]'hk3) _)) goes70 (ac (v_raw rfl) (ac (v_raw rfl) ac_nil)) rfl ?_
   refine o_q (q_add rfl rfl (wrap64 (by omega) (by omega))) rfl rfl rfl ?_
   refine o_q (q_b (cs := [_, .raw (.int .u64 0), .raw (.string { data := #[] })]) bz74 bp74 (bf fo74_0 (e_raw rfl) rfl rfl (Nat.le_of_ble_eq_true rfl) rfl bf_nil)) rfl rfl rfl ?_
   refine o_alloc zc74 (fun B1 hB1 => ?_)
   have nb : b ≠ B1 := Mem.fresh_ne hB1 hb
   have nb' := nb.symm
   have m1 : M B1 = none := by have h := hB1; repeat (first | exact h | exact Mem.none_of_le hle h | replace h := (Mem.upd_none h).2)
   refine o_storew rfl mmQ mfQ rfl sz74 rfl rfl rfl rfl ?_
   refine o_nil ?_
   refine s_seq ?_
   refine s_seq ?_
   refine s_region ?_
   refine o_q (q_mv (v_sl rfl)) rfl rfl rfl ?_
   refine o_q (q_len rfl und69 rfl) rfl rfl rfl ?_
   refine o_q (q_eql rfl rfl) rfl rfl rfl ?_
   refine o_nil ?_
   refine s_cond rfl (fun h7 => ?_) (fun h7 => ?_)
   ·have k7 := h7; try simp only [decide_eq_true_eq, decide_eq_false_iff_not, Bool.not_eq_true', Bool.not_eq_false', Bool.not_true, Bool.not_false, List.length_map, Decidable.not_not] at k7
    refine s_seq ?_
    refine s_region ?_
    refine o_q (q_as (v_sl rfl)) rfl rfl rfl ?_
    refine o_q (q_as (v_raw rfl)) rfl rfl rfl ?_
    refine o_nil ?_
    refine s_ret ?_
    refine s_code_ret ?_
    refine s_code_ret ?_
    refine s_scj_ret ?_
    refine s_end ?_
    have e1 : decL sh st (f + 1) k s' out = ([], 3) := by
     rw [decL_succ, ← hk1, if_neg hne, ← hk2, if_pos (by omega), if_pos (by omega)]
    exact ret_many (.inl rfl) rfl (rl_t rfl (rl_t rfl rl_nil)) rfl ⟨⟨_, by rw [hd, e1]; rfl⟩, (by repeat first | exact hle | exact Mem.le_refl M | assumption | exact Mem.none_of_le hle (by assumption) | refine Mem.le_upd ?_ ?_)⟩
   ·have k7 := h7; try simp only [decide_eq_true_eq, decide_eq_false_iff_not, Bool.not_eq_true', Bool.not_eq_false', Bool.not_true, Bool.not_false, List.length_map, Decidable.not_not] at k7
    refine s_skip ?_
    refine s_seq ?_
    refine s_seq ?_
    refine s_region ?_
    refine o_q (q_fr fo74_0 rfl) rfl rfl rfl ?_
    refine o_q (q_ldm ag3 sz3 rfl mmQ rfl (v_raw rfl)) rfl rfl rfl ?_
    refine o_q (q_eql rfl rfl) rfl rfl rfl ?_
    refine o_nil ?_
    refine s_cut (fun S => ∃ T, ∃ M2 : Mem, S = ⟨setT (setT (setT (setT (setT (setT T 0 (str sh)) 6 (int st)) 7 (ptr b)) 8 (.sl (out.map encIt) true)) 9 (int k2)) 10 (ptr B1), M2⟩ ∧ M.le M2 ∧ M2 b = some (rdC (itemF (sh.data[k2.toNat]'hk3) s').2.1 (itemF (sh.data[k2.toNat]'hk3) s').2.2) ∧ M2 B1 = some (.cells [int (itemF (sh.data[k2.toNat]'hk3) s').1.kind, u64 (itemF (sh.data[k2.toNat]'hk3) s').1.n, str (itemF (sh.data[k2.toNat]'hk3) s').1.s])) ?_ ?_
    ·skip
     refine s_cond rfl (fun h8 => ?_) (fun h8 => ?_)
     ·have k8 := h8; try simp only [decide_eq_true_eq, decide_eq_false_iff_not, Bool.not_eq_true', Bool.not_eq_false', Bool.not_true, Bool.not_false, List.length_map, Decidable.not_not] at k8
      refine s_region ?_
      refine o_callx ((snd71 b s' 0 _ mmQ (by omega))) goes71 (ac (v_raw rfl) ac_nil) rfl ?_
      rintro r M2 ⟨rfl, hq⟩
      have hbq := hq b _ (Mem.upd_self _ _ _)
      have hle0 : M.le M2 := fun c q hc => hq c q (by repeat first | exact hle c q hc | refine Mem.upd_ne (Mem.ne_none hc (by assumption)) ?_)
      have hxq := hq B1 _ (by repeat first | exact Mem.upd_self _ _ _ | refine Mem.upd_ne (by assumption) ?_)
      refine o_q (q_fr fo74_2 rfl) rfl rfl rfl ?_
      refine o_store rfl mmQ meQ rfl sz9 rfl (Nat.le_of_ble_eq_true rfl) rfl rfl ?_
      refine o_nil ?_
      refine s_inv ?_
      have e2 : (itemF (sh.data[k2.toNat]'hk3) s') = (⟨4, 0, (textF s' 0).1⟩, (textF s' 0).2) := by unfold itemF; rw [if_pos (by omega)]
      rw [e2]
      exact ⟨_, _, St.mkT (kp (kp (kp (kp (kp (kp rfl rfl) rfl) rfl) rfl) rfl) rfl).symm, (by repeat first | exact hle | exact Mem.le_refl M | assumption | exact Mem.none_of_le hle (by assumption) | refine Mem.le_upd ?_ ?_), mmQ, by rw [Mem.upd_self]; show some (AObj.cells [int (1 + idxB letters (sh.data[k2.toNat]'hk3)), u64 0, str (textF s' 0).1]) = _; rw [k8]⟩
     ·have k8 := h8; try simp only [decide_eq_true_eq, decide_eq_false_iff_not, Bool.not_eq_true', Bool.not_eq_false', Bool.not_true, Bool.not_false, List.length_map, Decidable.not_not] at k8
      refine s_region ?_
      refine o_q (q_fr fo74_0 rfl) rfl rfl rfl ?_
      refine o_q (q_ldm ag3 sz3 rfl mmQ rfl (v_raw rfl)) rfl rfl rfl ?_
      refine o_q (q_idxa und127 sz3 rfl rfl (by omega) (by omega)) rfl rfl rfl ?_
      refine o_q (q_ldg ag3 sz3 rfl (by repeat first | exact hle 0 _ hG | refine Mem.upd_ne (Mem.ne_none hG m1) ?_) (gpiece (k := kindB (sh.data[k2.toNat]'hk3)) (by omega) (by omega) (by omega)) (v_raw rfl)) rfl rfl rfl ?_
      refine o_callx ((snd72 b (szK (kindB (sh.data[k2.toNat]'hk3))) s' 0 _ mmQ (szK_le _))) goes72 (ac (v_raw rfl) (ac (v_raw rfl) ac_nil)) rfl ?_
      rintro r M2 ⟨rfl, hq⟩
      have hbq := hq b _ (Mem.upd_self _ _ _)
      have hle0 : M.le M2 := fun c q hc => hq c q (by repeat first | exact hle c q hc | refine Mem.upd_ne (Mem.ne_none hc (by assumption)) ?_)
      have hxq := hq B1 _ (by repeat first | exact Mem.upd_self _ _ _ | refine Mem.upd_ne (by assumption) ?_)
      refine o_q (q_fr fo74_1 rfl) rfl rfl rfl ?_
      refine o_store rfl mmQ meQ rfl sz72 rfl (Nat.le_of_ble_eq_true rfl) rfl rfl ?_
      refine o_nil ?_
      refine s_inv ?_
      have e2 : (itemF (sh.data[k2.toNat]'hk3) s') = (⟨kindB (sh.data[k2.toNat]'hk3), (numF (szK (kindB (sh.data[k2.toNat]'hk3))) s' 0).1, emp⟩, (numF (szK (kindB (sh.data[k2.toNat]'hk3))) s' 0).2) := by unfold itemF; rw [if_neg (by omega)]
      rw [e2]
      exact ⟨_, _, St.mkT (kp (kp (kp (kp (kp (kp rfl rfl) rfl) rfl) rfl) rfl) rfl).symm, (by repeat first | exact hle | exact Mem.le_refl M | assumption | exact Mem.none_of_le hle (by assumption) | refine Mem.le_upd ?_ ?_), mmQ, mmQ⟩
    rintro S ⟨T, M2, rfl, hle2, hb2, hx2⟩
    refine s_seq ?_
    refine s_seq ?_
    refine s_region ?_
    refine o_q (q_fr fo141_1 rfl) rfl rfl rfl ?_
    refine o_q (q_ldm ag24 sz24 rfl mmQ rfl (v_raw rfl)) rfl rfl rfl ?_
    refine o_q (q_neq rfl rfl) rfl rfl rfl ?_
    refine o_nil ?_
    refine s_cond rfl (fun h9 => ?_) (fun h9 => ?_)
    ·have k9 := h9; try simp only [decide_eq_true_eq, decide_eq_false_iff_not, Bool.not_eq_true', Bool.not_eq_false', Bool.not_true, Bool.not_false, List.length_map, Decidable.not_not] at k9
     refine s_seq ?_
     refine s_draw rfl ?_
     refine d_q rfl (q_fr fo141_1 rfl) rfl rfl rfl ?_
     refine d_q rfl (q_ldm ag24 sz24 rfl mmQ rfl (v_raw rfl)) rfl rfl rfl ?_
     refine d_q rfl (q_as (v_sl rfl)) rfl rfl rfl ?_
     refine d_q rfl (q_as (v_raw rfl)) rfl rfl rfl ?_
     refine d_nil ?_
     refine s_ret ?_
     refine s_code_ret ?_
     refine s_code_ret ?_
     refine s_scj_ret ?_
     refine s_end ?_
     have e1 : decL sh st (f + 1) k s' out = ([], (itemF (sh.data[k2.toNat]'hk3) s').2.2) := by
      rw [decL_succ, ← hk1, if_neg hne, ← hk2, if_pos (by omega), if_neg (by omega), show sh.data[k2.toNat]! = sh.data[k2.toNat] from getElem!_pos sh.data k2.toNat hk3, if_pos (by simpa using k9)]
     exact ret_many (.inl rfl) rfl (rl_t rfl (rl_t rfl rl_nil)) rfl ⟨⟨_, by rw [hd, e1]; rfl⟩, (by repeat first | exact hle | exact Mem.le_refl M | assumption | exact Mem.none_of_le hle (by assumption) | refine Mem.le_upd ?_ ?_)⟩
    ·have k9 := h9; try simp only [decide_eq_true_eq, decide_eq_false_iff_not, Bool.not_eq_true', Bool.not_eq_false', Bool.not_true, Bool.not_false, List.length_map, Decidable.not_not] at k9
     refine s_skip ?_
     refine s_seq ?_
     refine s_region ?_
     refine o_qs (q_mv_own rfl) rfl rfl rfl rfl ?_
     refine o_q (q_ldm ag74 sz74 rfl mmQ rfl (v_agg rfl)) rfl rfl rfl ?_
     refine o_q (q_bs slt69 (pc (v_agg rfl) pn) rfl (Els.cons rfl rfl Els.nil) (by decide)) rfl rfl rfl ?_
     refine o_qs (q_app slt69 rfl rfl rfl rfl elsIt (by first | exact elsIt | exact Els.cons rfl rfl Els.nil) (by simp; omega)) rfl rfl rfl rfl ?_
     refine o_qs (q_as_own rfl) rfl rfl rfl rfl ?_
     refine o_nil ?_
     refine s_seq ?_
     refine s_region ?_
     refine o_q (q_mv (v_raw rfl)) rfl rfl rfl ?_
     refine o_q (q_add rfl rfl (wrap64 (by omega) (by omega))) rfl rfl rfl ?_
     refine o_q (q_as (v_raw rfl)) rfl rfl rfl ?_
     refine o_nil ?_
     refine s_goto ?_
     refine s_code_goto ?_
     refine s_scj_here ?_
     have e1 : decL sh st (f + 1) k s' out = decL sh st f (k2 + 1) (itemF (sh.data[k2.toNat]'hk3) s').2.1 (out ++ [(itemF (sh.data[k2.toNat]'hk3) s').1]) := by
      rw [decL_succ, ← hk1, if_neg hne, ← hk2, if_pos (by omega), if_neg (by omega), show sh.data[k2.toNat]! = sh.data[k2.toNat] from getElem!_pos sh.data k2.toNat hk3, if_neg (by simpa using k9)]
     have hz : (itemF (sh.data[k2.toNat]'hk3) s').2.2 = 0 := by simpa using k9
     have his := itemF_size (sh.data[k2.toNat]'hk3) s'
     exact ⟨f, by omega, _, _, b, k2 + 1, (itemF (sh.data[k2.toNat]'hk3) s').2.1, out ++ [(itemF (sh.data[k2.toNat]'hk3) s').1], St.mkT (kp (kp (kp (kp (kp rfl rfl) rfl) rfl) (congrArg (fun l => AVal.sl l true) (by rw [List.map_append]; rfl))) rfl).symm, (by repeat first | exact hle | exact Mem.le_refl M | assumption | exact Mem.none_of_le hle (by assumption) | refine Mem.le_upd ?_ ?_), hb0, by rw [hb2, hz], by omega, by simp; omega, by simp; omega, by omega, by omega, by rw [hd, e1]⟩
  ·have k6 := h6; try simp only [decide_eq_true_eq, decide_eq_false_iff_not, Bool.not_eq_true', Bool.not_eq_false', Bool.not_true, Bool.not_false, List.length_map, Decidable.not_not] at k6
   refine s_skip ?_
   refine s_seq ?_
   refine s_seq ?_
   refine s_region ?_
   refine o_q (q_fr fo141_0 rfl) rfl rfl rfl ?_
   refine o_q (q_ldm ag9 sz9 rfl mmQ rfl (v_raw rfl)) rfl rfl rfl ?_
   refine o_q (q_sneq rfl rfl) rfl rfl rfl ?_
   refine o_nil ?_
   refine s_cond rfl (fun h10 => ?_) (fun h10 => ?_)
   ·have k10 := h10; try simp only [decide_eq_true_eq, decide_eq_false_iff_not, Bool.not_eq_true', Bool.not_eq_false', Bool.not_true, Bool.not_false, List.length_map, Decidable.not_not] at k10
    refine s_seq ?_
    refine s_region ?_
    refine o_q (q_as (v_sl rfl)) rfl rfl rfl ?_
    refine o_q (q_as (v_raw rfl)) rfl rfl rfl ?_
    refine o_nil ?_
    refine s_ret ?_
    refine s_code_ret ?_
    refine s_scj_ret ?_
    refine s_end ?_
    have e1 : decL sh st (f + 1) k s' out = ([], 10) := by
     rw [decL_succ, ← hk1, if_neg hne, ← hk2, if_neg (by omega), if_pos (by simp_all [emp])]
    exact ret_many (.inl rfl) rfl (rl_t rfl (rl_t rfl rl_nil)) rfl ⟨⟨_, by rw [hd, e1]; rfl⟩, (by repeat first | exact hle | exact Mem.le_refl M | assumption | exact Mem.none_of_le hle (by assumption) | refine Mem.le_upd ?_ ?_)⟩
   ·have k10 := h10; try simp only [decide_eq_true_eq, decide_eq_false_iff_not, Bool.not_eq_true', Bool.not_eq_false', Bool.not_true, Bool.not_false, List.length_map, Decidable.not_not] at k10
    refine s_skip ?_
    refine s_seq ?_
    refine s_region ?_
    refine o_q (q_mv (v_sl rfl)) rfl rfl rfl ?_
    refine o_q (q_as (v_sl rfl)) rfl rfl rfl ?_
    refine o_q (q_as (v_raw rfl)) rfl rfl rfl ?_
    refine o_nil ?_
    refine s_ret ?_
    refine s_scj_ret ?_
    refine s_end ?_
    have e1 : decL sh st (f + 1) k s' out = (out, 0) := by
     rw [decL_succ, ← hk1, if_neg hne, ← hk2, if_neg (by omega), if_neg (by simp_all [emp])]
    exact ret_many (.inl rfl) rfl (rl_t rfl (rl_t rfl rl_nil)) rfl ⟨⟨_, by rw [hd, e1]; rfl⟩, (by repeat first | exact hle | exact Mem.le_refl M | assumption | exact Mem.none_of_le hle (by assumption) | refine Mem.le_upd ?_ ?_)⟩
 ·intro key
  refine s_seq ?_
  refine s_seq ?_
  refine s_region ?_
  refine o_q (q_mv (v_raw rfl)) rfl rfl rfl ?_
  refine o_callx ((snd69 sh hsh _)) goes69 (ac (v_raw rfl) ac_nil) rfl ?_
  rintro r M' ⟨rfl, hle⟩
  refine o_q (q_not rfl) rfl rfl rfl ?_
  refine o_nil ?_
  refine s_cond rfl (fun h11 => ?_) (fun h11 => ?_)
  ·have k11 := h11; try simp only [decide_eq_true_eq, decide_eq_false_iff_not, Bool.not_eq_true', Bool.not_eq_false', Bool.not_true, Bool.not_false, List.length_map, Decidable.not_not] at k11
   have e1 : decF sh s = ([], 1) := by unfold decF; simp_all
   refine s_seq ?_
   refine s_region ?_
   refine o_q (q_as (v_sl rfl)) rfl rfl rfl ?_
   refine o_q (q_as (v_raw rfl)) rfl rfl rfl ?_
   refine o_nil ?_
   refine s_ret ?_
   refine s_code_ret ?_
   refine s_scj_ret ?_
   refine s_end ?_
   exact ret_many (.inl rfl) rfl (rl_t rfl (rl_t rfl rl_nil)) rfl ⟨⟨_, by rw [e1]; rfl⟩, (by repeat first | exact hle | exact Mem.le_refl M | assumption | exact Mem.none_of_le hle (by assumption) | refine Mem.le_upd ?_ ?_)⟩
  ·have k11 := h11; try simp only [decide_eq_true_eq, decide_eq_false_iff_not, Bool.not_eq_true', Bool.not_eq_false', Bool.not_true, Bool.not_false, List.length_map, Decidable.not_not] at k11
   refine s_skip ?_
   refine s_seq ?_
   refine s_region ?_
   refine o_q (q_mv (v_raw rfl)) rfl rfl rfl ?_
   refine o_call ((by have h := snd70 sh 42 M'; rw [← hst] at h; exact h)) goes70 (ac (v_raw rfl) (ac (v_raw rfl) ac_nil)) rfl ?_
   refine o_q (q_as (v_raw rfl)) rfl rfl rfl ?_
   refine o_nil ?_
   refine s_seq ?_
   refine s_region ?_
   refine o_q (q_mv (v_raw rfl)) rfl rfl rfl ?_
   refine o_q (q_b (cs := [_, .raw (.int .i64 0)]) bz141 bp141 (bf fo141_0 (e_raw rfl) rfl rfl (Nat.le_of_ble_eq_true rfl) rfl bf_nil)) rfl rfl rfl ?_
   refine o_alloc zc141 (fun B2 hB2 => ?_)
   have m2 : M B2 = none := by have h := hB2; repeat (first | exact h | exact Mem.none_of_le hle h | replace h := (Mem.upd_none h).2)
   refine o_storew rfl mmQ mfQ rfl sz141 rfl rfl rfl rfl ?_
   refine o_nil ?_
   refine s_seq ?_
   refine s_region ?_
   refine o_q (q_as_const rfl) rfl rfl rfl ?_
   refine o_nil ?_
   refine s_seq ?_
   refine s_region ?_
   refine o_q (q_as (v_raw rfl)) rfl rfl rfl ?_
   refine o_nil ?_
   refine s_seq ?_
   refine s_label ?_
   exact key _ 1001 _ (by omega) ⟨_, _, B2, 0, s, [], St.mkT (kp (kp (kp (kp (kp rfl rfl) rfl) rfl) rfl) rfl).symm, (by repeat first | exact hle | exact Mem.le_refl M | assumption | exact Mem.none_of_le hle (by assumption) | refine Mem.le_upd ?_ ?_), (by repeat first | exact hle | exact Mem.le_refl M | assumption | exact Mem.none_of_le hle (by assumption) | refine Mem.le_upd ?_ ?_), mmQ, Nat.le_refl _, Nat.zero_le _, rfl, by omega, by omega, by unfold decF; simp_all⟩


/-- The lowest bytes of a number, the greatest one first. -/
def lowB (v : Nat) : Nat → List UInt8
 | 0 => []
 | i + 1 => UInt8.ofNat (v / 256 ^ i % 256) :: lowB v i
theorem lowB_len (v n : Nat) : (lowB v n).length = n := by
 induction n with
 | zero => rfl
 | succ n ih => simp [lowB, ih]
def numB (v n : Nat) : ByteArray := ⟨(lowB v n).toArray⟩
theorem numB_size (v n : Nat) : (numB v n).size = n := by show (lowB v n).toArray.size = n; simp [lowB_len]
def tk81 : Nat → Nat → Option Nat := fun _ _ => none
def pl81 : Nat → List PStep := fun _ => []
theorem cb81 : Tryd.f81.body.map (codeB Tryd.prog Tryd.f81.ntmps tk81 pl81) = some true := by kernel_rfl
theorem goes81 : goesB Tryd.prog 81 = true := by kernel_rfl
set_option maxHeartbeats 4000000 in
set_option maxRecDepth 20000 in
theorem snd81 (k : Int) (M : Mem) : SoundCall Tryd.prog 81 [int k] M fun r M' => r = int (szK k : Nat) ∧ M' = M := by
 refine SoundCall.go tk81 pl81 mixed Tryd.func81 cb81 rfl (Nat.le_of_ble_eq_true rfl) ?_
 refine s_seq ?_
 refine s_region ?_
 refine o_q (q_as (v_raw rfl)) rfl rfl rfl ?_
 refine o_nil ?_
 refine s_seq ?_
 refine s_seq ?_
 refine s_region ?_
 refine o_q (q_mv (v_raw rfl)) rfl rfl rfl ?_
 refine o_nil ?_
 refine s_block ?_
 refine s_seq ?_
 refine s_region ?_
 refine o_q (q_eql rfl rfl) rfl rfl rfl ?_
 refine o_q (q_as (v_raw rfl)) rfl rfl rfl ?_
 refine o_nil ?_
 refine s_cond rfl (fun h1 => ?_) (fun h1 => ?_)
 ·have k1 := h1; try simp only [decide_eq_true_eq, decide_eq_false_iff_not, Bool.not_eq_true', Bool.not_eq_false', Bool.not_true, Bool.not_false, List.length_map, Decidable.not_not] at k1
  refine s_seq ?_
  refine s_region ?_
  refine o_q (q_as (v_raw rfl)) rfl rfl rfl ?_
  refine o_nil ?_
  refine s_ret ?_
  refine s_blk_ret ?_
  refine s_code_ret ?_
  refine s_end ?_
  exact ⟨congrArg int (by unfold szK; simp_all), rfl⟩
 ·have k1 := h1; try simp only [decide_eq_true_eq, decide_eq_false_iff_not, Bool.not_eq_true', Bool.not_eq_false', Bool.not_true, Bool.not_false, List.length_map, Decidable.not_not] at k1
  refine s_seq ?_
  refine s_region ?_
  refine o_q (q_eql rfl rfl) rfl rfl rfl ?_
  refine o_q (q_as (v_raw rfl)) rfl rfl rfl ?_
  refine o_nil ?_
  refine s_cond rfl (fun h2 => ?_) (fun h2 => ?_)
  ·have k2 := h2; try simp only [decide_eq_true_eq, decide_eq_false_iff_not, Bool.not_eq_true', Bool.not_eq_false', Bool.not_true, Bool.not_false, List.length_map, Decidable.not_not] at k2
   refine s_seq ?_
   refine s_region ?_
   refine o_q (q_as (v_raw rfl)) rfl rfl rfl ?_
   refine o_nil ?_
   refine s_ret ?_
   refine s_blk_ret ?_
   refine s_code_ret ?_
   refine s_end ?_
   exact ⟨congrArg int (by unfold szK; simp_all), rfl⟩
  ·have k2 := h2; try simp only [decide_eq_true_eq, decide_eq_false_iff_not, Bool.not_eq_true', Bool.not_eq_false', Bool.not_true, Bool.not_false, List.length_map, Decidable.not_not] at k2
   refine s_seq ?_
   refine s_region ?_
   refine o_q (q_eql rfl rfl) rfl rfl rfl ?_
   refine o_q (q_as (v_raw rfl)) rfl rfl rfl ?_
   refine o_nil ?_
   refine s_cond rfl (fun h3 => ?_) (fun h3 => ?_)
   ·have k3 := h3; try simp only [decide_eq_true_eq, decide_eq_false_iff_not, Bool.not_eq_true', Bool.not_eq_false', Bool.not_true, Bool.not_false, List.length_map, Decidable.not_not] at k3
    refine s_seq ?_
    refine s_region ?_
    refine o_q (q_as (v_raw rfl)) rfl rfl rfl ?_
    refine o_nil ?_
    refine s_ret ?_
    refine s_blk_ret ?_
    refine s_code_ret ?_
    refine s_end ?_
    exact ⟨congrArg int (by unfold szK; simp_all), rfl⟩
   ·have k3 := h3; try simp only [decide_eq_true_eq, decide_eq_false_iff_not, Bool.not_eq_true', Bool.not_eq_false', Bool.not_true, Bool.not_false, List.length_map, Decidable.not_not] at k3
    refine s_skip ?_
    refine s_blk_normal ?_
    refine s_seq ?_
    refine s_region ?_
    refine o_q (q_as (v_raw rfl)) rfl rfl rfl ?_
    refine o_nil ?_
    refine s_ret ?_
    refine s_end ?_
    exact ⟨congrArg int (by unfold szK; simp_all), rfl⟩



def okI (x : Itm) : Prop := (x.kind = 1 ∧ x.n < 2 ^ 8 ∧ x.s = emp) ∨ (x.kind = 2 ∧ x.n < 2 ^ 32 ∧ x.s = emp) ∨ (x.kind = 3 ∧ x.n < 2 ^ 64 ∧ x.s = emp) ∨ (x.kind = 4 ∧ x.n = 0 ∧ x.s.size ≤ 100000)
def bytI (x : Itm) : ByteArray := if x.kind = 4 then numB x.s.size 4 ++ x.s else numB x.n (szK x.kind)
theorem bytI_size {x : Itm} (h : okI x) : (bytI x).size ≤ 100004 := by
 unfold bytI
 split
 ·rename_i e
  rw [ByteArray.size_append, numB_size]
  rcases h with h | h | h | h <;> first | omega | (exfalso; omega)
 ·rw [numB_size]
  have := szK_le x.kind
  omega
/-- Items as bytes. -/
def encAll (l : List Itm) : ByteArray := l.foldl (fun b x => b ++ bytI x) emp
theorem encAll_succ {l : List Itm} {i : Nat} (h : i < l.length) : encAll (l.take (i + 1)) = encAll (l.take i) ++ bytI l[i] := by
 unfold encAll
 rw [List.take_succ_eq_append_getElem h, List.foldl_append]; rfl
theorem encAll_size (l : List Itm) (h : ∀ x ∈ l, okI x) : ∀ i, i ≤ l.length → (encAll (l.take i)).size ≤ 100004 * i
 | 0, _ => Nat.le_refl 0
 | i + 1, hi => by
  have ih := encAll_size l h i (by omega)
  rw [encAll_succ (by omega), ByteArray.size_append]
  have := bytI_size (h l[i] (List.getElem_mem _))
  omega
def tk51 : Nat → Nat → Option Nat := fun _ _ => none
def pl51 : Nat → List PStep := fun _ => []
theorem cb51 : Tryd.f51.body.map (codeB Tryd.prog Tryd.f51.ntmps tk51 pl51) = some true := by kernel_rfl
theorem goes51 : goesB Tryd.prog 51 = true := by kernel_rfl

theorem word_F {s : ByteArray} {i : Nat} (hi : i < s.size) (h : wordC ((s.data[i]'hi).toNat : Int) = false) : word s = false := by
 unfold word
 rw [allF hi h, Bool.and_false]
theorem word_T {s : ByteArray} (h : ∀ j, ∀ hj : j < s.size, j < s.size → wordC (s.data[j]'hj).toNat = true) : word s = (decide (1 ≤ s.size) && decide (s.size ≤ 20)) := by
 unfold word
 rw [allT h (Nat.le_refl _), Bool.and_true]
 congr 1
 by_cases e : s.size = 0
 ·have : s = emp := by
   have h1 : s.data = #[] := Array.eq_empty_of_size_eq_zero e
   cases s; simp only at h1; subst h1; rfl
  subst this; rfl
 ·have : s ≠ emp := fun h' => e (by subst h'; rfl)
  rw [decide_eq_true this, decide_eq_true (by omega)]
set_option maxHeartbeats 4000000 in
set_option maxRecDepth 20000 in
theorem snd51 (s : ByteArray) (M : Mem) (hs : s.size < 2 ^ 63) : SoundCall Tryd.prog 51 [str s] M fun r M' => r = bool (word s) ∧ M' = M := by
 refine SoundCall.go tk51 pl51 mixed Tryd.func51 cb51 rfl (Nat.le_of_ble_eq_true rfl) ?_
 refine s_seq ?_
 refine s_region ?_
 refine o_q (q_as (v_raw rfl)) rfl rfl rfl ?_
 refine o_nil ?_
 refine s_seq ?_
 refine s_seq ?_
 refine s_region ?_
 refine o_q (q_as (v_raw rfl)) rfl rfl rfl ?_
 refine o_nil ?_
 refine s_cut (fun S => ∃ T, S = ⟨setT T 0 (str s), M⟩ ∧ word s = (decide (1 ≤ s.size) && decide (s.size ≤ 20))) ?_ ?_
 ·skip
  refine s_block ?_
  refine s_loop (fun m S => ∃ T, ∃ i : Nat, S = ⟨setT (setT T 0 (str s)) 3 (int (i : Nat)), M⟩ ∧ (∀ j, ∀ hj : j < s.size, j < i → wordC (s.data[j]'hj).toNat = true) ∧ i ≤ s.size ∧ m = s.size - i) s.size ?_ ?_
  ·exact ⟨_, 0, St.mkT (kp (kp rfl rfl) rfl).symm, fun j _ h => by omega, by omega, rfl⟩
  rintro m S ⟨T, i, rfl, hok, hi, rfl⟩
  refine s_seq ?_
  refine s_seq ?_
  refine s_region ?_
  refine o_q (q_mv (v_raw rfl)) rfl rfl rfl ?_
  refine o_q (q_mv (v_raw rfl)) rfl rfl rfl ?_
  refine o_q (q_lens rfl und9 rfl) rfl rfl rfl ?_
  refine o_q (q_lss rfl rfl) rfl rfl rfl ?_
  refine o_nil ?_
  refine s_cond rfl (fun h1 => ?_) (fun h1 => ?_)
  ·have k1 := h1; try simp only [decide_eq_true_eq, decide_eq_false_iff_not, Bool.not_eq_true', Bool.not_eq_false', Bool.not_true, Bool.not_false, List.length_map, Decidable.not_not] at k1
   refine s_skip ?_
   refine s_seq ?_
   refine s_block ?_
   refine s_seq ?_
   refine s_region ?_
   refine o_q (q_mv (v_raw rfl)) rfl rfl rfl ?_
   refine o_q (q_mv (v_raw rfl)) rfl rfl rfl ?_
   refine o_q (q_stri und9 rfl rfl rfl (by omega)) rfl rfl rfl ?_
   refine o_q (q_geq rfl rfl) rfl rfl rfl ?_
   refine o_q (q_mv (v_raw rfl)) rfl rfl rfl ?_
   refine o_cases (want := true) (j := 4) rfl rfl (fun h2 => ?_) (fun h2 => ?_)
   ·have k2 := h2; try simp only [decide_eq_true_eq, decide_eq_false_iff_not, Bool.not_eq_true', Bool.not_eq_false', Bool.not_true, Bool.not_false, List.length_map, Decidable.not_not] at k2
    refine o_yes rfl rfl rfl h2 ?_
    refine o_q (q_mv (v_raw rfl)) rfl rfl rfl ?_
    refine o_yes rfl rfl rfl h2 ?_
    refine o_q (q_mv (v_raw rfl)) rfl rfl rfl ?_
    refine o_yes rfl rfl rfl h2 ?_
    refine o_q (q_stri und9 rfl rfl rfl (by omega)) rfl rfl rfl ?_
    refine o_yes rfl rfl rfl h2 ?_
    refine o_q (q_leq rfl rfl) rfl rfl rfl ?_
    refine o_q (q_pick_c (t := true) rfl h2 (v_raw rfl)) rfl rfl rfl ?_
    refine o_q (q_mv (v_raw rfl)) rfl rfl rfl ?_
    refine o_cases (want := false) (j := 10) rfl rfl (fun h3 => ?_) (fun h3 => ?_)
    ·have k3 := h3; try simp only [decide_eq_true_eq, decide_eq_false_iff_not, Bool.not_eq_true', Bool.not_eq_false', Bool.not_true, Bool.not_false, List.length_map, Decidable.not_not] at k3
     refine o_yes rfl rfl rfl h3 ?_
     refine o_q (q_mv (v_raw rfl)) rfl rfl rfl ?_
     refine o_yes rfl rfl rfl h3 ?_
     refine o_q (q_mv (v_raw rfl)) rfl rfl rfl ?_
     refine o_yes rfl rfl rfl h3 ?_
     refine o_q (q_stri und9 rfl rfl rfl (by omega)) rfl rfl rfl ?_
     refine o_yes rfl rfl rfl h3 ?_
     refine o_q (q_geq rfl rfl) rfl rfl rfl ?_
     refine o_yes rfl rfl rfl h3 ?_
     refine o_q (q_mv (v_raw rfl)) rfl rfl rfl ?_
     refine o_cases (want := true) (j := 15) rfl rfl (fun h4 => ?_) (fun h4 => ?_)
     ·have k4 := h4; try simp only [decide_eq_true_eq, decide_eq_false_iff_not, Bool.not_eq_true', Bool.not_eq_false', Bool.not_true, Bool.not_false, List.length_map, Decidable.not_not] at k4
      refine o_yes rfl rfl rfl h4 ?_
      refine o_q (q_mv (v_raw rfl)) rfl rfl rfl ?_
      refine o_yes rfl rfl rfl h4 ?_
      refine o_q (q_mv (v_raw rfl)) rfl rfl rfl ?_
      refine o_yes rfl rfl rfl h4 ?_
      refine o_q (q_stri und9 rfl rfl rfl (by omega)) rfl rfl rfl ?_
      refine o_yes rfl rfl rfl h4 ?_
      refine o_q (q_leq rfl rfl) rfl rfl rfl ?_
      refine o_yes rfl rfl rfl h3 ?_
      refine o_q (q_pick_c (t := true) rfl h4 (v_raw rfl)) rfl rfl rfl ?_
      refine o_q (q_pick_c (t := false) rfl h3 (v_raw rfl)) rfl rfl rfl ?_
      refine o_q (q_not rfl) rfl rfl rfl ?_
      refine o_nil ?_
      refine s_cond rfl (fun h5 => ?_) (fun h5 => ?_)
      ·have k5 := h5; try simp only [decide_eq_true_eq, decide_eq_false_iff_not, Bool.not_eq_true', Bool.not_eq_false', Bool.not_true, Bool.not_false, List.length_map, Decidable.not_not] at k5
       refine s_seq ?_
       refine s_region ?_
       refine o_q (q_as (v_raw rfl)) rfl rfl rfl ?_
       refine o_nil ?_
       refine s_ret ?_
       refine s_blk_ret ?_
       refine s_code_ret ?_
       refine s_inv_ret ?_
       refine s_blk_ret ?_
       refine s_inv_ret ?_
       refine s_code_ret ?_
       refine s_end ?_
       have hwc : wordC ((s.data[i]'(show i < s.size by omega)).toNat : Int) = false := by
        unfold wordC; rw [Bool.or_eq_false_iff]
        simp only [Bool.and_eq_false_iff, decide_eq_false_iff_not]
        omega
       exact ⟨congrArg bool (word_F (by omega) hwc).symm, rfl⟩
      ·have k5 := h5; try simp only [decide_eq_true_eq, decide_eq_false_iff_not, Bool.not_eq_true', Bool.not_eq_false', Bool.not_true, Bool.not_false, List.length_map, Decidable.not_not] at k5
       refine s_skip ?_
       refine s_blk_normal ?_
       refine s_region ?_
       refine o_q (q_mv (v_raw rfl)) rfl rfl rfl ?_
       refine o_q (q_add rfl rfl (wrap64 (by omega) (by omega))) rfl rfl rfl ?_
       refine o_q (q_as (v_raw rfl)) rfl rfl rfl ?_
       refine o_nil ?_
       refine s_inv ?_
       exact ⟨s.size - (i + 1), by omega, _, i + 1, St.mkT (kp (kp rfl rfl) rfl).symm, ok_succ hok (by omega) (by simp_all [wordC]), by omega, rfl⟩
     ·have k4 := h4; try simp only [decide_eq_true_eq, decide_eq_false_iff_not, Bool.not_eq_true', Bool.not_eq_false', Bool.not_true, Bool.not_false, List.length_map, Decidable.not_not] at k4
      refine o_no rfl rfl rfl rfl h4 ?_
      refine o_no rfl rfl rfl rfl h4 ?_
      refine o_no rfl rfl rfl rfl h4 ?_
      refine o_no rfl rfl rfl rfl h4 ?_
      refine o_yes rfl rfl rfl h3 ?_
      refine o_q (q_pick_c (t := false) rfl h4 (v_raw rfl)) rfl rfl rfl ?_
      refine o_q (q_pick_c (t := false) rfl h3 (v_raw rfl)) rfl rfl rfl ?_
      refine o_q (q_not rfl) rfl rfl rfl ?_
      refine o_nil ?_
      refine s_then rfl rfl ?_
      refine s_seq ?_
      refine s_region ?_
      refine o_q (q_as (v_raw rfl)) rfl rfl rfl ?_
      refine o_nil ?_
      refine s_ret ?_
      refine s_blk_ret ?_
      refine s_code_ret ?_
      refine s_inv_ret ?_
      refine s_blk_ret ?_
      refine s_inv_ret ?_
      refine s_code_ret ?_
      refine s_end ?_
      have hwc : wordC ((s.data[i]'(show i < s.size by omega)).toNat : Int) = false := by
       unfold wordC; rw [Bool.or_eq_false_iff]
       simp only [Bool.and_eq_false_iff, decide_eq_false_iff_not]
       omega
      exact ⟨congrArg bool (word_F (by omega) hwc).symm, rfl⟩
    ·have k3 := h3; try simp only [decide_eq_true_eq, decide_eq_false_iff_not, Bool.not_eq_true', Bool.not_eq_false', Bool.not_true, Bool.not_false, List.length_map, Decidable.not_not] at k3
     refine o_no rfl rfl rfl rfl h3 ?_
     refine o_no rfl rfl rfl rfl h3 ?_
     refine o_no rfl rfl rfl rfl h3 ?_
     refine o_no rfl rfl rfl rfl h3 ?_
     refine o_no rfl rfl rfl rfl h3 ?_
     refine o_skip rfl rfl rfl rfl ?_
     refine o_skip rfl rfl rfl rfl ?_
     refine o_skip rfl rfl rfl rfl ?_
     refine o_skip rfl rfl rfl rfl ?_
     refine o_no rfl rfl rfl rfl h3 ?_
     refine o_q (q_pick_c (t := true) rfl h3 (v_raw rfl)) rfl rfl rfl ?_
     refine o_q (q_not rfl) rfl rfl rfl ?_
     refine o_nil ?_
     refine s_else rfl rfl ?_
     refine s_skip ?_
     refine s_blk_normal ?_
     refine s_region ?_
     refine o_q (q_mv (v_raw rfl)) rfl rfl rfl ?_
     refine o_q (q_add rfl rfl (wrap64 (by omega) (by omega))) rfl rfl rfl ?_
     refine o_q (q_as (v_raw rfl)) rfl rfl rfl ?_
     refine o_nil ?_
     refine s_inv ?_
     exact ⟨s.size - (i + 1), by omega, _, i + 1, St.mkT (kp (kp rfl rfl) rfl).symm, ok_succ hok (by omega) (by simp_all [wordC]), by omega, rfl⟩
   ·have k2 := h2; try simp only [decide_eq_true_eq, decide_eq_false_iff_not, Bool.not_eq_true', Bool.not_eq_false', Bool.not_true, Bool.not_false, List.length_map, Decidable.not_not] at k2
    refine o_no rfl rfl rfl rfl h2 ?_
    refine o_no rfl rfl rfl rfl h2 ?_
    refine o_no rfl rfl rfl rfl h2 ?_
    refine o_no rfl rfl rfl rfl h2 ?_
    refine o_q (q_pick_c (t := false) rfl h2 (v_raw rfl)) rfl rfl rfl ?_
    refine o_q (q_mv (v_raw rfl)) rfl rfl rfl ?_
    refine o_yes rfl rfl rfl rfl ?_
    refine o_q (q_mv (v_raw rfl)) rfl rfl rfl ?_
    refine o_yes rfl rfl rfl rfl ?_
    refine o_q (q_mv (v_raw rfl)) rfl rfl rfl ?_
    refine o_yes rfl rfl rfl rfl ?_
    refine o_q (q_stri und9 rfl rfl rfl (by omega)) rfl rfl rfl ?_
    refine o_yes rfl rfl rfl rfl ?_
    refine o_q (q_geq rfl rfl) rfl rfl rfl ?_
    refine o_yes rfl rfl rfl rfl ?_
    refine o_q (q_mv (v_raw rfl)) rfl rfl rfl ?_
    refine o_cases (want := true) (j := 15) rfl rfl (fun h6 => ?_) (fun h6 => ?_)
    ·have k6 := h6; try simp only [decide_eq_true_eq, decide_eq_false_iff_not, Bool.not_eq_true', Bool.not_eq_false', Bool.not_true, Bool.not_false, List.length_map, Decidable.not_not] at k6
     refine o_yes rfl rfl rfl h6 ?_
     refine o_q (q_mv (v_raw rfl)) rfl rfl rfl ?_
     refine o_yes rfl rfl rfl h6 ?_
     refine o_q (q_mv (v_raw rfl)) rfl rfl rfl ?_
     refine o_yes rfl rfl rfl h6 ?_
     refine o_q (q_stri und9 rfl rfl rfl (by omega)) rfl rfl rfl ?_
     refine o_yes rfl rfl rfl h6 ?_
     refine o_q (q_leq rfl rfl) rfl rfl rfl ?_
     refine o_yes rfl rfl rfl rfl ?_
     refine o_q (q_pick_c (t := true) rfl h6 (v_raw rfl)) rfl rfl rfl ?_
     refine o_q (q_pick_c (t := false) rfl rfl (v_raw rfl)) rfl rfl rfl ?_
     refine o_q (q_not rfl) rfl rfl rfl ?_
     refine o_nil ?_
     refine s_cond rfl (fun h7 => ?_) (fun h7 => ?_)
     ·have k7 := h7; try simp only [decide_eq_true_eq, decide_eq_false_iff_not, Bool.not_eq_true', Bool.not_eq_false', Bool.not_true, Bool.not_false, List.length_map, Decidable.not_not] at k7
      refine s_seq ?_
      refine s_region ?_
      refine o_q (q_as (v_raw rfl)) rfl rfl rfl ?_
      refine o_nil ?_
      refine s_ret ?_
      refine s_blk_ret ?_
      refine s_code_ret ?_
      refine s_inv_ret ?_
      refine s_blk_ret ?_
      refine s_inv_ret ?_
      refine s_code_ret ?_
      refine s_end ?_
      have hwc : wordC ((s.data[i]'(show i < s.size by omega)).toNat : Int) = false := by
       unfold wordC; rw [Bool.or_eq_false_iff]
       simp only [Bool.and_eq_false_iff, decide_eq_false_iff_not]
       omega
      exact ⟨congrArg bool (word_F (by omega) hwc).symm, rfl⟩
     ·have k7 := h7; try simp only [decide_eq_true_eq, decide_eq_false_iff_not, Bool.not_eq_true', Bool.not_eq_false', Bool.not_true, Bool.not_false, List.length_map, Decidable.not_not] at k7
      refine s_skip ?_
      refine s_blk_normal ?_
      refine s_region ?_
      refine o_q (q_mv (v_raw rfl)) rfl rfl rfl ?_
      refine o_q (q_add rfl rfl (wrap64 (by omega) (by omega))) rfl rfl rfl ?_
      refine o_q (q_as (v_raw rfl)) rfl rfl rfl ?_
      refine o_nil ?_
      refine s_inv ?_
      exact ⟨s.size - (i + 1), by omega, _, i + 1, St.mkT (kp (kp rfl rfl) rfl).symm, ok_succ hok (by omega) (by simp_all [wordC]), by omega, rfl⟩
    ·have k6 := h6; try simp only [decide_eq_true_eq, decide_eq_false_iff_not, Bool.not_eq_true', Bool.not_eq_false', Bool.not_true, Bool.not_false, List.length_map, Decidable.not_not] at k6
     refine o_no rfl rfl rfl rfl h6 ?_
     refine o_no rfl rfl rfl rfl h6 ?_
     refine o_no rfl rfl rfl rfl h6 ?_
     refine o_no rfl rfl rfl rfl h6 ?_
     refine o_yes rfl rfl rfl rfl ?_
     refine o_q (q_pick_c (t := false) rfl h6 (v_raw rfl)) rfl rfl rfl ?_
     refine o_q (q_pick_c (t := false) rfl rfl (v_raw rfl)) rfl rfl rfl ?_
     refine o_q (q_not rfl) rfl rfl rfl ?_
     refine o_nil ?_
     refine s_then rfl rfl ?_
     refine s_seq ?_
     refine s_region ?_
     refine o_q (q_as (v_raw rfl)) rfl rfl rfl ?_
     refine o_nil ?_
     refine s_ret ?_
     refine s_blk_ret ?_
     refine s_code_ret ?_
     refine s_inv_ret ?_
     refine s_blk_ret ?_
     refine s_inv_ret ?_
     refine s_code_ret ?_
     refine s_end ?_
     have hwc : wordC ((s.data[i]'(show i < s.size by omega)).toNat : Int) = false := by
      unfold wordC; rw [Bool.or_eq_false_iff]
      simp only [Bool.and_eq_false_iff, decide_eq_false_iff_not]
      omega
     exact ⟨congrArg bool (word_F (by omega) hwc).symm, rfl⟩
  ·have k1 := h1; try simp only [decide_eq_true_eq, decide_eq_false_iff_not, Bool.not_eq_true', Bool.not_eq_false', Bool.not_true, Bool.not_false, List.length_map, Decidable.not_not] at k1
   refine s_exit ?_
   refine s_code_exit ?_
   refine s_inv_exit ?_
   refine s_blk_here ?_
   refine s_inv ?_
   obtain rfl : i = s.size := by omega
   exact ⟨_, St.mkT (kp rfl rfl).symm, word_T hok⟩
 rintro S ⟨T, rfl, hword⟩
 refine s_seq ?_
 refine s_region ?_
 refine o_q (q_mv (v_raw rfl)) rfl rfl rfl ?_
 refine o_q (q_lens rfl und9 rfl) rfl rfl rfl ?_
 refine o_q (q_geq rfl rfl) rfl rfl rfl ?_
 refine o_q (q_mv (v_raw rfl)) rfl rfl rfl ?_
 refine o_cases (want := true) (j := 3) rfl rfl (fun h8 => ?_) (fun h8 => ?_)
 ·have k8 := h8; try simp only [decide_eq_true_eq, decide_eq_false_iff_not, Bool.not_eq_true', Bool.not_eq_false', Bool.not_true, Bool.not_false, List.length_map, Decidable.not_not] at k8
  refine o_yes rfl rfl rfl h8 ?_
  refine o_q (q_mv (v_raw rfl)) rfl rfl rfl ?_
  refine o_yes rfl rfl rfl h8 ?_
  refine o_q (q_lens rfl und9 rfl) rfl rfl rfl ?_
  refine o_yes rfl rfl rfl h8 ?_
  refine o_q (q_leq rfl rfl) rfl rfl rfl ?_
  refine o_q (q_pick_c (t := true) rfl h8 (v_raw rfl)) rfl rfl rfl ?_
  refine o_q (q_as (v_raw rfl)) rfl rfl rfl ?_
  refine o_nil ?_
  refine s_ret ?_
  refine s_end ?_
  refine ⟨congrArg bool ?_, rfl⟩
  rw [hword, decide_eq_true (show 1 ≤ s.size by omega), Bool.true_and, decide_eq_decide]
  omega
 ·have k8 := h8; try simp only [decide_eq_true_eq, decide_eq_false_iff_not, Bool.not_eq_true', Bool.not_eq_false', Bool.not_true, Bool.not_false, List.length_map, Decidable.not_not] at k8
  refine o_no rfl rfl rfl rfl h8 ?_
  refine o_no rfl rfl rfl rfl h8 ?_
  refine o_no rfl rfl rfl rfl h8 ?_
  refine o_q (q_pick_c (t := false) rfl h8 (v_raw rfl)) rfl rfl rfl ?_
  refine o_q (q_as (v_raw rfl)) rfl rfl rfl ?_
  refine o_nil ?_
  refine s_ret ?_
  refine s_end ?_
  refine ⟨congrArg bool ?_, rfl⟩
  rw [hword, decide_eq_false (show ¬ 1 ≤ s.size by omega)]
  rfl



theorem word_emp : word emp = false := by kernel_rfl





/-- What is known of an item that was read by a letter. -/
def okD (c : UInt8) (x : Itm) : Prop := x.n < 256 ^ szK (kindB c) ∧ x.s.size ≤ 100000
theorem numF_lt (n : Nat) (s : ByteArray) (e : Int) : (numF n s e).1 < 256 ^ n := by
 unfold numF
 split
 ·exact Nat.pow_pos (by decide)
 ·rename_i h
  have h1 := beN_lt (s.data.toList.take n)
  have h2 : (s.data.toList.take n).length = n := by
   rw [List.length_take, Array.length_toList]
   have : s.data.size = s.size := rfl
   omega
  rw [h2] at h1; exact h1
theorem itemF_ok {c : UInt8} {s : ByteArray} (h : (itemF c s).2.2 = 0) : okD c (itemF c s).1 := by
 unfold itemF at h ⊢
 split
 ·rename_i hk
  rw [if_pos hk] at h
  refine ⟨Nat.pow_pos (by decide), ?_⟩
  show (textF s 0).1.size ≤ 100000
  have h' : (textF s 0).2.2 = 0 := h
  unfold textF at h' ⊢
  split
  ·exact Nat.zero_le _
  ·split
   ·exact Nat.zero_le _
   ·split
    ·exact Nat.zero_le _
    ·rename_i h2 h3
     show ((numF 4 s 0).2.1.extract 0 (numF 4 s 0).1).size ≤ 100000
     simp; omega
 ·exact ⟨numF_lt _ _ _, Nat.zero_le _⟩
end C17
