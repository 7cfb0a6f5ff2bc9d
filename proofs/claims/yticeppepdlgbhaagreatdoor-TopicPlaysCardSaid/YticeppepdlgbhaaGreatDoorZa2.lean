import Derived.Test.YticeppepdlgbhaaGreatDoorZa1
import Derived.Test.YticeppepdlgbhaaGreatDoorProg
/-! Items and commands as bytes: what their functions compute. -/
open Go Go.Proofs Go.Am
set_option linter.unusedVariables false
set_option autoImplicit false
set_option linter.unusedSimpArgs false
namespace C17
theorem ag5 : aggT Tryz.prog 5 = some false := by kernel_rfl
theorem ag25 : aggT Tryz.prog 25 = some false := by kernel_rfl
theorem ag100 : aggT Tryz.prog 100 = some false := by kernel_rfl
theorem ag102 : aggT Tryz.prog 102 = some true := by kernel_rfl
theorem b2s181_9 : b2s Tryz.prog 181 9 = true := by kernel_rfl
theorem by5 : bytesT Tryz.prog 5 = some 1 := by kernel_rfl
theorem bz102 : (zeroT Tryz.prog 102).map (fun z => z.cells.toList.map AVal.raw) = some [.raw (.int .i64 0), .raw (.int .u64 0), .raw (.string { data := #[] })] := by kernel_rfl
theorem bp102 : (aPlaces Tryz.prog 102).isSome = true := by kernel_rfl
theorem bz231 : (zeroT Tryz.prog 231).map (fun z => z.cells.toList.map AVal.raw) = some [.raw (.string { data := #[] }), .raw (.int .i64 0)] := by kernel_rfl
theorem bp231 : (aPlaces Tryz.prog 231).isSome = true := by kernel_rfl
theorem fo102_0 : fo Tryz.prog 102 0 = some (0, 1) := by kernel_rfl
theorem fo102_1 : fo Tryz.prog 102 1 = some (1, 1) := by kernel_rfl
theorem fo102_2 : fo Tryz.prog 102 2 = some (2, 1) := by kernel_rfl
theorem fo231_0 : fo Tryz.prog 231 0 = some (0, 1) := by kernel_rfl
theorem fo231_1 : fo Tryz.prog 231 1 = some (1, 1) := by kernel_rfl
theorem s2b9_181 : s2b Tryz.prog 9 181 = true := by kernel_rfl
theorem slt105 : SlT Tryz.prog 105 102 3 32 := ⟨by kernel_rfl, by kernel_rfl, by kernel_rfl, by kernel_rfl, by decide⟩
theorem sz5 : sizeT Tryz.prog 5 = some 1 := by kernel_rfl
theorem sz25 : sizeT Tryz.prog 25 = some 1 := by kernel_rfl
theorem sz100 : sizeT Tryz.prog 100 = some 1 := by kernel_rfl
theorem sz102 : sizeT Tryz.prog 102 = some 3 := by kernel_rfl
theorem sz231 : sizeT Tryz.prog 231 = some 2 := by kernel_rfl
theorem und5 : Tryz.prog.underlying 5 = some (.int .u8) := by kernel_rfl
theorem und100 : Tryz.prog.underlying 100 = some (.int .u64) := by kernel_rfl
theorem und105 : Tryz.prog.underlying 105 = some (.slice 102) := by kernel_rfl
theorem und181 : Tryz.prog.underlying 181 = some (.slice 5) := by kernel_rfl
theorem und183 : Tryz.prog.underlying 183 = some (.array 5 3) := by kernel_rfl
theorem zc5 : zeroCellsT Tryz.prog 5 = some [.raw (.int .u8 0)] := by kernel_rfl
theorem zc102 : zeroCellsT Tryz.prog 102 = some [.raw (.int .i64 0), .raw (.int .u64 0), .raw (.string { data := #[] })] := by kernel_rfl
theorem zc231 : zeroCellsT Tryz.prog 231 = some [.raw (.string { data := #[] }), .raw (.int .i64 0)] := by kernel_rfl
def tk200 : Nat → Nat → Option Nat := fun _ _ => none
def pl200 : Nat → List PStep := fun _ => []
theorem cb200 : Tryz.f200.body.map (codeB Tryz.prog Tryz.f200.ntmps tk200 pl200) = some true := by kernel_rfl
theorem goes200 : goesB Tryz.prog 200 = true := by kernel_rfl

/-- The letters of the kinds. -/
def letters : ByteArray := ⟨#[98, 119, 108, 116]⟩
abbrev star : ByteArray := ⟨#[42]⟩
/-- A number of bytes, the first one the greatest. -/
def beN (l : List UInt8) : Nat := l.foldl (fun n c => n * 256 + c.toNat) 0
theorem beN_snoc (l : List UInt8) (c : UInt8) : beN (l ++ [c]) = beN l * 256 + c.toNat := by simp [beN, List.foldl_append]
theorem beN_lt' (l : List UInt8) : ∀ n, l.foldl (fun n c => n * 256 + c.toNat) n + 1 ≤ (n + 1) * 256 ^ l.length := by
 induction l with
 | nil => intro n; simp
 | cons c l ih =>
  intro n
  have h1 := ih (n * 256 + c.toNat)
  have h2 := c.toNat_lt
  have h3 : (n * 256 + c.toNat + 1) * 256 ^ l.length ≤ ((n + 1) * 256) * 256 ^ l.length := Nat.mul_le_mul_right _ (by omega)
  rw [List.foldl_cons, List.length_cons, Nat.pow_succ, Nat.mul_comm (256 ^ l.length) 256, ← Nat.mul_assoc]
  exact Nat.le_trans h1 h3
theorem beN_lt (l : List UInt8) : beN l < 256 ^ l.length := by
 have := beN_lt' l 0
 rw [Nat.zero_add, Nat.one_mul] at this
 exact this
set_option maxHeartbeats 4000000 in
set_option maxRecDepth 20000 in
theorem snd200 (s : ByteArray) (c : UInt8) (M : Mem) : SoundCall Tryz.prog 200 [str s, .raw (.int .u8 c.toNat)] M fun r M' => r = int (idxB s c) ∧ M' = M := by
 refine SoundCall.go tk200 pl200 mixed Tryz.func200 cb200 rfl (Nat.le_of_ble_eq_true rfl) ?_
 refine s_seq ?_
 refine s_region ?_
 refine o_q (q_as (v_raw rfl)) rfl rfl rfl ?_
 refine o_nil ?_
 refine s_seq ?_
 refine s_region ?_
 refine o_q (q_mv (v_raw rfl)) rfl rfl rfl ?_
 refine o_q (q_mv (v_raw rfl)) rfl rfl rfl ?_
 refine x_indexByte Tryz.func241 (by kernel_rfl) rfl (by kernel_rfl) (by kernel_rfl) rfl rfl ?_
 refine o_q (q_as (v_raw rfl)) rfl rfl rfl ?_
 refine o_nil ?_
 refine s_ret ?_
 refine s_end ?_
 exact ⟨rfl, rfl⟩

def tk154 : Nat → Nat → Option Nat := fun _ _ => none
def pl154 : Nat → List PStep := fun _ => []
theorem cb154 : Tryz.f154.body.map (codeB Tryz.prog Tryz.f154.ntmps tk154 pl154) = some true := by kernel_rfl
theorem goes154 : goesB Tryz.prog 154 = true := by kernel_rfl
set_option maxHeartbeats 4000000 in
set_option maxRecDepth 20000 in
theorem snd154 (s : ByteArray) (c : UInt8) (M : Mem) : SoundCall Tryz.prog 154 [str s, .raw (.int .u8 c.toNat)] M fun r M' => r = int (idxB s c) ∧ M' = M := by
 refine SoundCall.go tk154 pl154 mixed Tryz.func154 cb154 rfl (Nat.le_of_ble_eq_true rfl) ?_
 refine s_seq ?_
 refine s_region ?_
 refine o_q (q_as (v_raw rfl)) rfl rfl rfl ?_
 refine o_nil ?_
 refine s_seq ?_
 refine s_region ?_
 refine o_q (q_mv (v_raw rfl)) rfl rfl rfl ?_
 refine o_q (q_mv (v_raw rfl)) rfl rfl rfl ?_
 refine o_call ((snd200 s c M)) goes200 (ac (v_raw rfl) (ac (v_raw rfl) ac_nil)) rfl ?_
 refine o_q (q_as (v_raw rfl)) rfl rfl rfl ?_
 refine o_nil ?_
 refine s_ret ?_
 refine s_end ?_
 exact ⟨rfl, rfl⟩

def tk256 : Nat → Nat → Option Nat := fun _ _ => none
def pl256 : Nat → List PStep := fun _ => []
theorem cb256 : Tryz.f256.body.map (codeB Tryz.prog Tryz.f256.ntmps tk256 pl256) = some true := by kernel_rfl
theorem goes256 : goesB Tryz.prog 256 = true := by kernel_rfl
set_option maxHeartbeats 4000000 in
set_option maxRecDepth 20000 in
theorem snd256 (s : ByteArray) (M : Mem) : SoundCall Tryz.prog 256 [str s, str star] M fun r M' => r = int (idxB s 42) ∧ M' = M := by
 refine SoundCall.go tk256 pl256 mixed Tryz.func256 cb256 rfl (Nat.le_of_ble_eq_true rfl) ?_
 refine s_seq ?_
 refine s_region ?_
 refine o_q (q_as (v_raw rfl)) rfl rfl rfl ?_
 refine o_nil ?_
 refine s_seq ?_
 refine s_region ?_
 refine o_q (q_mv (v_raw rfl)) rfl rfl rfl ?_
 refine o_q (q_lens rfl und9 rfl) rfl rfl rfl ?_
 refine o_q (q_as (v_raw rfl)) rfl rfl rfl ?_
 refine o_nil ?_
 refine s_seq ?_
 refine s_block ?_
 refine s_seq ?_
 refine s_region ?_
 refine o_q (q_mv (v_raw rfl)) rfl rfl rfl ?_
 refine o_q (q_eql rfl rfl) rfl rfl rfl ?_
 refine o_q (q_mv (v_raw rfl)) rfl rfl rfl ?_
 refine o_yes rfl rfl rfl rfl ?_
 refine o_q (q_mv (v_raw rfl)) rfl rfl rfl ?_
 refine o_yes rfl rfl rfl rfl ?_
 refine o_q (q_mv (v_raw rfl)) rfl rfl rfl ?_
 refine o_yes rfl rfl rfl rfl ?_
 refine o_q (q_seql rfl rfl) rfl rfl rfl ?_
 refine o_q (q_pick_c (t := false) rfl rfl (v_raw rfl)) rfl rfl rfl ?_
 refine o_q (q_as (v_raw rfl)) rfl rfl rfl ?_
 refine o_nil ?_
 refine s_cond rfl (fun h1 => ?_) (fun h1 => ?_)
 ·have k1 := h1; try simp only [decide_eq_true_eq, decide_eq_false_iff_not, Bool.not_eq_true', Bool.not_eq_false', Bool.not_true, Bool.not_false, List.length_map, Decidable.not_not] at k1
  refine s_seq ?_
  refine s_region ?_
  refine o_q (q_as (v_raw rfl)) rfl rfl rfl ?_
  refine o_nil ?_
  refine s_ret ?_
  refine s_blk_ret ?_
  refine s_code_ret ?_
  refine s_end ?_
  have e1 : star = s := by simpa using h1
  rw [← e1]
  exact ⟨by kernel_rfl, rfl⟩
 ·have k1 := h1; try simp only [decide_eq_true_eq, decide_eq_false_iff_not, Bool.not_eq_true', Bool.not_eq_false', Bool.not_true, Bool.not_false, List.length_map, Decidable.not_not] at k1
  refine s_seq ?_
  refine s_region ?_
  refine o_q (q_mv (v_raw rfl)) rfl rfl rfl ?_
  refine o_q (q_eql rfl rfl) rfl rfl rfl ?_
  refine o_q (q_as (v_raw rfl)) rfl rfl rfl ?_
  refine o_nil ?_
  refine s_then rfl rfl ?_
  refine s_seq ?_
  refine s_region ?_
  refine o_q (q_mv (v_raw rfl)) rfl rfl rfl ?_
  refine o_q (q_mv (v_raw rfl)) rfl rfl rfl ?_
  refine o_q (q_stri (n := 0) und9 rfl rfl rfl (by decide)) rfl rfl rfl ?_
  refine o_call ((snd200 s 42 M)) goes200 (ac (v_raw rfl) (ac (v_raw rfl) ac_nil)) rfl ?_
  refine o_q (q_as (v_raw rfl)) rfl rfl rfl ?_
  refine o_nil ?_
  refine s_ret ?_
  refine s_blk_ret ?_
  refine s_code_ret ?_
  refine s_end ?_
  exact ⟨rfl, rfl⟩

def tk156 : Nat → Nat → Option Nat := fun _ _ => none
def pl156 : Nat → List PStep := fun _ => []
theorem cb156 : Tryz.f156.body.map (codeB Tryz.prog Tryz.f156.ntmps tk156 pl156) = some true := by kernel_rfl
theorem goes156 : goesB Tryz.prog 156 = true := by kernel_rfl

theorem leB {M M' : Mem} {b : Nat} {o : AObj} (h : ∀ c q, c ≠ b → M c = some q → M' c = some q) (hb : M' b = some o) : (M.upd b o).le M' := fun c q hc => by
 unfold Mem.upd at hc
 by_cases e : c = b
 ·rw [if_pos e] at hc; cases hc; rw [e]; exact hb
 ·rw [if_neg e] at hc; exact h c q e hc
theorem ext0_size {s : ByteArray} {n : Nat} (h : n ≤ s.size) : (s.extract 0 n).size = n := by simp; omega
theorem beN_succ {s : ByteArray} {i : Nat} (hi : i < s.size) : beN (s.data.toList.take (i + 1)) = beN (s.data.toList.take i) * 256 + (s.data[i]'hi).toNat := by
 have hl : i < s.data.toList.length := by rw [Array.length_toList]; exact hi
 rw [List.take_succ_eq_append_getElem hl, beN_snoc]
 rw [Array.getElem_toList]
theorem beN_shl {l : List UInt8} (h : l.length < 8) : beN l * 2 ^ 8 < 2 ^ 64 := by
 have h1 := beN_lt l
 have h2 : 256 ^ l.length ≤ 256 ^ 7 := Nat.pow_le_pow_right (by decide) (by omega)
 have h3 : beN l < 256 ^ 7 := Nat.lt_of_lt_of_le h1 h2
 exact Nat.lt_of_lt_of_le (Nat.mul_lt_mul_of_pos_right h3 (by decide)) (by decide)
abbrev u64 (n : Nat) : AVal := .raw (.int .u64 (n : Int))
abbrev rdC (s : ByteArray) (e : Int) : AObj := .cells [str s, int e]
/-- A number that is read: it, what is left, the error. -/
def numF (size : Nat) (s : ByteArray) (e : Int) : Nat × ByteArray × Int := if s.size < size then (0, s, 2) else (beN (s.data.toList.take size), s.extract size s.size, e)
set_option maxHeartbeats 4000000 in
set_option maxRecDepth 20000 in
theorem snd156 (b size : Nat) (s : ByteArray) (e : Int) (M : Mem) (hb : M b = some (rdC s e)) (h8 : size ≤ 8) : SoundCall Tryz.prog 156 [ptr b, int size] M fun r M' => r = u64 (numF size s e).1 ∧ (M.upd b (rdC (numF size s e).2.1 (numF size s e).2.2)).le M' := by
 refine SoundCall.go tk156 pl156 mixed Tryz.func156 cb156 rfl (Nat.le_of_ble_eq_true rfl) ?_
 refine s_seq ?_
 refine s_region ?_
 refine o_q (q_as (v_raw rfl)) rfl rfl rfl ?_
 refine o_nil ?_
 refine s_seq ?_
 refine s_seq ?_
 refine s_region ?_
 refine o_q (q_mv (mvQ)) rfl rfl rfl ?_
 refine o_q (q_nil rfl) rfl rfl rfl ?_
 refine o_q (q_fr fo231_0 rfl) rfl rfl rfl ?_
 refine o_q (q_ldm ag9 sz9 rfl mmQ rfl (v_raw rfl)) rfl rfl rfl ?_
 refine o_q (q_lens rfl und9 rfl) rfl rfl rfl ?_
 refine o_q (q_mv (v_raw rfl)) rfl rfl rfl ?_
 refine o_q (q_lss rfl rfl) rfl rfl rfl ?_
 refine o_nil ?_
 refine s_cond rfl (fun h1 => ?_) (fun h1 => ?_)
 ·have k1 := h1; try simp only [decide_eq_true_eq, decide_eq_false_iff_not, Bool.not_eq_true', Bool.not_eq_false', Bool.not_true, Bool.not_false, List.length_map, Decidable.not_not] at k1
  refine s_seq ?_
  refine s_region ?_
  refine o_q (q_mv (mvQ)) rfl rfl rfl ?_
  refine o_q (q_nil rfl) rfl rfl rfl ?_
  refine o_q (q_fr fo231_1 rfl) rfl rfl rfl ?_
  refine o_store rfl mmQ meQ rfl sz25 rfl (Nat.le_of_ble_eq_true rfl) rfl rfl ?_
  refine o_nil ?_
  refine s_seq ?_
  refine s_region ?_
  refine o_q (q_as (v_raw rfl)) rfl rfl rfl ?_
  refine o_nil ?_
  refine s_ret ?_
  refine s_code_ret ?_
  refine s_end ?_
  have e1 : numF size s e = (0, s, 2) := by unfold numF; rw [if_pos (by omega)]
  rw [e1]
  exact ⟨rfl, Mem.le_refl _⟩
 ·have k1 := h1; try simp only [decide_eq_true_eq, decide_eq_false_iff_not, Bool.not_eq_true', Bool.not_eq_false', Bool.not_true, Bool.not_false, List.length_map, Decidable.not_not] at k1
  have hle1 : size ≤ s.size := by omega
  have hsz := ext0_size hle1
  refine s_skip ?_
  refine s_seq ?_
  refine s_region ?_
  refine o_q (q_as (v_raw rfl)) rfl rfl rfl ?_
  refine o_nil ?_
  refine s_seq ?_
  refine s_seq ?_
  refine s_region ?_
  refine o_q (q_mv (mvQ)) rfl rfl rfl ?_
  refine o_q (q_nil rfl) rfl rfl rfl ?_
  refine o_q (q_fr fo231_0 rfl) rfl rfl rfl ?_
  refine o_q (q_ldm ag9 sz9 rfl mmQ rfl (v_raw rfl)) rfl rfl rfl ?_
  refine o_q (q_mv (v_raw rfl)) rfl rfl rfl ?_
  refine o_q (q_slstr und9 rfl rfl (by omega)) rfl rfl rfl ?_
  refine o_s2b s2b9_181 rfl (fun B1 C1 hB1 hC1 => ?_)
  have nb : b ≠ B1 := Mem.fresh_ne hB1 hb
  have m1 : M B1 = none := by have h := hB1; repeat (first | exact h | exact Mem.none_of_le hle h | replace h := (Mem.upd_none h).2)
  refine o_q (q_lenr rfl und181 rfl) rfl rfl rfl ?_
  refine o_q (q_mv (v_raw rfl)) rfl rfl rfl ?_
  refine o_nil ?_
  refine s_block ?_
  refine s_loop (fun m S => ∃ T, ∃ M' : Mem, ∃ i : Nat, S = ⟨setT (setT (setT (setT (setT (setT T 0 (ptr b)) 1 (int size)) 5 (u64 (beN (s.data.toList.take i)))) 24 (.raw (.slice (some ⟨B1, 0, none⟩) (s.extract 0 size).size C1))) 25 (int (s.extract 0 size).size)) 26 (int i), M'⟩ ∧ M.le M' ∧ (M' b = some (rdC s e) ∧ M' B1 = some (.cells (u8l (s.extract 0 size) ++ List.replicate (C1 - (s.extract 0 size).size) (.raw (.int .u8 0))))) ∧ i ≤ size ∧ m = size - i) size ?_ ?_
  ·exact ⟨_, _, 0, St.mkT (kp (kp (kp (kp (kp (kp rfl rfl) rfl) rfl) rfl) rfl) rfl).symm, (by repeat first | exact hle | exact Mem.le_refl M | assumption | exact Mem.none_of_le hle (by assumption) | refine Mem.le_upd ?_ ?_), ⟨mmQ, mmQ⟩, by omega, rfl⟩
  rintro m S ⟨T, M', i, rfl, hle, ⟨bm1, bm2⟩, hi, rfl⟩
  refine s_seq ?_
  refine s_region ?_
  refine o_q (q_lss rfl rfl) rfl rfl rfl ?_
  refine o_nil ?_
  refine s_seq ?_
  refine s_cond rfl (fun h2 => ?_) (fun h2 => ?_)
  ·have k2 := h2; try simp only [decide_eq_true_eq, decide_eq_false_iff_not, Bool.not_eq_true', Bool.not_eq_false', Bool.not_true, Bool.not_false, List.length_map, Decidable.not_not] at k2
   have hi2 : i < (s.extract 0 size).size := by omega
   have hi3 : i < s.size := by omega
   have hc8 : (s.data[i]'hi3).toNat < 256 := UInt8.toNat_lt _
   have hsh : beN (s.data.toList.take i) * 2 ^ 8 < 2 ^ 64 := beN_shl (by rw [List.length_take]; omega)
   refine s_skip ?_
   refine s_seq ?_
   refine s_block ?_
   refine s_seq ?_
   refine s_region ?_
   refine o_q (q_idxr und181 sz5 rfl rfl (by omega) (by omega)) rfl rfl rfl ?_
   refine o_q (q_ldm ag5 sz5 rfl mmQ (by simpa [piece] using u8l_get (s := (s.extract 0 size)) (j := i) hi2) (v_raw rfl)) rfl rfl rfl ?_
   refine o_q (q_as (v_raw rfl)) rfl rfl rfl ?_
   refine o_nil ?_
   refine s_region ?_
   refine o_q (q_mv (v_raw rfl)) rfl rfl rfl ?_
   refine o_q (q_shlu (n := 8) rfl rfl (by decide) hsh) rfl rfl rfl ?_
   refine o_q (q_mv (v_raw rfl)) rfl rfl rfl ?_
   refine o_q (q_i2i und5 und100 rfl (u64_wrap (by omega) (by omega))) rfl rfl rfl ?_
   refine o_q (q_orb rfl rfl hsh hc8) rfl rfl rfl ?_
   refine o_q (q_as (v_raw rfl)) rfl rfl rfl ?_
   refine o_nil ?_
   refine s_blk_normal ?_
   refine s_region ?_
   refine o_q (q_add rfl rfl (wrap64 (by omega) (by omega))) rfl rfl rfl ?_
   refine o_q (q_mv (v_raw rfl)) rfl rfl rfl ?_
   refine o_nil ?_
   refine s_inv ?_
   exact ⟨size - (i + 1), by omega, _, _, i + 1, St.mkT (kp (kp (kp (kp (kp (kp rfl rfl) rfl) (show _ = u64 (beN (s.data.toList.take (i + 1))) by rw [beN_succ hi3]; rfl)) rfl) rfl) rfl).symm, (by repeat first | exact hle | exact Mem.le_refl M | assumption | exact Mem.none_of_le hle (by assumption) | refine Mem.le_upd ?_ ?_), ⟨mmQ, mmQ⟩, by omega, rfl⟩
  ·have k2 := h2; try simp only [decide_eq_true_eq, decide_eq_false_iff_not, Bool.not_eq_true', Bool.not_eq_false', Bool.not_true, Bool.not_false, List.length_map, Decidable.not_not] at k2
   refine s_exit ?_
   refine s_code_exit ?_
   refine s_inv_exit ?_
   refine s_blk_here ?_
   refine s_seq ?_
   refine s_region ?_
   refine o_q (q_mv (mvQ)) rfl rfl rfl ?_
   refine o_q (q_mv (mvQ)) rfl rfl rfl ?_
   refine o_q (q_nil rfl) rfl rfl rfl ?_
   refine o_q (q_fr fo231_0 rfl) rfl rfl rfl ?_
   refine o_q (q_ldm ag9 sz9 rfl mmQ rfl (v_raw rfl)) rfl rfl rfl ?_
   refine o_q (q_mv (v_raw rfl)) rfl rfl rfl ?_
   refine o_q (q_slslo und9 rfl rfl (by omega)) rfl rfl rfl ?_
   refine o_q (q_nil rfl) rfl rfl rfl ?_
   refine o_q (q_fr fo231_0 rfl) rfl rfl rfl ?_
   refine o_store rfl mmQ meQ rfl sz9 rfl (Nat.le_of_ble_eq_true rfl) rfl rfl ?_
   refine o_nil ?_
   refine s_seq ?_
   refine s_region ?_
   refine o_q (q_mv (v_raw rfl)) rfl rfl rfl ?_
   refine o_q (q_as (v_raw rfl)) rfl rfl rfl ?_
   refine o_nil ?_
   refine s_ret ?_
   refine s_end ?_
   obtain rfl : i = size := by omega
   have e1 : numF i s e = (beN (s.data.toList.take i), s.extract i s.size, e) := by unfold numF; rw [if_neg (by omega)]
   rw [e1]
   exact ⟨rfl, leB (fun c q hc h => by repeat first | exact h | exact hle c q h | refine Mem.upd_ne (by first | exact hc | exact Mem.ne_none h (by assumption)) ?_) mmQ⟩

def tk155 : Nat → Nat → Option Nat := fun _ _ => none
def pl155 : Nat → List PStep := fun _ => []
theorem cb155 : Tryz.f155.body.map (codeB Tryz.prog Tryz.f155.ntmps tk155 pl155) = some true := by kernel_rfl
theorem goes155 : goesB Tryz.prog 155 = true := by kernel_rfl

/-- A text that is read: it, what is left, the error. -/
def textF (s : ByteArray) (e : Int) : ByteArray × ByteArray × Int :=
 if (numF 4 s e).2.2 ≠ 0 then (emp, (numF 4 s e).2) else if 100000 < (numF 4 s e).1 then (emp, (numF 4 s e).2.1, 3) else if (numF 4 s e).2.1.size < (numF 4 s e).1 then (emp, (numF 4 s e).2.1, 2)
 else ((numF 4 s e).2.1.extract 0 (numF 4 s e).1, (numF 4 s e).2.1.extract (numF 4 s e).1 (numF 4 s e).2.1.size, (numF 4 s e).2.2)
theorem numF_size (n : Nat) (s : ByteArray) (e : Int) : (numF n s e).2.1.size ≤ s.size := by
 unfold numF
 split
 ·exact Nat.le_refl _
 ·simp
theorem textF_size (s : ByteArray) (e : Int) : (textF s e).2.1.size ≤ s.size := by
 have := numF_size 4 s e
 unfold textF
 split
 ·exact this
 ·split
  ·exact this
  ·split
   ·exact this
   ·simp; omega
theorem Mem.upd2_le {M M' : Mem} {b : Nat} {o o' : AObj} (h : (M.upd b o).le M') : (M.upd b o').le (M'.upd b o') := fun c q hc => by
 unfold Mem.upd at hc ⊢
 by_cases e : c = b
 ·rw [if_pos e] at hc ⊢; exact hc
 ·rw [if_neg e] at hc ⊢
  exact h c q (by unfold Mem.upd; rw [if_neg e]; exact hc)
set_option maxHeartbeats 4000000 in
set_option maxRecDepth 20000 in
theorem snd155 (b : Nat) (s : ByteArray) (e : Int) (M : Mem) (hb : M b = some (rdC s e)) (hs : s.size < 2 ^ 62) : SoundCall Tryz.prog 155 [ptr b] M fun r M' => r = str (textF s e).1 ∧ (M.upd b (rdC (textF s e).2.1 (textF s e).2.2)).le M' := by
 have hns := numF_size 4 s e
 refine SoundCall.go tk155 pl155 mixed Tryz.func155 cb155 rfl (Nat.le_of_ble_eq_true rfl) ?_
 refine s_seq ?_
 refine s_region ?_
 refine o_q (q_as (v_raw rfl)) rfl rfl rfl ?_
 refine o_nil ?_
 refine s_seq ?_
 refine s_region ?_
 refine o_q (q_mv (mvQ)) rfl rfl rfl ?_
 refine o_callx ((snd156 b 4 s e M hb (by decide))) goes156 (ac (mvQ) (ac (v_raw rfl) ac_nil)) rfl ?_
 rintro r M' ⟨rfl, hq⟩
 have hb' : M' b = some (rdC (numF 4 s e).2.1 (numF 4 s e).2.2) := hq b _ (Mem.upd_self _ _ _)
 refine o_q (q_as (v_raw rfl)) rfl rfl rfl ?_
 refine o_nil ?_
 refine s_seq ?_
 refine s_block ?_
 refine s_seq ?_
 refine s_region ?_
 refine o_q (q_mv (mvQ)) rfl rfl rfl ?_
 refine o_q (q_nil rfl) rfl rfl rfl ?_
 refine o_q (q_fr fo231_1 rfl) rfl rfl rfl ?_
 refine o_q (q_ldm ag25 sz25 rfl mmQ rfl (v_raw rfl)) rfl rfl rfl ?_
 refine o_q (q_neq rfl rfl) rfl rfl rfl ?_
 refine o_q (q_as (v_raw rfl)) rfl rfl rfl ?_
 refine o_nil ?_
 refine s_cond rfl (fun h1 => ?_) (fun h1 => ?_)
 ·have k1 := h1; try simp only [decide_eq_true_eq, decide_eq_false_iff_not, Bool.not_eq_true', Bool.not_eq_false', Bool.not_true, Bool.not_false, List.length_map, Decidable.not_not] at k1
  refine s_seq ?_
  refine s_region ?_
  refine o_q (q_as (v_raw rfl)) rfl rfl rfl ?_
  refine o_nil ?_
  refine s_ret ?_
  refine s_blk_ret ?_
  refine s_code_ret ?_
  refine s_end ?_
  have e1 : textF s e = (emp, (numF 4 s e).2) := by unfold textF; rw [if_pos k1]
  rw [e1]
  exact ⟨rfl, hq⟩
 ·have k1 := h1; try simp only [decide_eq_true_eq, decide_eq_false_iff_not, Bool.not_eq_true', Bool.not_eq_false', Bool.not_true, Bool.not_false, List.length_map, Decidable.not_not] at k1
  refine s_seq ?_
  refine s_region ?_
  refine o_q (q_mv (v_raw rfl)) rfl rfl rfl ?_
  refine o_q (q_gtr rfl rfl) rfl rfl rfl ?_
  refine o_q (q_as (v_raw rfl)) rfl rfl rfl ?_
  refine o_nil ?_
  refine s_cond rfl (fun h2 => ?_) (fun h2 => ?_)
  ·have k2 := h2; try simp only [decide_eq_true_eq, decide_eq_false_iff_not, Bool.not_eq_true', Bool.not_eq_false', Bool.not_true, Bool.not_false, List.length_map, Decidable.not_not] at k2
   refine s_seq ?_
   refine s_region ?_
   refine o_q (q_mv (mvQ)) rfl rfl rfl ?_
   refine o_q (q_nil rfl) rfl rfl rfl ?_
   refine o_q (q_fr fo231_1 rfl) rfl rfl rfl ?_
   refine o_store rfl mmQ meQ rfl sz25 rfl (Nat.le_of_ble_eq_true rfl) rfl rfl ?_
   refine o_nil ?_
   refine s_seq ?_
   refine s_region ?_
   refine o_q (q_as (v_raw rfl)) rfl rfl rfl ?_
   refine o_nil ?_
   refine s_ret ?_
   refine s_blk_ret ?_
   refine s_code_ret ?_
   refine s_end ?_
   have e1 : textF s e = (emp, (numF 4 s e).2.1, 3) := by unfold textF; rw [if_neg (by simpa using k1), if_pos (by omega)]
   rw [e1]
   exact ⟨rfl, Mem.upd2_le hq⟩
  ·have k2 := h2; try simp only [decide_eq_true_eq, decide_eq_false_iff_not, Bool.not_eq_true', Bool.not_eq_false', Bool.not_true, Bool.not_false, List.length_map, Decidable.not_not] at k2
   refine s_seq ?_
   refine s_region ?_
   refine o_q (q_mv (v_raw rfl)) rfl rfl rfl ?_
   refine o_q (q_mv (mvQ)) rfl rfl rfl ?_
   refine o_q (q_nil rfl) rfl rfl rfl ?_
   refine o_q (q_fr fo231_0 rfl) rfl rfl rfl ?_
   refine o_q (q_ldm ag9 sz9 rfl mmQ rfl (v_raw rfl)) rfl rfl rfl ?_
   refine o_q (q_lens rfl und9 rfl) rfl rfl rfl ?_
   refine o_q (q_i2i und3 und100 rfl (u64_wrap (by omega) (by omega))) rfl rfl rfl ?_
   refine o_q (q_gtr rfl rfl) rfl rfl rfl ?_
   refine o_q (q_as (v_raw rfl)) rfl rfl rfl ?_
   refine o_nil ?_
   refine s_cond rfl (fun h3 => ?_) (fun h3 => ?_)
   ·have k3 := h3; try simp only [decide_eq_true_eq, decide_eq_false_iff_not, Bool.not_eq_true', Bool.not_eq_false', Bool.not_true, Bool.not_false, List.length_map, Decidable.not_not] at k3
    refine s_seq ?_
    refine s_region ?_
    refine o_q (q_mv (mvQ)) rfl rfl rfl ?_
    refine o_q (q_nil rfl) rfl rfl rfl ?_
    refine o_q (q_fr fo231_1 rfl) rfl rfl rfl ?_
    refine o_store rfl mmQ meQ rfl sz25 rfl (Nat.le_of_ble_eq_true rfl) rfl rfl ?_
    refine o_nil ?_
    refine s_seq ?_
    refine s_region ?_
    refine o_q (q_as (v_raw rfl)) rfl rfl rfl ?_
    refine o_nil ?_
    refine s_ret ?_
    refine s_blk_ret ?_
    refine s_code_ret ?_
    refine s_end ?_
    have e1 : textF s e = (emp, (numF 4 s e).2.1, 2) := by unfold textF; rw [if_neg (by simpa using k1), if_neg (by omega), if_pos (by omega)]
    rw [e1]
    exact ⟨rfl, Mem.upd2_le hq⟩
   ·have k3 := h3; try simp only [decide_eq_true_eq, decide_eq_false_iff_not, Bool.not_eq_true', Bool.not_eq_false', Bool.not_true, Bool.not_false, List.length_map, Decidable.not_not] at k3
    refine s_skip ?_
    refine s_blk_normal ?_
    refine s_seq ?_
    refine s_region ?_
    refine o_q (q_mv (mvQ)) rfl rfl rfl ?_
    refine o_q (q_nil rfl) rfl rfl rfl ?_
    refine o_q (q_fr fo231_0 rfl) rfl rfl rfl ?_
    refine o_q (q_ldm ag9 sz9 rfl mmQ rfl (v_raw rfl)) rfl rfl rfl ?_
    refine o_q (q_mv (v_raw rfl)) rfl rfl rfl ?_
    refine o_q (q_slstr und9 rfl rfl (by omega)) rfl rfl rfl ?_
    refine o_q (q_as (v_raw rfl)) rfl rfl rfl ?_
    refine o_nil ?_
    refine s_seq ?_
    refine s_region ?_
    refine o_q (q_mv (mvQ)) rfl rfl rfl ?_
    refine o_q (q_mv (mvQ)) rfl rfl rfl ?_
    refine o_q (q_nil rfl) rfl rfl rfl ?_
    refine o_q (q_fr fo231_0 rfl) rfl rfl rfl ?_
    refine o_q (q_ldm ag9 sz9 rfl mmQ rfl (v_raw rfl)) rfl rfl rfl ?_
    refine o_q (q_mv (v_raw rfl)) rfl rfl rfl ?_
    refine o_q (q_slslo und9 rfl rfl (by omega)) rfl rfl rfl ?_
    refine o_q (q_nil rfl) rfl rfl rfl ?_
    refine o_q (q_fr fo231_0 rfl) rfl rfl rfl ?_
    refine o_store rfl mmQ meQ rfl sz9 rfl (Nat.le_of_ble_eq_true rfl) rfl rfl ?_
    refine o_nil ?_
    refine s_seq ?_
    refine s_region ?_
    refine o_q (q_mv (v_raw rfl)) rfl rfl rfl ?_
    refine o_q (q_as (v_raw rfl)) rfl rfl rfl ?_
    refine o_nil ?_
    refine s_ret ?_
    refine s_end ?_
    have e1 : textF s e = ((numF 4 s e).2.1.extract 0 (numF 4 s e).1, (numF 4 s e).2.1.extract (numF 4 s e).1 (numF 4 s e).2.1.size, (numF 4 s e).2.2) := by unfold textF; rw [if_neg (by simpa using k1), if_neg (by omega), if_neg (by omega)]
    rw [e1]
    exact ⟨rfl, Mem.upd2_le hq⟩

def tk240 : Nat → Nat → Option Nat := fun _ _ => none
def pl240 : Nat → List PStep
 | 3 => [.q 0, .q 1, .q 2, .q 3, .q 4, .q 5, .q 6, .q 7, .q 8, .q 9, .q 10, .q 11]
 | _ => []
theorem cb240 : Tryz.f240.body.map (codeB Tryz.prog Tryz.f240.ntmps tk240 pl240) = some true := by kernel_rfl
theorem goes240 : goesB Tryz.prog 240 = true := by kernel_rfl

theorem idxB_cases (s : ByteArray) (c : UInt8) : (∃ n : Nat, idxB s c = n ∧ n < s.size) ∨ idxB s c = -1 := by
 unfold idxB
 cases h : (List.range s.size).find? fun i => s[i]! == c with
 | none => exact .inr rfl
 | some i => exact .inl ⟨i, rfl, List.mem_range.1 (List.mem_of_find?_eq_some h)⟩
/-- A text ahead of a star and behind it; whether there is one. -/
def cutF (s : ByteArray) : ByteArray × ByteArray × Bool := if 0 ≤ idxB s 42 then (s.extract 0 (idxB s 42).toNat, s.extract ((idxB s 42).toNat + 1) s.size, true) else (s, emp, false)
set_option maxHeartbeats 4000000 in
set_option maxRecDepth 20000 in
theorem snd240a (s : ByteArray) (n : Nat) (hi : idxB s 42 = n) (hlt : n < s.size) (hs : s.size < 2 ^ 62) (M : Mem) : SoundCall Tryz.prog 240 [str s, str star] M fun r M' => r = .tup [str (cutF s).1, str (cutF s).2.1, bool (cutF s).2.2] ∧ M' = M := by
 refine SoundCall.go tk240 pl240 mixed Tryz.func240 cb240 rfl (Nat.le_of_ble_eq_true rfl) ?_
 refine s_seq ?_
 refine s_region ?_
 refine o_q (q_as (v_raw rfl)) rfl rfl rfl ?_
 refine o_q (q_as (v_raw rfl)) rfl rfl rfl ?_
 refine o_q (q_as (v_raw rfl)) rfl rfl rfl ?_
 refine o_nil ?_
 refine s_seq ?_
 refine s_seq ?_
 refine s_region ?_
 refine o_q (q_mv (v_raw rfl)) rfl rfl rfl ?_
 refine o_q (q_mv (v_raw rfl)) rfl rfl rfl ?_
 refine o_call ((by have h := snd256 s M; rw [hi] at h; exact h)) goes256 (ac (v_raw rfl) (ac (v_raw rfl) ac_nil)) rfl ?_
 refine o_q (q_as (v_raw rfl)) rfl rfl rfl ?_
 refine o_nil ?_
 refine s_seq ?_
 refine s_region ?_
 refine o_q (q_mv (v_raw rfl)) rfl rfl rfl ?_
 refine o_q (q_geq rfl rfl) rfl rfl rfl ?_
 refine o_nil ?_
 refine s_then rfl (decide_eq_true (by omega)) ?_
 refine s_seq ?_
 refine s_draw rfl ?_
 refine d_q rfl (q_mv (v_raw rfl)) rfl rfl rfl ?_
 refine d_q rfl (q_mv (v_raw rfl)) rfl rfl rfl ?_
 refine d_q rfl (q_slstr und9 rfl rfl (by omega)) rfl rfl rfl ?_
 refine d_q rfl (q_mv (v_raw rfl)) rfl rfl rfl ?_
 refine d_q rfl (q_mv (v_raw rfl)) rfl rfl rfl ?_
 refine d_q rfl (q_mv (v_raw rfl)) rfl rfl rfl ?_
 refine d_q rfl (q_lens rfl und9 rfl) rfl rfl rfl ?_
 refine d_q rfl (q_add rfl rfl (wrap64 (by show _ ≤ (n : Int) + 1; omega) (by show (n : Int) + 1 < _; omega))) rfl rfl rfl ?_
 refine d_q rfl (q_slslo (n := n + 1) und9 rfl rfl (by omega)) rfl rfl rfl ?_
 refine d_q rfl (q_as (v_raw rfl)) rfl rfl rfl ?_
 refine d_q rfl (q_as (v_raw rfl)) rfl rfl rfl ?_
 refine d_q rfl (q_as (v_raw rfl)) rfl rfl rfl ?_
 refine d_nil ?_
 refine s_ret ?_
 refine s_code_ret ?_
 refine s_end ?_
 exact ret_many (.inl rfl) rfl (rl_t rfl (rl_t rfl (rl_t rfl rl_nil))) rfl ⟨by unfold cutF; rw [hi, if_pos (by omega)]; rfl, rfl⟩

set_option maxHeartbeats 4000000 in
set_option maxRecDepth 20000 in
theorem snd240b (s : ByteArray) (hi : idxB s 42 = -1) (hs : s.size < 2 ^ 62) (M : Mem) : SoundCall Tryz.prog 240 [str s, str star] M fun r M' => r = .tup [str (cutF s).1, str (cutF s).2.1, bool (cutF s).2.2] ∧ M' = M := by
 refine SoundCall.go tk240 pl240 mixed Tryz.func240 cb240 rfl (Nat.le_of_ble_eq_true rfl) ?_
 refine s_seq ?_
 refine s_region ?_
 refine o_q (q_as (v_raw rfl)) rfl rfl rfl ?_
 refine o_q (q_as (v_raw rfl)) rfl rfl rfl ?_
 refine o_q (q_as (v_raw rfl)) rfl rfl rfl ?_
 refine o_nil ?_
 refine s_seq ?_
 refine s_seq ?_
 refine s_region ?_
 refine o_q (q_mv (v_raw rfl)) rfl rfl rfl ?_
 refine o_q (q_mv (v_raw rfl)) rfl rfl rfl ?_
 refine o_call ((by have h := snd256 s M; rw [hi] at h; exact h)) goes256 (ac (v_raw rfl) (ac (v_raw rfl) ac_nil)) rfl ?_
 refine o_q (q_as (v_raw rfl)) rfl rfl rfl ?_
 refine o_nil ?_
 refine s_seq ?_
 refine s_region ?_
 refine o_q (q_mv (v_raw rfl)) rfl rfl rfl ?_
 refine o_q (q_geq rfl rfl) rfl rfl rfl ?_
 refine o_nil ?_
 refine s_else rfl rfl ?_
 refine s_skip ?_
 refine s_seq ?_
 refine s_region ?_
 refine o_q (q_mv (v_raw rfl)) rfl rfl rfl ?_
 refine o_q (q_as (v_raw rfl)) rfl rfl rfl ?_
 refine o_q (q_as (v_raw rfl)) rfl rfl rfl ?_
 refine o_q (q_as (v_raw rfl)) rfl rfl rfl ?_
 refine o_nil ?_
 refine s_ret ?_
 refine s_end ?_
 exact ret_many (.inl rfl) rfl (rl_t rfl (rl_t rfl (rl_t rfl rl_nil))) rfl ⟨by unfold cutF; rw [hi]; rfl, rfl⟩

def tk199 : Nat → Nat → Option Nat := fun _ _ => none
def pl199 : Nat → List PStep := fun _ => []
theorem cb199 : Tryz.f199.body.map (codeB Tryz.prog Tryz.f199.ntmps tk199 pl199) = some true := by kernel_rfl
theorem goes199 : goesB Tryz.prog 199 = true := by kernel_rfl
theorem cut128 (s : ByteArray) (hs : s.size < 2 ^ 62) (M : Mem) : SoundCall Tryz.prog 240 [str s, str star] M fun r M' => r = .tup [str (cutF s).1, str (cutF s).2.1, bool (cutF s).2.2] ∧ M' = M := by
 rcases idxB_cases s 42 with ⟨n, h1, h2⟩ | h1
 ·exact snd240a s n h1 h2 hs M
 ·exact snd240b s h1 hs M
set_option maxHeartbeats 4000000 in
set_option maxRecDepth 20000 in
theorem snd199 (s : ByteArray) (hs : s.size < 2 ^ 62) (M : Mem) : SoundCall Tryz.prog 199 [str s, str star] M fun r M' => r = .tup [str (cutF s).1, str (cutF s).2.1, bool (cutF s).2.2] ∧ M' = M := by
 refine SoundCall.go tk199 pl199 mixed Tryz.func199 cb199 rfl (Nat.le_of_ble_eq_true rfl) ?_
 refine s_seq ?_
 refine s_region ?_
 refine o_q (q_as (v_raw rfl)) rfl rfl rfl ?_
 refine o_q (q_as (v_raw rfl)) rfl rfl rfl ?_
 refine o_q (q_as (v_raw rfl)) rfl rfl rfl ?_
 refine o_nil ?_
 refine s_seq ?_
 refine s_region ?_
 refine o_q (q_mv (v_raw rfl)) rfl rfl rfl ?_
 refine o_q (q_mv (v_raw rfl)) rfl rfl rfl ?_
 refine o_call ((cut128 s hs M)) goes240 (ac (v_raw rfl) (ac (v_raw rfl) ac_nil)) rfl ?_
 refine o_q (q_ext rfl rfl (v_raw rfl)) rfl rfl rfl ?_
 refine o_q (q_ext rfl rfl (v_raw rfl)) rfl rfl rfl ?_
 refine o_q (q_ext rfl rfl (v_raw rfl)) rfl rfl rfl ?_
 refine o_q (q_as (v_raw rfl)) rfl rfl rfl ?_
 refine o_q (q_as (v_raw rfl)) rfl rfl rfl ?_
 refine o_q (q_as (v_raw rfl)) rfl rfl rfl ?_
 refine o_nil ?_
 refine s_ret ?_
 refine s_end ?_
 exact ret_many (.inl rfl) rfl (rl_t rfl (rl_t rfl (rl_t rfl rl_nil))) rfl ⟨rfl, rfl⟩

def tk153 : Nat → Nat → Option Nat := fun _ _ => none
def pl153 : Nat → List PStep := fun _ => []
theorem cb153 : Tryz.f153.body.map (codeB Tryz.prog Tryz.f153.ntmps tk153 pl153) = some true := by kernel_rfl
theorem goes153 : goesB Tryz.prog 153 = true := by kernel_rfl

theorem piece_u8 {s : ByteArray} {rest : List AVal} {j o : Nat} (h : j < s.size) (ho : o = j) : piece false (u8l s ++ rest) o 1 = some (.raw (.int .u8 (s.data[j]'h).toNat)) := by
 subst ho
 simpa [piece] using u8l_get (s := s) (j := o) h
theorem all_succ {s : ByteArray} {i : Nat} {p : UInt8 → Bool} (h : (s.data.toList.take i).all p = true) (hi : i < s.size) (hp : p (s.data[i]'hi) = true) : (s.data.toList.take (i + 1)).all p = true := by
 have hl : i < s.data.toList.length := by rw [Array.length_toList]; exact hi
 rw [List.take_succ_eq_append_getElem hl, List.all_append, h, Array.getElem_toList]
 simpa using hp
theorem all_not {s : ByteArray} {i : Nat} {p : UInt8 → Bool} (hi : i < s.size) (hp : p (s.data[i]'hi) = false) : s.data.toList.all p = false := by
 rw [List.all_eq_false]
 exact ⟨s.data[i]'hi, Array.mem_toList_iff.2 (Array.getElem_mem _), by rw [hp]; decide⟩
/-- Whether a text is a shape. -/
def letterB (c : UInt8) : Bool := decide (0 ≤ idxB letters c)
def rightS (s : ByteArray) : Bool := ((cutF s).1 ++ (cutF s).2.1).data.toList.all letterB && (!(cutF s).2.2 || !decide ((cutF s).2.1 = emp))
theorem cutF_size (s : ByteArray) : ((cutF s).1 ++ (cutF s).2.1).size ≤ s.size := by
 unfold cutF
 split
 ·rename_i h
  rcases idxB_cases s 42 with ⟨n, h1, h2⟩ | h1
  ·rw [h1]; simp; omega
  ·omega
 ·show (s ++ ByteArray.empty).size ≤ _
  rw [ByteArray.size_append]; exact Nat.le_refl _
set_option maxHeartbeats 4000000 in
set_option maxRecDepth 20000 in
theorem snd153 (s : ByteArray) (hs : s.size < 2 ^ 62) (M : Mem) : SoundCall Tryz.prog 153 [str s] M fun r M' => r = bool (rightS s) ∧ M.le M' := by
 have hcs := cutF_size s
 have hcs2 := hcs
 rw [ByteArray.size_append] at hcs2
 refine SoundCall.go tk153 pl153 mixed Tryz.func153 cb153 rfl (Nat.le_of_ble_eq_true rfl) ?_
 refine s_seq ?_
 refine s_region ?_
 refine o_q (q_as (v_raw rfl)) rfl rfl rfl ?_
 refine o_nil ?_
 refine s_seq ?_
 refine s_region ?_
 refine o_q (q_mv (v_raw rfl)) rfl rfl rfl ?_
 refine o_call ((snd199 s hs M)) goes199 (ac (v_raw rfl) (ac (v_raw rfl) ac_nil)) rfl ?_
 refine o_q (q_mv (v_tup rfl)) rfl rfl rfl ?_
 refine o_q (q_ext rfl rfl (v_raw rfl)) rfl rfl rfl ?_
 refine o_q (q_ext rfl rfl (v_raw rfl)) rfl rfl rfl ?_
 refine o_q (q_ext rfl rfl (v_raw rfl)) rfl rfl rfl ?_
 refine o_q (q_as (v_raw rfl)) rfl rfl rfl ?_
 refine o_q (q_as (v_raw rfl)) rfl rfl rfl ?_
 refine o_q (q_as (v_raw rfl)) rfl rfl rfl ?_
 refine o_nil ?_
 refine s_seq ?_
 refine s_seq ?_
 refine s_region ?_
 refine o_q (q_mv (v_raw rfl)) rfl rfl rfl ?_
 refine o_q (q_mv (v_raw rfl)) rfl rfl rfl ?_
 refine o_q (q_sadd rfl rfl (by omega)) rfl rfl rfl ?_
 refine o_s2b s2b9_181 rfl (fun B1 C1 hB1 hC1 => ?_)
 have m1 : M B1 = none := by have h := hB1; repeat (first | exact h | exact Mem.none_of_le hle h | replace h := (Mem.upd_none h).2)
 refine o_q (q_lenr rfl und181 rfl) rfl rfl rfl ?_
 refine o_q (q_mv (v_raw rfl)) rfl rfl rfl ?_
 refine o_nil ?_
 refine s_block ?_
 refine s_loop (fun m S => ∃ T, ∃ M' : Mem, ∃ i : Nat, S = ⟨setT (setT (setT (setT (setT (setT T 3 (str (cutF s).1)) 4 (str (cutF s).2.1)) 5 (bool (cutF s).2.2)) 17 (.raw (.slice (some ⟨B1, 0, none⟩) ((cutF s).1 ++ (cutF s).2.1).size C1))) 18 (int ((cutF s).1 ++ (cutF s).2.1).size)) 19 (int i), M'⟩ ∧ M.le M' ∧ M' B1 = some (.cells (u8l ((cutF s).1 ++ (cutF s).2.1) ++ List.replicate (C1 - ((cutF s).1 ++ (cutF s).2.1).size) (.raw (.int .u8 0)))) ∧ i ≤ ((cutF s).1 ++ (cutF s).2.1).size ∧ (((cutF s).1 ++ (cutF s).2.1).data.toList.take i).all letterB = true ∧ m = ((cutF s).1 ++ (cutF s).2.1).size - i) ((cutF s).1 ++ (cutF s).2.1).size ?_ ?_
 ·exact ⟨_, _, 0, St.mkT (kp (kp (kp (kp (kp (kp rfl rfl) rfl) rfl) rfl) rfl) rfl).symm, (by repeat first | exact hle | exact Mem.le_refl M | assumption | exact Mem.none_of_le hle (by assumption) | refine Mem.le_upd ?_ ?_), mmQ, by omega, rfl, rfl⟩
 rintro m S ⟨T, M', i, rfl, hle, bm1, hi, hal, rfl⟩
 refine s_seq ?_
 refine s_region ?_
 refine o_q (q_lss rfl rfl) rfl rfl rfl ?_
 refine o_nil ?_
 refine s_seq ?_
 refine s_cond rfl (fun h1 => ?_) (fun h1 => ?_)
 ·have k1 := h1; try simp only [decide_eq_true_eq, decide_eq_false_iff_not, Bool.not_eq_true', Bool.not_eq_false', Bool.not_true, Bool.not_false, List.length_map, Decidable.not_not] at k1
  have hi2 : i < ((cutF s).1 ++ (cutF s).2.1).size := by omega
  refine s_skip ?_
  refine s_seq ?_
  refine s_block ?_
  refine s_seq ?_
  refine s_region ?_
  refine o_q (q_idxr und181 sz5 rfl rfl (by omega) (by omega)) rfl rfl rfl ?_
  refine o_q (q_ldm ag5 sz5 rfl mmQ (piece_u8 hi2 (by omega)) (v_raw rfl)) rfl rfl rfl ?_
  refine o_q (q_as (v_raw rfl)) rfl rfl rfl ?_
  refine o_nil ?_
  refine s_seq ?_
  refine s_region ?_
  refine o_q (q_mv (v_raw rfl)) rfl rfl rfl ?_
  refine o_call ((snd154 letters (((cutF s).1 ++ (cutF s).2.1).data[i]'hi2) _)) goes154 (ac (v_raw rfl) (ac (v_raw rfl) ac_nil)) rfl ?_
  refine o_q (q_lss rfl rfl) rfl rfl rfl ?_
  refine o_nil ?_
  refine s_cond rfl (fun h2 => ?_) (fun h2 => ?_)
  ·have k2 := h2; try simp only [decide_eq_true_eq, decide_eq_false_iff_not, Bool.not_eq_true', Bool.not_eq_false', Bool.not_true, Bool.not_false, List.length_map, Decidable.not_not] at k2
   refine s_seq ?_
   refine s_region ?_
   refine o_q (q_as (v_raw rfl)) rfl rfl rfl ?_
   refine o_nil ?_
   refine s_ret ?_
   refine s_blk_ret ?_
   refine s_code_ret ?_
   refine s_inv_ret ?_
   refine s_blk_ret ?_
   refine s_code_ret ?_
   refine s_end ?_
   refine ⟨congrArg (fun b => AVal.raw (.bool b)) ?_, (by repeat first | exact hle | exact Mem.le_refl M | assumption | exact Mem.none_of_le hle (by assumption) | refine Mem.le_upd ?_ ?_)⟩
   unfold rightS
   rw [all_not hi2 (by unfold letterB; exact decide_eq_false (by omega))]; rfl
  ·have k2 := h2; try simp only [decide_eq_true_eq, decide_eq_false_iff_not, Bool.not_eq_true', Bool.not_eq_false', Bool.not_true, Bool.not_false, List.length_map, Decidable.not_not] at k2
   refine s_skip ?_
   refine s_blk_normal ?_
   refine s_region ?_
   refine o_q (q_add rfl rfl (wrap64 (by omega) (by omega))) rfl rfl rfl ?_
   refine o_q (q_mv (v_raw rfl)) rfl rfl rfl ?_
   refine o_nil ?_
   refine s_inv ?_
   exact ⟨((cutF s).1 ++ (cutF s).2.1).size - (i + 1), by omega, _, _, i + 1, St.mkT (kp (kp (kp (kp (kp (kp rfl rfl) rfl) rfl) rfl) rfl) rfl).symm, (by repeat first | exact hle | exact Mem.le_refl M | assumption | exact Mem.none_of_le hle (by assumption) | refine Mem.le_upd ?_ ?_), mmQ, by omega, all_succ hal hi2 (by unfold letterB; exact decide_eq_true (by omega)), rfl⟩
 ·have k1 := h1; try simp only [decide_eq_true_eq, decide_eq_false_iff_not, Bool.not_eq_true', Bool.not_eq_false', Bool.not_true, Bool.not_false, List.length_map, Decidable.not_not] at k1
  refine s_exit ?_
  refine s_code_exit ?_
  refine s_inv_exit ?_
  refine s_blk_here ?_
  refine s_seq ?_
  refine s_region ?_
  refine o_q (q_mv (v_raw rfl)) rfl rfl rfl ?_
  refine o_q (q_not rfl) rfl rfl rfl ?_
  refine o_q (q_mv (v_raw rfl)) rfl rfl rfl ?_
  refine o_cases (want := false) (j := 2) rfl rfl (fun h3 => ?_) (fun h3 => ?_)
  ·have k3 := h3; try simp only [decide_eq_true_eq, decide_eq_false_iff_not, Bool.not_eq_true', Bool.not_eq_false', Bool.not_true, Bool.not_false, List.length_map, Decidable.not_not] at k3
   refine o_yes rfl rfl rfl h3 ?_
   refine o_q (q_mv (v_raw rfl)) rfl rfl rfl ?_
   refine o_yes rfl rfl rfl h3 ?_
   refine o_q (q_sneq rfl rfl) rfl rfl rfl ?_
   refine o_q (q_pick_c (t := false) rfl h3 (v_raw rfl)) rfl rfl rfl ?_
   refine o_q (q_as (v_raw rfl)) rfl rfl rfl ?_
   refine o_nil ?_
   refine s_ret ?_
   refine s_end ?_
   have hal2 : ((cutF s).1 ++ (cutF s).2.1).data.toList.all letterB = true := by
    have e : i = ((cutF s).1 ++ (cutF s).2.1).size := by omega
    rw [List.take_of_length_le (by rw [Array.length_toList, e]; exact Nat.le_refl _)] at hal; exact hal
   refine ⟨congrArg (fun b => AVal.raw (.bool b)) ?_, (by repeat first | exact hle | exact Mem.le_refl M | assumption | exact Mem.none_of_le hle (by assumption) | refine Mem.le_upd ?_ ?_)⟩
   unfold rightS
   rw [hal2]
   simp_all [emp] <;> congr
  ·have k3 := h3; try simp only [decide_eq_true_eq, decide_eq_false_iff_not, Bool.not_eq_true', Bool.not_eq_false', Bool.not_true, Bool.not_false, List.length_map, Decidable.not_not] at k3
   refine o_no rfl rfl rfl rfl h3 ?_
   refine o_no rfl rfl rfl rfl h3 ?_
   refine o_q (q_pick_c (t := true) rfl h3 (v_raw rfl)) rfl rfl rfl ?_
   refine o_q (q_as (v_raw rfl)) rfl rfl rfl ?_
   refine o_nil ?_
   refine s_ret ?_
   refine s_end ?_
   have hal2 : ((cutF s).1 ++ (cutF s).2.1).data.toList.all letterB = true := by
    have e : i = ((cutF s).1 ++ (cutF s).2.1).size := by omega
    rw [List.take_of_length_le (by rw [Array.length_toList, e]; exact Nat.le_refl _)] at hal; exact hal
   refine ⟨congrArg (fun b => AVal.raw (.bool b)) ?_, (by repeat first | exact hle | exact Mem.le_refl M | assumption | exact Mem.none_of_le hle (by assumption) | refine Mem.le_upd ?_ ?_)⟩
   unfold rightS
   rw [hal2]
   simp_all [emp] <;> congr

def tk92 : Nat → Nat → Option Nat
 | 5, 0 => some 0
 | 22, 0 => some 0
 | 22, 4 => some 0
 | _, _ => none
def pl92 : Nat → List PStep
 | 21 => [.q 0, .q 1, .q 2, .q 3]
 | _ => []
theorem cb92 : Tryz.f92.body.map (codeB Tryz.prog Tryz.f92.ntmps tk92 pl92) = some true := by kernel_rfl
theorem goes92 : goesB Tryz.prog 92 = true := by kernel_rfl

structure Itm where
 kind : Int
 n : Nat
 s : ByteArray
 deriving Inhabited
def encIt (x : Itm) : AVal := .agg [int x.kind, u64 x.n, str x.s]
theorem elsIt {l : List Itm} : Els 3 (l.map encIt) := Els.map fun _ => ⟨rfl, rfl⟩
abbrev szO (e : TypeId) (fr : Nat × Nat) : AObj := .it (.cells #[.int .i64 0, .int .i64 1, .int .i64 4, .int .i64 8, .int .i64 0] e fr)
/-- How many bytes a number of a kind has. -/
def szK (k : Int) : Nat := if k = 1 then 1 else if k = 2 then 4 else if k = 3 then 8 else 0
def kindB (c : UInt8) : Int := 1 + idxB letters c
/-- An item that is read, by a letter: it, what is left, the error. -/
def itemF (c : UInt8) (s : ByteArray) : Itm × ByteArray × Int :=
 if kindB c = 4 then (⟨4, 0, (textF s 0).1⟩, (textF s 0).2) else (⟨kindB c, (numF (szK (kindB c)) s 0).1, emp⟩, (numF (szK (kindB c)) s 0).2)
def decL (sh : ByteArray) (st : Int) : Nat → Int → ByteArray → List Itm → List Itm × Int
 | 0, _, _, _ => ([], 0)
 | f + 1, k, s, out =>
  let k1 := if k = sh.size ∧ 0 ≤ st then st else k
  if k1 = st ∧ 0 ≤ st ∧ s = emp then (out, 0) else
  let k2 := if k1 = st ∧ 0 ≤ st then k1 + 1 else k1
  if k2 < sh.size then
   if out.length = 1000 then ([], 3) else
   let r := itemF (sh.data[k2.toNat]!) s
   if r.2.2 ≠ 0 then ([], r.2.2) else decL sh st f (k2 + 1) r.2.1 (out ++ [r.1])
  else if s ≠ emp then ([], 10) else (out, 0)
theorem decL_succ (sh : ByteArray) (st : Int) (f : Nat) (k : Int) (s : ByteArray) (out : List Itm) : decL sh st (f + 1) k s out =
  if (if k = sh.size ∧ 0 ≤ st then st else k) = st ∧ 0 ≤ st ∧ s = emp then (out, 0) else
  if (if (if k = sh.size ∧ 0 ≤ st then st else k) = st ∧ 0 ≤ st then (if k = sh.size ∧ 0 ≤ st then st else k) + 1 else (if k = sh.size ∧ 0 ≤ st then st else k)) < sh.size then
   if out.length = 1000 then ([], 3) else
   if (itemF (sh.data[(if (if k = sh.size ∧ 0 ≤ st then st else k) = st ∧ 0 ≤ st then (if k = sh.size ∧ 0 ≤ st then st else k) + 1 else (if k = sh.size ∧ 0 ≤ st then st else k)).toNat]!) s).2.2 ≠ 0 then ([], (itemF (sh.data[(if (if k = sh.size ∧ 0 ≤ st then st else k) = st ∧ 0 ≤ st then (if k = sh.size ∧ 0 ≤ st then st else k) + 1 else (if k = sh.size ∧ 0 ≤ st then st else k)).toNat]!) s).2.2)
   else decL sh st f ((if (if k = sh.size ∧ 0 ≤ st then st else k) = st ∧ 0 ≤ st then (if k = sh.size ∧ 0 ≤ st then st else k) + 1 else (if k = sh.size ∧ 0 ≤ st then st else k)) + 1) (itemF (sh.data[(if (if k = sh.size ∧ 0 ≤ st then st else k) = st ∧ 0 ≤ st then (if k = sh.size ∧ 0 ≤ st then st else k) + 1 else (if k = sh.size ∧ 0 ≤ st then st else k)).toNat]!) s).2.1 (out ++ [(itemF (sh.data[(if (if k = sh.size ∧ 0 ≤ st then st else k) = st ∧ 0 ≤ st then (if k = sh.size ∧ 0 ≤ st then st else k) + 1 else (if k = sh.size ∧ 0 ≤ st then st else k)).toNat]!) s).1])
  else if s ≠ emp then ([], 10) else (out, 0) := rfl
def decF (sh s : ByteArray) : List Itm × Int := if rightS sh then decL sh (idxB sh 42) 1001 0 s [] else ([], 1)

theorem idx_letters (c : UInt8) : -1 ≤ idxB letters c ∧ idxB letters c ≤ 3 := by
 rcases idxB_cases letters c with ⟨n, h1, h2⟩ | h1
 ·have h3 : letters.size = 4 := rfl
  omega
 ·omega
theorem gpiece {k : Int} {o : Nat} (h0 : 0 ≤ k) (h1 : k < 4) (ho : o = k.toNat) : piece false ((#[Value.int .i64 0, .int .i64 1, .int .i64 4, .int .i64 8, .int .i64 0] : Array Value).toList.map AVal.raw) o 1 = some (int (szK k : Nat)) := by
 subst ho
 have h : k = 0 ∨ k = 1 ∨ k = 2 ∨ k = 3 := by omega
 rcases h with rfl | rfl | rfl | rfl <;> rfl
theorem szK_le (k : Int) : szK k ≤ 8 := by unfold szK; split <;> (try split) <;> (try split) <;> omega
theorem itemF_size (c : UInt8) (s : ByteArray) : (itemF c s).2.1.size ≤ s.size := by
 unfold itemF
 split
 ·exact textF_size s 0
 ·exact numF_size _ s 0
set_option maxHeartbeats 4000000 in
set_option maxRecDepth 20000 in
theorem snd92 (sh s : ByteArray) (ge : TypeId) (gf : Nat × Nat) (M : Mem) (hG : M 0 = some (szO ge gf)) (hsh : sh.size < 2 ^ 62) (hs : s.size < 2 ^ 62) : SoundCall Tryz.prog 92 [str sh, str s] M fun r M' => (∃ o, r = .tup [.sl ((decF sh s).1.map encIt) o, int (decF sh s).2]) ∧ M.le M' := by
 obtain ⟨N0, hN0⟩ : ∃ N0, N0 = 1001 := ⟨_, rfl⟩
 obtain ⟨st, hst⟩ : ∃ st, st = idxB sh 42 := ⟨_, rfl⟩
 have hsb : -1 ≤ st ∧ st < (sh.size : Int) := by
  rcases idxB_cases sh 42 with ⟨n, c1, c2⟩ | c1
  ·omega
  ·omega
 refine SoundCall.go tk92 pl92 mixed Tryz.func92 cb92 rfl (Nat.le_of_ble_eq_true rfl) ?_
 refine s_seq ?_
 refine s_region ?_
 refine o_q (q_as (v_sl rfl)) rfl rfl rfl ?_
 refine o_q (q_as (v_raw rfl)) rfl rfl rfl ?_
 refine o_nil ?_
 apply s_scopel 0 (fun m S => ∃ T, ∃ M' : Mem, ∃ b : Nat, ∃ k : Int, ∃ s' : ByteArray, ∃ out : List Itm, S = ⟨setT (setT (setT (setT (setT T 0 (str sh)) 6 (int st)) 7 (ptr b)) 8 (.sl (out.map encIt) true)) 9 (int k), M'⟩ ∧ M.le M' ∧ M b = none ∧ M' b = some (rdC s' 0) ∧ s'.size ≤ s.size ∧ out.length ≤ 1000 ∧ m + out.length = 1001 ∧ 0 ≤ k ∧ k ≤ sh.size ∧ decF sh s = decL sh st m k s' out) (N0) rfl
 ·intro N S hY
  refine aFrom_right rfl ?_
  refine aFrom_right rfl ?_
  refine aFrom_right rfl ?_
  refine aFrom_right rfl ?_
  refine aFrom_right rfl ?_
  refine aFrom_left rfl ?_
  refine aFrom_here ?_
  exact hY
 ·intro N m S hmN
  rintro ⟨T, M', b, k, s', out, rfl, hle, hb0, hb, hss, ho, hm, hk0, hkl, hd⟩
  obtain ⟨f, rfl⟩ : ∃ f, m = f + 1 := ⟨m - 1, by omega⟩
  clear hst hN0
  refine s_seq ?_
  refine s_seq ?_
  refine s_cut (fun S => ∃ T, S = ⟨setT (setT (setT (setT (setT (setT T 0 (str sh)) 6 (int st)) 7 (ptr b)) 8 (.sl (out.map encIt) true)) 9 (int k)) 25 (bool (decide (k = sh.size ∧ 0 ≤ st))), M'⟩) ?_ ?_
  ·skip
   refine s_region ?_
   refine o_q (q_mv (v_raw rfl)) rfl rfl rfl ?_
   refine o_q (q_mv (v_raw rfl)) rfl rfl rfl ?_
   refine o_q (q_lens rfl und9 rfl) rfl rfl rfl ?_
   refine o_q (q_eql rfl rfl) rfl rfl rfl ?_
   refine o_q (q_mv (v_raw rfl)) rfl rfl rfl ?_
   refine o_cases (want := true) (j := 4) rfl rfl (fun h1 => ?_) (fun h1 => ?_)
   ·have k1 := h1; try simp only [decide_eq_true_eq, decide_eq_false_iff_not, Bool.not_eq_true', Bool.not_eq_false', Bool.not_true, Bool.not_false, List.length_map, Decidable.not_not] at k1
    refine o_yes rfl rfl rfl h1 ?_
    refine o_q (q_mv (v_raw rfl)) rfl rfl rfl ?_
    refine o_yes rfl rfl rfl h1 ?_
    refine o_q (q_geq rfl rfl) rfl rfl rfl ?_
    refine o_q (q_pick_c (t := true) rfl h1 (v_raw rfl)) rfl rfl rfl ?_
    refine o_nil ?_
    refine s_inv ?_
    exact ⟨_, St.mkT (kp (kp (kp (kp (kp (kp rfl rfl) rfl) rfl) rfl) rfl) (congrArg (fun b => AVal.raw (.bool b)) (by simp_all))).symm⟩
   ·have k1 := h1; try simp only [decide_eq_true_eq, decide_eq_false_iff_not, Bool.not_eq_true', Bool.not_eq_false', Bool.not_true, Bool.not_false, List.length_map, Decidable.not_not] at k1
    refine o_no rfl rfl rfl rfl h1 ?_
    refine o_no rfl rfl rfl rfl h1 ?_
    refine o_q (q_pick_c (t := false) rfl h1 (v_raw rfl)) rfl rfl rfl ?_
    refine o_nil ?_
    refine s_inv ?_
    exact ⟨_, St.mkT (kp (kp (kp (kp (kp (kp rfl rfl) rfl) rfl) rfl) rfl) (congrArg (fun b => AVal.raw (.bool b)) (by simp_all))).symm⟩
  rintro S ⟨T, rfl⟩
  refine s_cut (fun S => ∃ T, S = ⟨setT (setT (setT (setT (setT T 0 (str sh)) 6 (int st)) 7 (ptr b)) 8 (.sl (out.map encIt) true)) 9 (int (if k = sh.size ∧ 0 ≤ st then st else k)), M'⟩) ?_ ?_
  ·skip
   refine s_cond rfl (fun h2 => ?_) (fun h2 => ?_)
   ·have k2 := h2; try simp only [decide_eq_true_eq, decide_eq_false_iff_not, Bool.not_eq_true', Bool.not_eq_false', Bool.not_true, Bool.not_false, List.length_map, Decidable.not_not] at k2
    refine s_region ?_
    refine o_q (q_mv (v_raw rfl)) rfl rfl rfl ?_
    refine o_q (q_as (v_raw rfl)) rfl rfl rfl ?_
    refine o_nil ?_
    refine s_inv ?_
    exact ⟨_, St.mkT (kp (kp (kp (kp (kp rfl rfl) rfl) rfl) rfl) (congrArg int (by first | exact (if_pos (by simpa using h2)).symm | exact (if_neg (by simpa using h2)).symm))).symm⟩
   ·have k2 := h2; try simp only [decide_eq_true_eq, decide_eq_false_iff_not, Bool.not_eq_true', Bool.not_eq_false', Bool.not_true, Bool.not_false, List.length_map, Decidable.not_not] at k2
    refine s_skip ?_
    refine s_inv ?_
    exact ⟨_, St.mkT (kp (kp (kp (kp (kp rfl rfl) rfl) rfl) rfl) (congrArg int (by first | exact (if_pos (by simpa using h2)).symm | exact (if_neg (by simpa using h2)).symm))).symm⟩
  rintro S ⟨T, rfl⟩
  obtain ⟨k1, hk1⟩ : ∃ k1, k1 = (if k = sh.size ∧ 0 ≤ st then st else k) := ⟨_, rfl⟩
  rw [← hk1]
  have hk1b : 0 ≤ k1 ∧ k1 ≤ sh.size := by rw [hk1]; split <;> omega
  refine s_seq ?_
  refine s_seq ?_
  refine s_cut (fun S => ∃ T, S = ⟨setT (setT (setT (setT (setT (setT T 0 (str sh)) 6 (int st)) 7 (ptr b)) 8 (.sl (out.map encIt) true)) 9 (int k1)) 33 (bool (decide (k1 = st ∧ 0 ≤ st))), M'⟩) ?_ ?_
  ·skip
   refine s_region ?_
   refine o_q (q_mv (v_raw rfl)) rfl rfl rfl ?_
   refine o_q (q_mv (v_raw rfl)) rfl rfl rfl ?_
   refine o_q (q_eql rfl rfl) rfl rfl rfl ?_
   refine o_q (q_mv (v_raw rfl)) rfl rfl rfl ?_
   refine o_cases (want := true) (j := 3) rfl rfl (fun h3 => ?_) (fun h3 => ?_)
   ·have k3 := h3; try simp only [decide_eq_true_eq, decide_eq_false_iff_not, Bool.not_eq_true', Bool.not_eq_false', Bool.not_true, Bool.not_false, List.length_map, Decidable.not_not] at k3
    refine o_yes rfl rfl rfl h3 ?_
    refine o_q (q_mv (v_raw rfl)) rfl rfl rfl ?_
    refine o_yes rfl rfl rfl h3 ?_
    refine o_q (q_geq rfl rfl) rfl rfl rfl ?_
    refine o_q (q_pick_c (t := true) rfl h3 (v_raw rfl)) rfl rfl rfl ?_
    refine o_nil ?_
    refine s_inv ?_
    exact ⟨_, St.mkT (kp (kp (kp (kp (kp (kp rfl rfl) rfl) rfl) rfl) rfl) (congrArg (fun b => AVal.raw (.bool b)) (by simp_all))).symm⟩
   ·have k3 := h3; try simp only [decide_eq_true_eq, decide_eq_false_iff_not, Bool.not_eq_true', Bool.not_eq_false', Bool.not_true, Bool.not_false, List.length_map, Decidable.not_not] at k3
    refine o_no rfl rfl rfl rfl h3 ?_
    refine o_no rfl rfl rfl rfl h3 ?_
    refine o_q (q_pick_c (t := false) rfl h3 (v_raw rfl)) rfl rfl rfl ?_
    refine o_nil ?_
    refine s_inv ?_
    exact ⟨_, St.mkT (kp (kp (kp (kp (kp (kp rfl rfl) rfl) rfl) rfl) rfl) (congrArg (fun b => AVal.raw (.bool b)) (by simp_all))).symm⟩
  rintro S ⟨T, rfl⟩
  refine s_cut (fun S => ∃ T, S = ⟨setT (setT (setT (setT (setT T 0 (str sh)) 6 (int st)) 7 (ptr b)) 8 (.sl (out.map encIt) true)) 9 (int (if k1 = st ∧ 0 ≤ st then k1 + 1 else k1)), M'⟩ ∧ ¬ (k1 = st ∧ 0 ≤ st ∧ s' = emp)) ?_ ?_
  ·skip
   refine s_cond rfl (fun h4 => ?_) (fun h4 => ?_)
   ·have k4 := h4; try simp only [decide_eq_true_eq, decide_eq_false_iff_not, Bool.not_eq_true', Bool.not_eq_false', Bool.not_true, Bool.not_false, List.length_map, Decidable.not_not] at k4
    refine s_seq ?_
    refine s_seq ?_
    refine s_region ?_
    refine o_q (q_fr fo231_0 rfl) rfl rfl rfl ?_
    refine o_q (q_ldm ag9 sz9 rfl mmQ rfl (v_raw rfl)) rfl rfl rfl ?_
    refine o_q (q_seql rfl rfl) rfl rfl rfl ?_
    refine o_nil ?_
    refine s_cond rfl (fun h5 => ?_) (fun h5 => ?_)
    ·have k5 := h5; try simp only [decide_eq_true_eq, decide_eq_false_iff_not, Bool.not_eq_true', Bool.not_eq_false', Bool.not_true, Bool.not_false, List.length_map, Decidable.not_not] at k5
     refine s_seq ?_
     refine s_region ?_
     refine o_q (q_mv (v_sl rfl)) rfl rfl rfl ?_
     refine o_q (q_as (v_sl rfl)) rfl rfl rfl ?_
     refine o_q (q_as (v_raw rfl)) rfl rfl rfl ?_
     refine o_nil ?_
     refine s_ret ?_
     refine s_code_ret ?_
     refine s_inv_ret ?_
     refine s_code_ret ?_
     refine s_scj_ret ?_
     refine s_end ?_
     have e1 : decL sh st (f + 1) k s' out = (out, 0) := by
      rw [decL_succ, ← hk1, if_pos (by simp_all [emp])]
     exact ret_many (.inl rfl) rfl (rl_t rfl (rl_t rfl rl_nil)) rfl ⟨⟨_, by rw [hd, e1]; rfl⟩, (by repeat first | exact hle | exact Mem.le_refl M | assumption | exact Mem.none_of_le hle (by assumption) | refine Mem.le_upd ?_ ?_)⟩
    ·have k5 := h5; try simp only [decide_eq_true_eq, decide_eq_false_iff_not, Bool.not_eq_true', Bool.not_eq_false', Bool.not_true, Bool.not_false, List.length_map, Decidable.not_not] at k5
     refine s_skip ?_
     refine s_region ?_
     refine o_q (q_mv (v_raw rfl)) rfl rfl rfl ?_
     refine o_q (q_add rfl rfl (wrap64 (by omega) (by omega))) rfl rfl rfl ?_
     refine o_q (q_as (v_raw rfl)) rfl rfl rfl ?_
     refine o_nil ?_
     refine s_inv ?_
     exact ⟨_, St.mkT (kp (kp (kp (kp (kp rfl rfl) rfl) rfl) rfl) (congrArg int (by first | exact (if_pos (by simpa using h4)).symm | exact (if_neg (by simpa using h4)).symm))).symm, (by first | exact fun h => k5 h.2.2 | exact fun h => absurd (And.intro h.1 h.2.1) (by simpa using h4))⟩
   ·have k4 := h4; try simp only [decide_eq_true_eq, decide_eq_false_iff_not, Bool.not_eq_true', Bool.not_eq_false', Bool.not_true, Bool.not_false, List.length_map, Decidable.not_not] at k4
    refine s_skip ?_
    refine s_inv ?_
    exact ⟨_, St.mkT (kp (kp (kp (kp (kp rfl rfl) rfl) rfl) rfl) (congrArg int (by first | exact (if_pos (by simpa using h4)).symm | exact (if_neg (by simpa using h4)).symm))).symm, (by first | exact fun h => k5 h.2.2 | exact fun h => absurd (And.intro h.1 h.2.1) (by simpa using h4))⟩
  rintro S ⟨T, rfl, hne⟩
  obtain ⟨k2, hk2⟩ : ∃ k2, k2 = (if k1 = st ∧ 0 ≤ st then k1 + 1 else k1) := ⟨_, rfl⟩
  rw [← hk2]
  have hk2b : 0 ≤ k2 ∧ k2 ≤ sh.size + 1 := by rw [hk2]; split <;> omega
  refine s_seq ?_
  refine s_seq ?_
  refine s_region ?_
  refine o_q (q_mv (v_raw rfl)) rfl rfl rfl ?_
  refine o_q (q_mv (v_raw rfl)) rfl rfl rfl ?_
  refine o_q (q_lens rfl und9 rfl) rfl rfl rfl ?_
  refine o_q (q_lss rfl rfl) rfl rfl rfl ?_
  refine o_nil ?_
  refine s_cond rfl (fun h6 => ?_) (fun h6 => ?_)
  ·have k6 := h6; try simp only [decide_eq_true_eq, decide_eq_false_iff_not, Bool.not_eq_true', Bool.not_eq_false', Bool.not_true, Bool.not_false, List.length_map, Decidable.not_not] at k6
   have hk3 : k2.toNat < sh.size := by omega
   have hix := idx_letters (sh.data[k2.toNat]'hk3)
   have hkb : kindB (sh.data[k2.toNat]'hk3) = 1 + idxB letters (sh.data[k2.toNat]'hk3) := rfl
   refine s_seq ?_
   refine s_region ?_
   refine o_q (q_mv (v_raw rfl)) rfl rfl rfl ?_
   refine o_q (q_mv (v_raw rfl)) rfl rfl rfl ?_
   refine o_q (q_stri (n := k2.toNat) und9 rfl rfl (by omega) hk3) rfl rfl rfl ?_
   refine o_call ((snd154 letters (sh.data[k2.toNat]'hk3) _)) goes154 (ac (v_raw rfl) (ac (v_raw rfl) ac_nil)) rfl ?_
   refine o_q (q_add rfl rfl (wrap64 (by omega) (by omega))) rfl rfl rfl ?_
   refine o_q (q_b (cs := [_, .raw (.int .u64 0), .raw (.string { data := #[] })]) bz102 bp102 (bf fo102_0 (e_raw rfl) rfl rfl (Nat.le_of_ble_eq_true rfl) rfl bf_nil)) rfl rfl rfl ?_
   refine o_alloc zc102 (fun B1 hB1 => ?_)
   have nb : b ≠ B1 := Mem.fresh_ne hB1 hb
   have nb' := nb.symm
   have m1 : M B1 = none := by have h := hB1; repeat (first | exact h | exact Mem.none_of_le hle h | replace h := (Mem.upd_none h).2)
   refine o_storew rfl mmQ mfQ rfl sz102 rfl rfl rfl rfl ?_
   refine o_nil ?_
   refine s_seq ?_
   refine s_seq ?_
   refine s_region ?_
   refine o_q (q_mv (v_sl rfl)) rfl rfl rfl ?_
   refine o_q (q_len rfl und105 rfl) rfl rfl rfl ?_
   refine o_q (q_eql rfl rfl) rfl rfl rfl ?_
   refine o_nil ?_
   refine s_cond rfl (fun h7 => ?_) (fun h7 => ?_)
   ·have k7 := h7; try simp only [decide_eq_true_eq, decide_eq_false_iff_not, Bool.not_eq_true', Bool.not_eq_false', Bool.not_true, Bool.not_false, List.length_map, Decidable.not_not] at k7
    refine s_seq ?_
    refine s_region ?_
    refine o_q (q_as (v_sl rfl)) rfl rfl rfl ?_
    refine o_q (q_as (v_raw rfl)) rfl rfl rfl ?_
    refine o_nil ?_
    refine s_ret ?_
    refine s_code_ret ?_
    refine s_code_ret ?_
    refine s_scj_ret ?_
    refine s_end ?_
    have e1 : decL sh st (f + 1) k s' out = ([], 3) := by
     rw [decL_succ, ← hk1, if_neg hne, ← hk2, if_pos (by omega), if_pos (by omega)]
    exact ret_many (.inl rfl) rfl (rl_t rfl (rl_t rfl rl_nil)) rfl ⟨⟨_, by rw [hd, e1]; rfl⟩, (by repeat first | exact hle | exact Mem.le_refl M | assumption | exact Mem.none_of_le hle (by assumption) | refine Mem.le_upd ?_ ?_)⟩
   ·have k7 := h7; try simp only [decide_eq_true_eq, decide_eq_false_iff_not, Bool.not_eq_true', Bool.not_eq_false', Bool.not_true, Bool.not_false, List.length_map, Decidable.not_not] at k7
    refine s_skip ?_
    refine s_seq ?_
    refine s_seq ?_
    refine s_region ?_
    refine o_q (q_fr fo102_0 rfl) rfl rfl rfl ?_
    refine o_q (q_ldm ag3 sz3 rfl mmQ rfl (v_raw rfl)) rfl rfl rfl ?_
    refine o_q (q_eql rfl rfl) rfl rfl rfl ?_
    refine o_nil ?_
    refine s_cut (fun S => ∃ T, ∃ M2 : Mem, S = ⟨setT (setT (setT (setT (setT (setT T 0 (str sh)) 6 (int st)) 7 (ptr b)) 8 (.sl (out.map encIt) true)) 9 (int k2)) 10 (ptr B1), M2⟩ ∧ M.le M2 ∧ M2 b = some (rdC (itemF (sh.data[k2.toNat]'hk3) s').2.1 (itemF (sh.data[k2.toNat]'hk3) s').2.2) ∧ M2 B1 = some (.cells [int (itemF (sh.data[k2.toNat]'hk3) s').1.kind, u64 (itemF (sh.data[k2.toNat]'hk3) s').1.n, str (itemF (sh.data[k2.toNat]'hk3) s').1.s])) ?_ ?_
    ·skip
     refine s_cond rfl (fun h8 => ?_) (fun h8 => ?_)
     ·have k8 := h8; try simp only [decide_eq_true_eq, decide_eq_false_iff_not, Bool.not_eq_true', Bool.not_eq_false', Bool.not_true, Bool.not_false, List.length_map, Decidable.not_not] at k8
      refine s_region ?_
      refine o_callx ((snd155 b s' 0 _ mmQ (by omega))) goes155 (ac (v_raw rfl) ac_nil) rfl ?_
      rintro r M2 ⟨rfl, hq⟩
      have hbq := hq b _ (Mem.upd_self _ _ _)
      have hle0 : M.le M2 := fun c q hc => hq c q (by repeat first | exact hle c q hc | refine Mem.upd_ne (Mem.ne_none hc (by assumption)) ?_)
      have hxq := hq B1 _ (by repeat first | exact Mem.upd_self _ _ _ | refine Mem.upd_ne (by assumption) ?_)
      refine o_q (q_fr fo102_2 rfl) rfl rfl rfl ?_
      refine o_store rfl mmQ meQ rfl sz9 rfl (Nat.le_of_ble_eq_true rfl) rfl rfl ?_
      refine o_nil ?_
      refine s_inv ?_
      have e2 : (itemF (sh.data[k2.toNat]'hk3) s') = (⟨4, 0, (textF s' 0).1⟩, (textF s' 0).2) := by unfold itemF; rw [if_pos (by omega)]
      rw [e2]
      exact ⟨_, _, St.mkT (kp (kp (kp (kp (kp (kp rfl rfl) rfl) rfl) rfl) rfl) rfl).symm, (by repeat first | exact hle | exact Mem.le_refl M | assumption | exact Mem.none_of_le hle (by assumption) | refine Mem.le_upd ?_ ?_), mmQ, by rw [Mem.upd_self]; show some (AObj.cells [int (1 + idxB letters (sh.data[k2.toNat]'hk3)), u64 0, str (textF s' 0).1]) = _; rw [k8]⟩
     ·have k8 := h8; try simp only [decide_eq_true_eq, decide_eq_false_iff_not, Bool.not_eq_true', Bool.not_eq_false', Bool.not_true, Bool.not_false, List.length_map, Decidable.not_not] at k8
      refine s_region ?_
      refine o_q (q_fr fo102_0 rfl) rfl rfl rfl ?_
      refine o_q (q_ldm ag3 sz3 rfl mmQ rfl (v_raw rfl)) rfl rfl rfl ?_
      refine o_q (q_idxa und183 sz3 rfl rfl (by omega) (by omega)) rfl rfl rfl ?_
      refine o_q (q_ldg ag3 sz3 rfl (by repeat first | exact hle 0 _ hG | refine Mem.upd_ne (Mem.ne_none hG m1) ?_) (gpiece (k := kindB (sh.data[k2.toNat]'hk3)) (by omega) (by omega) (by omega)) (v_raw rfl)) rfl rfl rfl ?_
      refine o_callx ((snd156 b (szK (kindB (sh.data[k2.toNat]'hk3))) s' 0 _ mmQ (szK_le _))) goes156 (ac (v_raw rfl) (ac (v_raw rfl) ac_nil)) rfl ?_
      rintro r M2 ⟨rfl, hq⟩
      have hbq := hq b _ (Mem.upd_self _ _ _)
      have hle0 : M.le M2 := fun c q hc => hq c q (by repeat first | exact hle c q hc | refine Mem.upd_ne (Mem.ne_none hc (by assumption)) ?_)
      have hxq := hq B1 _ (by repeat first | exact Mem.upd_self _ _ _ | refine Mem.upd_ne (by assumption) ?_)
      refine o_q (q_fr fo102_1 rfl) rfl rfl rfl ?_
      refine o_store rfl mmQ meQ rfl sz100 rfl (Nat.le_of_ble_eq_true rfl) rfl rfl ?_
      refine o_nil ?_
      refine s_inv ?_
      have e2 : (itemF (sh.data[k2.toNat]'hk3) s') = (⟨kindB (sh.data[k2.toNat]'hk3), (numF (szK (kindB (sh.data[k2.toNat]'hk3))) s' 0).1, emp⟩, (numF (szK (kindB (sh.data[k2.toNat]'hk3))) s' 0).2) := by unfold itemF; rw [if_neg (by omega)]
      rw [e2]
      exact ⟨_, _, St.mkT (kp (kp (kp (kp (kp (kp rfl rfl) rfl) rfl) rfl) rfl) rfl).symm, (by repeat first | exact hle | exact Mem.le_refl M | assumption | exact Mem.none_of_le hle (by assumption) | refine Mem.le_upd ?_ ?_), mmQ, mmQ⟩
    rintro S ⟨T, M2, rfl, hle2, hb2, hx2⟩
    refine s_seq ?_
    refine s_seq ?_
    refine s_region ?_
    refine o_q (q_fr fo231_1 rfl) rfl rfl rfl ?_
    refine o_q (q_ldm ag25 sz25 rfl mmQ rfl (v_raw rfl)) rfl rfl rfl ?_
    refine o_q (q_neq rfl rfl) rfl rfl rfl ?_
    refine o_nil ?_
    refine s_cond rfl (fun h9 => ?_) (fun h9 => ?_)
    ·have k9 := h9; try simp only [decide_eq_true_eq, decide_eq_false_iff_not, Bool.not_eq_true', Bool.not_eq_false', Bool.not_true, Bool.not_false, List.length_map, Decidable.not_not] at k9
     refine s_seq ?_
     refine s_draw rfl ?_
     refine d_q rfl (q_fr fo231_1 rfl) rfl rfl rfl ?_
     refine d_q rfl (q_ldm ag25 sz25 rfl mmQ rfl (v_raw rfl)) rfl rfl rfl ?_
     refine d_q rfl (q_as (v_sl rfl)) rfl rfl rfl ?_
     refine d_q rfl (q_as (v_raw rfl)) rfl rfl rfl ?_
     refine d_nil ?_
     refine s_ret ?_
     refine s_code_ret ?_
     refine s_code_ret ?_
     refine s_scj_ret ?_
     refine s_end ?_
     have e1 : decL sh st (f + 1) k s' out = ([], (itemF (sh.data[k2.toNat]'hk3) s').2.2) := by
      rw [decL_succ, ← hk1, if_neg hne, ← hk2, if_pos (by omega), if_neg (by omega), show sh.data[k2.toNat]! = sh.data[k2.toNat] from getElem!_pos sh.data k2.toNat hk3, if_pos (by simpa using k9)]
     exact ret_many (.inl rfl) rfl (rl_t rfl (rl_t rfl rl_nil)) rfl ⟨⟨_, by rw [hd, e1]; rfl⟩, (by repeat first | exact hle | exact Mem.le_refl M | assumption | exact Mem.none_of_le hle (by assumption) | refine Mem.le_upd ?_ ?_)⟩
    ·have k9 := h9; try simp only [decide_eq_true_eq, decide_eq_false_iff_not, Bool.not_eq_true', Bool.not_eq_false', Bool.not_true, Bool.not_false, List.length_map, Decidable.not_not] at k9
     refine s_skip ?_
     refine s_seq ?_
     refine s_region ?_
     refine o_qs (q_mv_own rfl) rfl rfl rfl rfl ?_
     refine o_q (q_ldm ag102 sz102 rfl mmQ rfl (v_agg rfl)) rfl rfl rfl ?_
     refine o_q (q_bs slt105 (pc (v_agg rfl) pn) rfl (Els.cons rfl rfl Els.nil) (by decide)) rfl rfl rfl ?_
     refine o_qs (q_app slt105 rfl rfl rfl rfl elsIt (by first | exact elsIt | exact Els.cons rfl rfl Els.nil) (by simp; omega)) rfl rfl rfl rfl ?_
     refine o_qs (q_as_own rfl) rfl rfl rfl rfl ?_
     refine o_nil ?_
     refine s_seq ?_
     refine s_region ?_
     refine o_q (q_mv (v_raw rfl)) rfl rfl rfl ?_
     refine o_q (q_add rfl rfl (wrap64 (by omega) (by omega))) rfl rfl rfl ?_
     refine o_q (q_as (v_raw rfl)) rfl rfl rfl ?_
     refine o_nil ?_
     refine s_goto ?_
     refine s_code_goto ?_
     refine s_scj_here ?_
     have e1 : decL sh st (f + 1) k s' out = decL sh st f (k2 + 1) (itemF (sh.data[k2.toNat]'hk3) s').2.1 (out ++ [(itemF (sh.data[k2.toNat]'hk3) s').1]) := by
      rw [decL_succ, ← hk1, if_neg hne, ← hk2, if_pos (by omega), if_neg (by omega), show sh.data[k2.toNat]! = sh.data[k2.toNat] from getElem!_pos sh.data k2.toNat hk3, if_neg (by simpa using k9)]
     have hz : (itemF (sh.data[k2.toNat]'hk3) s').2.2 = 0 := by simpa using k9
     have his := itemF_size (sh.data[k2.toNat]'hk3) s'
     exact ⟨f, by omega, _, _, b, k2 + 1, (itemF (sh.data[k2.toNat]'hk3) s').2.1, out ++ [(itemF (sh.data[k2.toNat]'hk3) s').1], St.mkT (kp (kp (kp (kp (kp rfl rfl) rfl) rfl) (congrArg (fun l => AVal.sl l true) (by rw [List.map_append]; rfl))) rfl).symm, (by repeat first | exact hle | exact Mem.le_refl M | assumption | exact Mem.none_of_le hle (by assumption) | refine Mem.le_upd ?_ ?_), hb0, by rw [hb2, hz], by omega, by simp; omega, by simp; omega, by omega, by omega, by rw [hd, e1]⟩
  ·have k6 := h6; try simp only [decide_eq_true_eq, decide_eq_false_iff_not, Bool.not_eq_true', Bool.not_eq_false', Bool.not_true, Bool.not_false, List.length_map, Decidable.not_not] at k6
   refine s_skip ?_
   refine s_seq ?_
   refine s_seq ?_
   refine s_region ?_
   refine o_q (q_fr fo231_0 rfl) rfl rfl rfl ?_
   refine o_q (q_ldm ag9 sz9 rfl mmQ rfl (v_raw rfl)) rfl rfl rfl ?_
   refine o_q (q_sneq rfl rfl) rfl rfl rfl ?_
   refine o_nil ?_
   refine s_cond rfl (fun h10 => ?_) (fun h10 => ?_)
   ·have k10 := h10; try simp only [decide_eq_true_eq, decide_eq_false_iff_not, Bool.not_eq_true', Bool.not_eq_false', Bool.not_true, Bool.not_false, List.length_map, Decidable.not_not] at k10
    refine s_seq ?_
    refine s_region ?_
    refine o_q (q_as (v_sl rfl)) rfl rfl rfl ?_
    refine o_q (q_as (v_raw rfl)) rfl rfl rfl ?_
    refine o_nil ?_
    refine s_ret ?_
    refine s_code_ret ?_
    refine s_scj_ret ?_
    refine s_end ?_
    have e1 : decL sh st (f + 1) k s' out = ([], 10) := by
     rw [decL_succ, ← hk1, if_neg hne, ← hk2, if_neg (by omega), if_pos (by simp_all [emp])]
    exact ret_many (.inl rfl) rfl (rl_t rfl (rl_t rfl rl_nil)) rfl ⟨⟨_, by rw [hd, e1]; rfl⟩, (by repeat first | exact hle | exact Mem.le_refl M | assumption | exact Mem.none_of_le hle (by assumption) | refine Mem.le_upd ?_ ?_)⟩
   ·have k10 := h10; try simp only [decide_eq_true_eq, decide_eq_false_iff_not, Bool.not_eq_true', Bool.not_eq_false', Bool.not_true, Bool.not_false, List.length_map, Decidable.not_not] at k10
    refine s_skip ?_
    refine s_seq ?_
    refine s_region ?_
    refine o_q (q_mv (v_sl rfl)) rfl rfl rfl ?_
    refine o_q (q_as (v_sl rfl)) rfl rfl rfl ?_
    refine o_q (q_as (v_raw rfl)) rfl rfl rfl ?_
    refine o_nil ?_
    refine s_ret ?_
    refine s_scj_ret ?_
    refine s_end ?_
    have e1 : decL sh st (f + 1) k s' out = (out, 0) := by
     rw [decL_succ, ← hk1, if_neg hne, ← hk2, if_neg (by omega), if_neg (by simp_all [emp])]
    exact ret_many (.inl rfl) rfl (rl_t rfl (rl_t rfl rl_nil)) rfl ⟨⟨_, by rw [hd, e1]; rfl⟩, (by repeat first | exact hle | exact Mem.le_refl M | assumption | exact Mem.none_of_le hle (by assumption) | refine Mem.le_upd ?_ ?_)⟩
 ·intro key
  refine s_seq ?_
  refine s_seq ?_
  refine s_region ?_
  refine o_q (q_mv (v_raw rfl)) rfl rfl rfl ?_
  refine o_callx ((snd153 sh hsh _)) goes153 (ac (v_raw rfl) ac_nil) rfl ?_
  rintro r M' ⟨rfl, hle⟩
  refine o_q (q_not rfl) rfl rfl rfl ?_
  refine o_nil ?_
  refine s_cond rfl (fun h11 => ?_) (fun h11 => ?_)
  ·have k11 := h11; try simp only [decide_eq_true_eq, decide_eq_false_iff_not, Bool.not_eq_true', Bool.not_eq_false', Bool.not_true, Bool.not_false, List.length_map, Decidable.not_not] at k11
   have e1 : decF sh s = ([], 1) := by unfold decF; simp_all
   refine s_seq ?_
   refine s_region ?_
   refine o_q (q_as (v_sl rfl)) rfl rfl rfl ?_
   refine o_q (q_as (v_raw rfl)) rfl rfl rfl ?_
   refine o_nil ?_
   refine s_ret ?_
   refine s_code_ret ?_
   refine s_scj_ret ?_
   refine s_end ?_
   exact ret_many (.inl rfl) rfl (rl_t rfl (rl_t rfl rl_nil)) rfl ⟨⟨_, by rw [e1]; rfl⟩, (by repeat first | exact hle | exact Mem.le_refl M | assumption | exact Mem.none_of_le hle (by assumption) | refine Mem.le_upd ?_ ?_)⟩
  ·have k11 := h11; try simp only [decide_eq_true_eq, decide_eq_false_iff_not, Bool.not_eq_true', Bool.not_eq_false', Bool.not_true, Bool.not_false, List.length_map, Decidable.not_not] at k11
   refine s_skip ?_
   refine s_seq ?_
   refine s_region ?_
   refine o_q (q_mv (v_raw rfl)) rfl rfl rfl ?_
   refine o_call ((by have h := snd154 sh 42 M'; rw [← hst] at h; exact h)) goes154 (ac (v_raw rfl) (ac (v_raw rfl) ac_nil)) rfl ?_
   refine o_q (q_as (v_raw rfl)) rfl rfl rfl ?_
   refine o_nil ?_
   refine s_seq ?_
   refine s_region ?_
   refine o_q (q_mv (v_raw rfl)) rfl rfl rfl ?_
   refine o_q (q_b (cs := [_, .raw (.int .i64 0)]) bz231 bp231 (bf fo231_0 (e_raw rfl) rfl rfl (Nat.le_of_ble_eq_true rfl) rfl bf_nil)) rfl rfl rfl ?_
   refine o_alloc zc231 (fun B2 hB2 => ?_)
   have m2 : M B2 = none := by have h := hB2; repeat (first | exact h | exact Mem.none_of_le hle h | replace h := (Mem.upd_none h).2)
   refine o_storew rfl mmQ mfQ rfl sz231 rfl rfl rfl rfl ?_
   refine o_nil ?_
   refine s_seq ?_
   refine s_region ?_
   refine o_q (q_as_const rfl) rfl rfl rfl ?_
   refine o_nil ?_
   refine s_seq ?_
   refine s_region ?_
   refine o_q (q_as (v_raw rfl)) rfl rfl rfl ?_
   refine o_nil ?_
   refine s_seq ?_
   refine s_label ?_
   exact key _ 1001 _ (by omega) ⟨_, _, B2, 0, s, [], St.mkT (kp (kp (kp (kp (kp rfl rfl) rfl) rfl) rfl) rfl).symm, (by repeat first | exact hle | exact Mem.le_refl M | assumption | exact Mem.none_of_le hle (by assumption) | refine Mem.le_upd ?_ ?_), (by repeat first | exact hle | exact Mem.le_refl M | assumption | exact Mem.none_of_le hle (by assumption) | refine Mem.le_upd ?_ ?_), mmQ, Nat.le_refl _, Nat.zero_le _, rfl, by omega, by omega, by unfold decF; simp_all⟩

def tk171 : Nat → Nat → Option Nat := fun _ _ => none
def pl171 : Nat → List PStep := fun _ => []
theorem cb171 : Tryz.f171.body.map (codeB Tryz.prog Tryz.f171.ntmps tk171 pl171) = some true := by kernel_rfl
theorem goes171 : goesB Tryz.prog 171 = true := by kernel_rfl

/-- The lowest bytes of a number, the greatest one first. -/
def lowB (v : Nat) : Nat → List UInt8
 | 0 => []
 | i + 1 => UInt8.ofNat (v / 256 ^ i % 256) :: lowB v i
theorem lowB_len (v n : Nat) : (lowB v n).length = n := by
 induction n with
 | zero => rfl
 | succ n ih => simp [lowB, ih]
def numB (v n : Nat) : ByteArray := ⟨(lowB v n).toArray⟩
def stB (v n i : Nat) : ByteArray := ⟨(List.replicate (n - i) 0 ++ lowB v i).toArray⟩
theorem stB_all (v n : Nat) : stB v n n = numB v n := by unfold stB numB; rw [Nat.sub_self]; rfl
theorem st_size {v n i : Nat} (h : i ≤ n) : (stB v n i).size = n := by
 show (List.replicate (n - i) 0 ++ lowB v i).toArray.size = n
 simp [lowB_len]; omega
theorem st_zero (v n : Nat) : (List.replicate n [AVal.raw (.int .u8 0)]).flatten = u8l (stB v n 0) := by
 unfold u8l stB
 simp [lowB]
theorem st_set {v n i o : Nat} (hi : i < n) (ho : o = n - 1 - i) : splice (u8l (stB v n i)) o [.raw (.int .u8 ((v / 256 ^ i % 256 : Nat) : Int))] = u8l (stB v n (i + 1)) := by
 subst ho
 have h1 : u8l (stB v n i) = List.replicate (n - 1 - i) (.raw (.int .u8 0)) ++ .raw (.int .u8 0) :: (lowB v i).map fun b => .raw (.int .u8 b.toNat) := by
  unfold u8l stB
  have e : n - i = (n - 1 - i) + 1 := by omega
  rw [e, List.replicate_succ']
  simp
 have h2 : u8l (stB v n (i + 1)) = List.replicate (n - 1 - i) (.raw (.int .u8 0)) ++ .raw (.int .u8 ((v / 256 ^ i % 256 : Nat) : Int)) :: (lowB v i).map fun b => .raw (.int .u8 b.toNat) := by
  unfold u8l stB
  have e : n - (i + 1) = n - 1 - i := by omega
  have e2 : (UInt8.ofNat (v / 256 ^ i % 256)).toNat = v / 256 ^ i % 256 := by simp
  rw [e]
  simp [lowB]
 rw [h1, h2]
 unfold splice
 have hl : (List.replicate (n - 1 - i) (AVal.raw (.int .u8 0))).length = n - 1 - i := List.length_replicate
 rw [List.take_left' hl, List.length_singleton, ← List.drop_drop, List.drop_left' hl]
 simp
theorem numB_size (v n : Nat) : (numB v n).size = n := by show (lowB v n).toArray.size = n; simp [lowB_len]
set_option maxHeartbeats 4000000 in
set_option maxRecDepth 20000 in
theorem snd171 (v n : Nat) (hv : v < 2 ^ 64) (h1n : 1 ≤ n) (hn : n ≤ 8) (M : Mem) : SoundCall Tryz.prog 171 [u64 v, int n] M fun r M' => r = str (numB v n) ∧ M.le M' := by
 refine SoundCall.go tk171 pl171 mixed Tryz.func171 cb171 rfl (Nat.le_of_ble_eq_true rfl) ?_
 refine s_seq ?_
 refine s_region ?_
 refine o_q (q_as (v_raw rfl)) rfl rfl rfl ?_
 refine o_nil ?_
 refine s_seq ?_
 refine s_region ?_
 refine o_q (q_mv (v_raw rfl)) rfl rfl rfl ?_
 refine o_makeSlice und181 sz5 by5 zc5 rfl (by decide) rfl rfl (by omega) (by omega) (by omega) (by omega) (fun B1 hB1 => ?_)
 have m1 : M B1 = none := by have h := hB1; repeat (first | exact h | exact Mem.none_of_le hle h | replace h := (Mem.upd_none h).2)
 refine o_q (q_as (v_raw rfl)) rfl rfl rfl ?_
 refine o_nil ?_
 refine s_seq ?_
 refine s_seq ?_
 refine s_region ?_
 refine o_q (q_mv (v_raw rfl)) rfl rfl rfl ?_
 refine o_q (q_sub rfl rfl (wrap64 (by omega) (by omega))) rfl rfl rfl ?_
 refine o_q (q_as (v_raw rfl)) rfl rfl rfl ?_
 refine o_nil ?_
 refine s_block ?_
 refine s_loop (fun m S => ∃ T, ∃ M' : Mem, ∃ i : Nat, S = ⟨setT (setT (setT (setT T 0 (u64 (v / 256 ^ i))) 1 (int n)) 5 (.raw (.slice (some ⟨B1, 0, none⟩) n n))) 6 (int ((n : Int) - 1 - i)), M'⟩ ∧ M.le M' ∧ M' B1 = some (.cells (u8l (stB v n i))) ∧ i ≤ n ∧ m = n - i) n ?_ ?_
 ·exact ⟨_, _, 0, St.mkT (kp (kp (kp (kp rfl (by show _ = u64 (v / 256 ^ 0); rw [Nat.pow_zero, Nat.div_one]; rfl)) rfl) rfl) (by show _ = int ((n : Int) - 1 - ((0 : Nat) : Int)); exact congrArg int (by omega))).symm, (by repeat first | exact hle | exact Mem.le_refl M | assumption | exact Mem.none_of_le hle (by assumption) | refine Mem.le_upd ?_ ?_), (Mem.upd_self _ _ _).trans (congrArg (fun l => some (AObj.cells l)) (st_zero v n)), by omega, rfl⟩
 rintro m S ⟨T, M', i, rfl, hle, bm1, hi, rfl⟩
 refine s_seq ?_
 refine s_seq ?_
 refine s_region ?_
 refine o_q (q_mv (v_raw rfl)) rfl rfl rfl ?_
 refine o_q (q_geq rfl rfl) rfl rfl rfl ?_
 refine o_nil ?_
 refine s_cond rfl (fun h1 => ?_) (fun h1 => ?_)
 ·have k1 := h1; try simp only [decide_eq_true_eq, decide_eq_false_iff_not, Bool.not_eq_true', Bool.not_eq_false', Bool.not_true, Bool.not_false, List.length_map, Decidable.not_not] at k1
  have hsz := st_size (v := v) (n := n) (i := i) hi
  refine s_skip ?_
  refine s_seq ?_
  refine s_block ?_
  refine s_seq ?_
  refine s_region ?_
  refine o_q (q_mv (v_raw rfl)) rfl rfl rfl ?_
  refine o_q (q_mv (v_raw rfl)) rfl rfl rfl ?_
  refine o_q (q_mv (v_raw rfl)) rfl rfl rfl ?_
  refine o_q (q_remn (n := 256) rfl rfl (by decide)) rfl rfl rfl ?_
  refine o_q (q_i2i und100 und5 rfl (u8_wrap (Nat.mod_lt _ (by decide)))) rfl rfl rfl ?_
  refine o_q (q_idxr und181 sz5 rfl rfl (by omega) (by omega)) rfl rfl rfl ?_
  refine o_store rfl mmQ meQ rfl sz5 rfl (by rw [u8l_length, hsz]; show 0 + ((n : Int) - 1 - (i : Int)).toNat * 1 + 1 ≤ n; omega) rfl (by exact st_set (v := v) (n := n) (i := i) (by omega) (by omega)) ?_
  refine o_nil ?_
  refine s_region ?_
  refine o_q (q_mv (v_raw rfl)) rfl rfl rfl ?_
  refine o_q (q_quou (n := 256) rfl rfl (by decide) (Nat.lt_of_le_of_lt (Nat.div_le_self _ _) hv)) rfl rfl rfl ?_
  refine o_q (q_as (v_raw rfl)) rfl rfl rfl ?_
  refine o_nil ?_
  refine s_blk_normal ?_
  refine s_region ?_
  refine o_q (q_mv (v_raw rfl)) rfl rfl rfl ?_
  refine o_q (q_sub rfl rfl (wrap64 (by omega) (by omega))) rfl rfl rfl ?_
  refine o_q (q_as (v_raw rfl)) rfl rfl rfl ?_
  refine o_nil ?_
  refine s_inv ?_
  exact ⟨n - (i + 1), by omega, _, _, i + 1, St.mkT (kp (kp (kp (kp rfl (by show _ = u64 (v / 256 ^ (i + 1)); exact congrArg u64 (by rw [Nat.pow_succ, Nat.div_div_eq_div_mul]))) rfl) rfl) (by show _ = int ((n : Int) - 1 - ((i + 1 : Nat) : Int)); exact congrArg int (by omega))).symm, (by repeat first | exact hle | exact Mem.le_refl M | assumption | exact Mem.none_of_le hle (by assumption) | refine Mem.le_upd ?_ ?_), mmQ, by omega, rfl⟩
 ·have k1 := h1; try simp only [decide_eq_true_eq, decide_eq_false_iff_not, Bool.not_eq_true', Bool.not_eq_false', Bool.not_true, Bool.not_false, List.length_map, Decidable.not_not] at k1
  refine s_exit ?_
  refine s_code_exit ?_
  refine s_inv_exit ?_
  refine s_blk_here ?_
  refine s_seq ?_
  refine s_region ?_
  refine o_q (q_mv (v_raw rfl)) rfl rfl rfl ?_
  refine o_q (q_b2s b2s181_9 rfl mmQ (by rw [u8l_length, st_size hi]; omega) (by rw [List.drop_zero, List.take_of_length_le (by rw [u8l_length, st_size hi]; exact Nat.le_refl _)]; exact aStr_u8l _) rfl) rfl rfl rfl ?_
  refine o_q (q_as (v_raw rfl)) rfl rfl rfl ?_
  refine o_nil ?_
  refine s_ret ?_
  refine s_end ?_
  obtain rfl : i = n := by omega
  exact ⟨by rw [← stB_all]; rfl, (by repeat first | exact hle | exact Mem.le_refl M | assumption | exact Mem.none_of_le hle (by assumption) | refine Mem.le_upd ?_ ?_)⟩

def tk170 : Nat → Nat → Option Nat := fun _ _ => none
def pl170 : Nat → List PStep := fun _ => []
theorem cb170 : Tryz.f170.body.map (codeB Tryz.prog Tryz.f170.ntmps tk170 pl170) = some true := by kernel_rfl
theorem goes170 : goesB Tryz.prog 170 = true := by kernel_rfl
set_option maxHeartbeats 4000000 in
set_option maxRecDepth 20000 in
theorem snd170 (k : Int) (M : Mem) : SoundCall Tryz.prog 170 [int k] M fun r M' => r = int (szK k : Nat) ∧ M' = M := by
 refine SoundCall.go tk170 pl170 mixed Tryz.func170 cb170 rfl (Nat.le_of_ble_eq_true rfl) ?_
 refine s_seq ?_
 refine s_region ?_
 refine o_q (q_as (v_raw rfl)) rfl rfl rfl ?_
 refine o_nil ?_
 refine s_seq ?_
 refine s_seq ?_
 refine s_region ?_
 refine o_q (q_mv (v_raw rfl)) rfl rfl rfl ?_
 refine o_nil ?_
 refine s_block ?_
 refine s_seq ?_
 refine s_region ?_
 refine o_q (q_eql rfl rfl) rfl rfl rfl ?_
 refine o_q (q_as (v_raw rfl)) rfl rfl rfl ?_
 refine o_nil ?_
 refine s_cond rfl (fun h1 => ?_) (fun h1 => ?_)
 ·have k1 := h1; try simp only [decide_eq_true_eq, decide_eq_false_iff_not, Bool.not_eq_true', Bool.not_eq_false', Bool.not_true, Bool.not_false, List.length_map, Decidable.not_not] at k1
  refine s_seq ?_
  refine s_region ?_
  refine o_q (q_as (v_raw rfl)) rfl rfl rfl ?_
  refine o_nil ?_
  refine s_ret ?_
  refine s_blk_ret ?_
  refine s_code_ret ?_
  refine s_end ?_
  exact ⟨congrArg int (by unfold szK; simp_all), rfl⟩
 ·have k1 := h1; try simp only [decide_eq_true_eq, decide_eq_false_iff_not, Bool.not_eq_true', Bool.not_eq_false', Bool.not_true, Bool.not_false, List.length_map, Decidable.not_not] at k1
  refine s_seq ?_
  refine s_region ?_
  refine o_q (q_eql rfl rfl) rfl rfl rfl ?_
  refine o_q (q_as (v_raw rfl)) rfl rfl rfl ?_
  refine o_nil ?_
  refine s_cond rfl (fun h2 => ?_) (fun h2 => ?_)
  ·have k2 := h2; try simp only [decide_eq_true_eq, decide_eq_false_iff_not, Bool.not_eq_true', Bool.not_eq_false', Bool.not_true, Bool.not_false, List.length_map, Decidable.not_not] at k2
   refine s_seq ?_
   refine s_region ?_
   refine o_q (q_as (v_raw rfl)) rfl rfl rfl ?_
   refine o_nil ?_
   refine s_ret ?_
   refine s_blk_ret ?_
   refine s_code_ret ?_
   refine s_end ?_
   exact ⟨congrArg int (by unfold szK; simp_all), rfl⟩
  ·have k2 := h2; try simp only [decide_eq_true_eq, decide_eq_false_iff_not, Bool.not_eq_true', Bool.not_eq_false', Bool.not_true, Bool.not_false, List.length_map, Decidable.not_not] at k2
   refine s_seq ?_
   refine s_region ?_
   refine o_q (q_eql rfl rfl) rfl rfl rfl ?_
   refine o_q (q_as (v_raw rfl)) rfl rfl rfl ?_
   refine o_nil ?_
   refine s_cond rfl (fun h3 => ?_) (fun h3 => ?_)
   ·have k3 := h3; try simp only [decide_eq_true_eq, decide_eq_false_iff_not, Bool.not_eq_true', Bool.not_eq_false', Bool.not_true, Bool.not_false, List.length_map, Decidable.not_not] at k3
    refine s_seq ?_
    refine s_region ?_
    refine o_q (q_as (v_raw rfl)) rfl rfl rfl ?_
    refine o_nil ?_
    refine s_ret ?_
    refine s_blk_ret ?_
    refine s_code_ret ?_
    refine s_end ?_
    exact ⟨congrArg int (by unfold szK; simp_all), rfl⟩
   ·have k3 := h3; try simp only [decide_eq_true_eq, decide_eq_false_iff_not, Bool.not_eq_true', Bool.not_eq_false', Bool.not_true, Bool.not_false, List.length_map, Decidable.not_not] at k3
    refine s_skip ?_
    refine s_blk_normal ?_
    refine s_seq ?_
    refine s_region ?_
    refine o_q (q_as (v_raw rfl)) rfl rfl rfl ?_
    refine o_nil ?_
    refine s_ret ?_
    refine s_end ?_
    exact ⟨congrArg int (by unfold szK; simp_all), rfl⟩

def tk108 : Nat → Nat → Option Nat := fun _ _ => none
def pl108 : Nat → List PStep
 | 8 => [.q 0, .q 1, .q 2, .q 3, .q 5, .q 6, .s 4 [6, 5, 2, 1, 0], .q 7, .q 8, .q 9]
 | _ => []
theorem cb108 : Tryz.f108.body.map (codeB Tryz.prog Tryz.f108.ntmps tk108 pl108) = some true := by kernel_rfl
theorem goes108 : goesB Tryz.prog 108 = true := by kernel_rfl

theorem w81_1 (M : Mem) : SoundCall Tryz.prog 170 [int 1] M fun r M' => r = int 1 ∧ M' = M := snd170 1 M
theorem w81_2 (M : Mem) : SoundCall Tryz.prog 170 [int 2] M fun r M' => r = int 4 ∧ M' = M := snd170 2 M
theorem w81_3 (M : Mem) : SoundCall Tryz.prog 170 [int 3] M fun r M' => r = int 8 ∧ M' = M := snd170 3 M
theorem w81_4 (M : Mem) : SoundCall Tryz.prog 170 [int 4] M fun r M' => r = int 0 ∧ M' = M := snd170 4 M
set_option maxHeartbeats 4000000 in
set_option maxRecDepth 20000 in
theorem snd108b (n : Nat) (hn : n < 2 ^ 8) (M : Mem) : SoundCall Tryz.prog 108 [.agg [int 1, u64 n, str emp]] M fun r M' => r = .tup [str (numB n 1), int 0] ∧ M.le M' := by
 refine SoundCall.go tk108 pl108 mixed Tryz.func108 cb108 rfl (Nat.le_of_ble_eq_true rfl) ?_
 refine s_seq ?_
 refine s_region ?_
 refine o_box (by first | exact e_raw rfl | exact e_agg rfl | exact e_sl rfl) rfl rfl (fun B1 hB1 => ?_)
 have m1 : M B1 = none := by have h := hB1; repeat (first | exact h | exact Mem.none_of_le hle h | replace h := (Mem.upd_none h).2)
 refine o_q (q_as (v_raw rfl)) rfl rfl rfl ?_
 refine o_q (q_as (v_raw rfl)) rfl rfl rfl ?_
 refine o_nil ?_
 refine s_seq ?_
 refine s_region ?_
 refine o_q (q_fr fo102_0 rfl) rfl rfl rfl ?_
 refine o_q (q_ldm ag3 sz3 rfl mmQ rfl (v_raw rfl)) rfl rfl rfl ?_
 refine o_call ((w81_1 _)) goes170 (ac (v_raw rfl) ac_nil) rfl ?_
 refine o_q (q_as (v_raw rfl)) rfl rfl rfl ?_
 refine o_nil ?_
 refine s_seq ?_
 refine s_seq ?_
 refine s_region ?_
 refine o_q (q_mv (v_raw rfl)) rfl rfl rfl ?_
 refine o_q (q_eql rfl rfl) rfl rfl rfl ?_
 refine o_q (q_mv (v_raw rfl)) rfl rfl rfl ?_
 refine o_no rfl rfl rfl rfl rfl ?_
 refine o_no rfl rfl rfl rfl rfl ?_
 refine o_no rfl rfl rfl rfl rfl ?_
 refine o_q (q_pick_c (t := false) rfl rfl (v_raw rfl)) rfl rfl rfl ?_
 refine o_q (q_mv (v_raw rfl)) rfl rfl rfl ?_
 refine o_yes rfl rfl rfl rfl ?_
 refine o_q (q_mv (v_raw rfl)) rfl rfl rfl ?_
 refine o_yes rfl rfl rfl rfl ?_
 refine o_q (q_gtr rfl rfl) rfl rfl rfl ?_
 refine o_yes rfl rfl rfl rfl ?_
 refine o_q (q_mv (v_raw rfl)) rfl rfl rfl ?_
 refine o_yes rfl rfl rfl rfl ?_
 refine o_q (q_fr fo102_2 rfl) rfl rfl rfl ?_
 refine o_yes rfl rfl rfl rfl ?_
 refine o_q (q_ldm ag9 sz9 rfl mmQ rfl (v_raw rfl)) rfl rfl rfl ?_
 refine o_yes rfl rfl rfl rfl ?_
 refine o_q (q_sneq rfl rfl) rfl rfl rfl ?_
 refine o_yes rfl rfl rfl rfl ?_
 refine o_q (q_pick_c (t := true) rfl rfl (v_raw rfl)) rfl rfl rfl ?_
 refine o_q (q_pick_c (t := false) rfl rfl (v_raw rfl)) rfl rfl rfl ?_
 refine o_q (q_mv (v_raw rfl)) rfl rfl rfl ?_
 refine o_yes rfl rfl rfl rfl ?_
 refine o_q (q_mv (v_raw rfl)) rfl rfl rfl ?_
 refine o_yes rfl rfl rfl rfl ?_
 refine o_q (q_eql rfl rfl) rfl rfl rfl ?_
 refine o_yes rfl rfl rfl rfl ?_
 refine o_q (q_mv (v_raw rfl)) rfl rfl rfl ?_
 refine o_no rfl rfl rfl rfl rfl ?_
 refine o_no rfl rfl rfl rfl rfl ?_
 refine o_no rfl rfl rfl rfl rfl ?_
 refine o_yes rfl rfl rfl rfl ?_
 refine o_q (q_pick_c (t := false) rfl rfl (v_raw rfl)) rfl rfl rfl ?_
 refine o_q (q_pick_c (t := false) rfl rfl (v_raw rfl)) rfl rfl rfl ?_
 refine o_q (q_mv (v_raw rfl)) rfl rfl rfl ?_
 refine o_yes rfl rfl rfl rfl ?_
 refine o_q (q_mv (v_raw rfl)) rfl rfl rfl ?_
 refine o_yes rfl rfl rfl rfl ?_
 refine o_q (q_gtr rfl rfl) rfl rfl rfl ?_
 refine o_yes rfl rfl rfl rfl ?_
 refine o_q (q_mv (v_raw rfl)) rfl rfl rfl ?_
 refine o_yes rfl rfl rfl rfl ?_
 refine o_q (q_mv (v_raw rfl)) rfl rfl rfl ?_
 refine o_yes rfl rfl rfl rfl ?_
 refine o_q (q_lss rfl rfl) rfl rfl rfl ?_
 refine o_yes rfl rfl rfl rfl ?_
 refine o_q (q_pick_c (t := true) rfl rfl (v_raw rfl)) rfl rfl rfl ?_
 refine o_yes rfl rfl rfl rfl ?_
 refine o_q (q_mv (v_raw rfl)) rfl rfl rfl ?_
 refine o_yes rfl rfl rfl rfl ?_
 refine o_q (q_fr fo102_1 rfl) rfl rfl rfl ?_
 refine o_yes rfl rfl rfl rfl ?_
 refine o_q (q_ldm ag100 sz100 rfl mmQ rfl (v_raw rfl)) rfl rfl rfl ?_
 refine o_yes rfl rfl rfl rfl ?_
 refine o_q (q_mv (v_raw rfl)) rfl rfl rfl ?_
 refine o_yes rfl rfl rfl rfl ?_
 refine o_q (q_mul rfl rfl (wrap64 (by omega) (by omega))) rfl rfl rfl ?_
 refine o_yes rfl rfl rfl rfl ?_
 refine o_q (q_shru (n := 8) rfl rfl (by decide)) rfl rfl rfl ?_
 refine o_yes rfl rfl rfl rfl ?_
 refine o_q (q_neq rfl rfl) rfl rfl rfl ?_
 refine o_yes rfl rfl rfl rfl ?_
 refine o_q (q_pick_c (t := true) rfl rfl (v_raw rfl)) rfl rfl rfl ?_
 refine o_q (q_pick_c (t := false) rfl rfl (v_raw rfl)) rfl rfl rfl ?_
 refine o_nil ?_
 refine s_else rfl (by show (!decide (((n / 2 ^ 8 : Nat) : Int) = 0)) = false; have h0 : n / 2 ^ 8 = 0 := Nat.div_eq_of_lt hn; rw [h0]; rfl) ?_
 refine s_skip ?_
 refine s_seq ?_
 refine s_seq ?_
 refine s_region ?_
 refine o_q (q_mv (v_raw rfl)) rfl rfl rfl ?_
 refine o_q (q_gtr rfl rfl) rfl rfl rfl ?_
 refine o_nil ?_
 refine s_then rfl rfl ?_
 refine s_seq ?_
 refine s_region ?_
 refine o_q (q_fr fo102_1 rfl) rfl rfl rfl ?_
 refine o_q (q_ldm ag100 sz100 rfl mmQ rfl (v_raw rfl)) rfl rfl rfl ?_
 refine o_q (q_mv (v_raw rfl)) rfl rfl rfl ?_
 refine o_callx ((snd171 n 1 (by omega) (by decide) (by decide) _)) goes171 (ac (v_raw rfl) (ac (v_raw rfl) ac_nil)) rfl ?_
 rintro r M' ⟨rfl, hq⟩
 have bm1 := hq B1 _ (Mem.upd_self _ _ _)
 have hle : M.le M' := fun c o hc => hq c o (Mem.upd_ne (Mem.ne_none hc m1) hc)
 refine o_q (q_as (v_raw rfl)) rfl rfl rfl ?_
 refine o_q (q_as (v_raw rfl)) rfl rfl rfl ?_
 refine o_nil ?_
 refine s_ret ?_
 refine s_code_ret ?_
 refine s_end ?_
 exact ret_many (.inl rfl) rfl (rl_t rfl (rl_t rfl rl_nil)) rfl ⟨rfl, (by repeat first | exact hle | exact Mem.le_refl M | assumption | exact Mem.none_of_le hle (by assumption) | refine Mem.le_upd ?_ ?_)⟩

set_option maxHeartbeats 4000000 in
set_option maxRecDepth 20000 in
theorem snd108w (n : Nat) (hn : n < 2 ^ 32) (M : Mem) : SoundCall Tryz.prog 108 [.agg [int 2, u64 n, str emp]] M fun r M' => r = .tup [str (numB n 4), int 0] ∧ M.le M' := by
 refine SoundCall.go tk108 pl108 mixed Tryz.func108 cb108 rfl (Nat.le_of_ble_eq_true rfl) ?_
 refine s_seq ?_
 refine s_region ?_
 refine o_box (by first | exact e_raw rfl | exact e_agg rfl | exact e_sl rfl) rfl rfl (fun B1 hB1 => ?_)
 have m1 : M B1 = none := by have h := hB1; repeat (first | exact h | exact Mem.none_of_le hle h | replace h := (Mem.upd_none h).2)
 refine o_q (q_as (v_raw rfl)) rfl rfl rfl ?_
 refine o_q (q_as (v_raw rfl)) rfl rfl rfl ?_
 refine o_nil ?_
 refine s_seq ?_
 refine s_region ?_
 refine o_q (q_fr fo102_0 rfl) rfl rfl rfl ?_
 refine o_q (q_ldm ag3 sz3 rfl mmQ rfl (v_raw rfl)) rfl rfl rfl ?_
 refine o_call ((w81_2 _)) goes170 (ac (v_raw rfl) ac_nil) rfl ?_
 refine o_q (q_as (v_raw rfl)) rfl rfl rfl ?_
 refine o_nil ?_
 refine s_seq ?_
 refine s_seq ?_
 refine s_region ?_
 refine o_q (q_mv (v_raw rfl)) rfl rfl rfl ?_
 refine o_q (q_eql rfl rfl) rfl rfl rfl ?_
 refine o_q (q_mv (v_raw rfl)) rfl rfl rfl ?_
 refine o_no rfl rfl rfl rfl rfl ?_
 refine o_no rfl rfl rfl rfl rfl ?_
 refine o_no rfl rfl rfl rfl rfl ?_
 refine o_q (q_pick_c (t := false) rfl rfl (v_raw rfl)) rfl rfl rfl ?_
 refine o_q (q_mv (v_raw rfl)) rfl rfl rfl ?_
 refine o_yes rfl rfl rfl rfl ?_
 refine o_q (q_mv (v_raw rfl)) rfl rfl rfl ?_
 refine o_yes rfl rfl rfl rfl ?_
 refine o_q (q_gtr rfl rfl) rfl rfl rfl ?_
 refine o_yes rfl rfl rfl rfl ?_
 refine o_q (q_mv (v_raw rfl)) rfl rfl rfl ?_
 refine o_yes rfl rfl rfl rfl ?_
 refine o_q (q_fr fo102_2 rfl) rfl rfl rfl ?_
 refine o_yes rfl rfl rfl rfl ?_
 refine o_q (q_ldm ag9 sz9 rfl mmQ rfl (v_raw rfl)) rfl rfl rfl ?_
 refine o_yes rfl rfl rfl rfl ?_
 refine o_q (q_sneq rfl rfl) rfl rfl rfl ?_
 refine o_yes rfl rfl rfl rfl ?_
 refine o_q (q_pick_c (t := true) rfl rfl (v_raw rfl)) rfl rfl rfl ?_
 refine o_q (q_pick_c (t := false) rfl rfl (v_raw rfl)) rfl rfl rfl ?_
 refine o_q (q_mv (v_raw rfl)) rfl rfl rfl ?_
 refine o_yes rfl rfl rfl rfl ?_
 refine o_q (q_mv (v_raw rfl)) rfl rfl rfl ?_
 refine o_yes rfl rfl rfl rfl ?_
 refine o_q (q_eql rfl rfl) rfl rfl rfl ?_
 refine o_yes rfl rfl rfl rfl ?_
 refine o_q (q_mv (v_raw rfl)) rfl rfl rfl ?_
 refine o_no rfl rfl rfl rfl rfl ?_
 refine o_no rfl rfl rfl rfl rfl ?_
 refine o_no rfl rfl rfl rfl rfl ?_
 refine o_yes rfl rfl rfl rfl ?_
 refine o_q (q_pick_c (t := false) rfl rfl (v_raw rfl)) rfl rfl rfl ?_
 refine o_q (q_pick_c (t := false) rfl rfl (v_raw rfl)) rfl rfl rfl ?_
 refine o_q (q_mv (v_raw rfl)) rfl rfl rfl ?_
 refine o_yes rfl rfl rfl rfl ?_
 refine o_q (q_mv (v_raw rfl)) rfl rfl rfl ?_
 refine o_yes rfl rfl rfl rfl ?_
 refine o_q (q_gtr rfl rfl) rfl rfl rfl ?_
 refine o_yes rfl rfl rfl rfl ?_
 refine o_q (q_mv (v_raw rfl)) rfl rfl rfl ?_
 refine o_yes rfl rfl rfl rfl ?_
 refine o_q (q_mv (v_raw rfl)) rfl rfl rfl ?_
 refine o_yes rfl rfl rfl rfl ?_
 refine o_q (q_lss rfl rfl) rfl rfl rfl ?_
 refine o_yes rfl rfl rfl rfl ?_
 refine o_q (q_pick_c (t := true) rfl rfl (v_raw rfl)) rfl rfl rfl ?_
 refine o_yes rfl rfl rfl rfl ?_
 refine o_q (q_mv (v_raw rfl)) rfl rfl rfl ?_
 refine o_yes rfl rfl rfl rfl ?_
 refine o_q (q_fr fo102_1 rfl) rfl rfl rfl ?_
 refine o_yes rfl rfl rfl rfl ?_
 refine o_q (q_ldm ag100 sz100 rfl mmQ rfl (v_raw rfl)) rfl rfl rfl ?_
 refine o_yes rfl rfl rfl rfl ?_
 refine o_q (q_mv (v_raw rfl)) rfl rfl rfl ?_
 refine o_yes rfl rfl rfl rfl ?_
 refine o_q (q_mul rfl rfl (wrap64 (by omega) (by omega))) rfl rfl rfl ?_
 refine o_yes rfl rfl rfl rfl ?_
 refine o_q (q_shru (n := 32) rfl rfl (by decide)) rfl rfl rfl ?_
 refine o_yes rfl rfl rfl rfl ?_
 refine o_q (q_neq rfl rfl) rfl rfl rfl ?_
 refine o_yes rfl rfl rfl rfl ?_
 refine o_q (q_pick_c (t := true) rfl rfl (v_raw rfl)) rfl rfl rfl ?_
 refine o_q (q_pick_c (t := false) rfl rfl (v_raw rfl)) rfl rfl rfl ?_
 refine o_nil ?_
 refine s_else rfl (by show (!decide (((n / 2 ^ 32 : Nat) : Int) = 0)) = false; have h0 : n / 2 ^ 32 = 0 := Nat.div_eq_of_lt hn; rw [h0]; rfl) ?_
 refine s_skip ?_
 refine s_seq ?_
 refine s_seq ?_
 refine s_region ?_
 refine o_q (q_mv (v_raw rfl)) rfl rfl rfl ?_
 refine o_q (q_gtr rfl rfl) rfl rfl rfl ?_
 refine o_nil ?_
 refine s_then rfl rfl ?_
 refine s_seq ?_
 refine s_region ?_
 refine o_q (q_fr fo102_1 rfl) rfl rfl rfl ?_
 refine o_q (q_ldm ag100 sz100 rfl mmQ rfl (v_raw rfl)) rfl rfl rfl ?_
 refine o_q (q_mv (v_raw rfl)) rfl rfl rfl ?_
 refine o_callx ((snd171 n 4 (by omega) (by decide) (by decide) _)) goes171 (ac (v_raw rfl) (ac (v_raw rfl) ac_nil)) rfl ?_
 rintro r M' ⟨rfl, hq⟩
 have bm1 := hq B1 _ (Mem.upd_self _ _ _)
 have hle : M.le M' := fun c o hc => hq c o (Mem.upd_ne (Mem.ne_none hc m1) hc)
 refine o_q (q_as (v_raw rfl)) rfl rfl rfl ?_
 refine o_q (q_as (v_raw rfl)) rfl rfl rfl ?_
 refine o_nil ?_
 refine s_ret ?_
 refine s_code_ret ?_
 refine s_end ?_
 exact ret_many (.inl rfl) rfl (rl_t rfl (rl_t rfl rl_nil)) rfl ⟨rfl, (by repeat first | exact hle | exact Mem.le_refl M | assumption | exact Mem.none_of_le hle (by assumption) | refine Mem.le_upd ?_ ?_)⟩

set_option maxHeartbeats 4000000 in
set_option maxRecDepth 20000 in
theorem snd108l (n : Nat) (hn : n < 2 ^ 64) (M : Mem) : SoundCall Tryz.prog 108 [.agg [int 3, u64 n, str emp]] M fun r M' => r = .tup [str (numB n 8), int 0] ∧ M.le M' := by
 refine SoundCall.go tk108 pl108 mixed Tryz.func108 cb108 rfl (Nat.le_of_ble_eq_true rfl) ?_
 refine s_seq ?_
 refine s_region ?_
 refine o_box (by first | exact e_raw rfl | exact e_agg rfl | exact e_sl rfl) rfl rfl (fun B1 hB1 => ?_)
 have m1 : M B1 = none := by have h := hB1; repeat (first | exact h | exact Mem.none_of_le hle h | replace h := (Mem.upd_none h).2)
 refine o_q (q_as (v_raw rfl)) rfl rfl rfl ?_
 refine o_q (q_as (v_raw rfl)) rfl rfl rfl ?_
 refine o_nil ?_
 refine s_seq ?_
 refine s_region ?_
 refine o_q (q_fr fo102_0 rfl) rfl rfl rfl ?_
 refine o_q (q_ldm ag3 sz3 rfl mmQ rfl (v_raw rfl)) rfl rfl rfl ?_
 refine o_call ((w81_3 _)) goes170 (ac (v_raw rfl) ac_nil) rfl ?_
 refine o_q (q_as (v_raw rfl)) rfl rfl rfl ?_
 refine o_nil ?_
 refine s_seq ?_
 refine s_seq ?_
 refine s_region ?_
 refine o_q (q_mv (v_raw rfl)) rfl rfl rfl ?_
 refine o_q (q_eql rfl rfl) rfl rfl rfl ?_
 refine o_q (q_mv (v_raw rfl)) rfl rfl rfl ?_
 refine o_no rfl rfl rfl rfl rfl ?_
 refine o_no rfl rfl rfl rfl rfl ?_
 refine o_no rfl rfl rfl rfl rfl ?_
 refine o_q (q_pick_c (t := false) rfl rfl (v_raw rfl)) rfl rfl rfl ?_
 refine o_q (q_mv (v_raw rfl)) rfl rfl rfl ?_
 refine o_yes rfl rfl rfl rfl ?_
 refine o_q (q_mv (v_raw rfl)) rfl rfl rfl ?_
 refine o_yes rfl rfl rfl rfl ?_
 refine o_q (q_gtr rfl rfl) rfl rfl rfl ?_
 refine o_yes rfl rfl rfl rfl ?_
 refine o_q (q_mv (v_raw rfl)) rfl rfl rfl ?_
 refine o_yes rfl rfl rfl rfl ?_
 refine o_q (q_fr fo102_2 rfl) rfl rfl rfl ?_
 refine o_yes rfl rfl rfl rfl ?_
 refine o_q (q_ldm ag9 sz9 rfl mmQ rfl (v_raw rfl)) rfl rfl rfl ?_
 refine o_yes rfl rfl rfl rfl ?_
 refine o_q (q_sneq rfl rfl) rfl rfl rfl ?_
 refine o_yes rfl rfl rfl rfl ?_
 refine o_q (q_pick_c (t := true) rfl rfl (v_raw rfl)) rfl rfl rfl ?_
 refine o_q (q_pick_c (t := false) rfl rfl (v_raw rfl)) rfl rfl rfl ?_
 refine o_q (q_mv (v_raw rfl)) rfl rfl rfl ?_
 refine o_yes rfl rfl rfl rfl ?_
 refine o_q (q_mv (v_raw rfl)) rfl rfl rfl ?_
 refine o_yes rfl rfl rfl rfl ?_
 refine o_q (q_eql rfl rfl) rfl rfl rfl ?_
 refine o_yes rfl rfl rfl rfl ?_
 refine o_q (q_mv (v_raw rfl)) rfl rfl rfl ?_
 refine o_no rfl rfl rfl rfl rfl ?_
 refine o_no rfl rfl rfl rfl rfl ?_
 refine o_no rfl rfl rfl rfl rfl ?_
 refine o_yes rfl rfl rfl rfl ?_
 refine o_q (q_pick_c (t := false) rfl rfl (v_raw rfl)) rfl rfl rfl ?_
 refine o_q (q_pick_c (t := false) rfl rfl (v_raw rfl)) rfl rfl rfl ?_
 refine o_q (q_mv (v_raw rfl)) rfl rfl rfl ?_
 refine o_yes rfl rfl rfl rfl ?_
 refine o_q (q_mv (v_raw rfl)) rfl rfl rfl ?_
 refine o_yes rfl rfl rfl rfl ?_
 refine o_q (q_gtr rfl rfl) rfl rfl rfl ?_
 refine o_yes rfl rfl rfl rfl ?_
 refine o_q (q_mv (v_raw rfl)) rfl rfl rfl ?_
 refine o_yes rfl rfl rfl rfl ?_
 refine o_q (q_mv (v_raw rfl)) rfl rfl rfl ?_
 refine o_yes rfl rfl rfl rfl ?_
 refine o_q (q_lss rfl rfl) rfl rfl rfl ?_
 refine o_yes rfl rfl rfl rfl ?_
 refine o_q (q_pick_c (t := true) rfl rfl (v_raw rfl)) rfl rfl rfl ?_
 refine o_yes rfl rfl rfl rfl ?_
 refine o_q (q_mv (v_raw rfl)) rfl rfl rfl ?_
 refine o_no rfl rfl rfl rfl rfl ?_
 refine o_no rfl rfl rfl rfl rfl ?_
 refine o_no rfl rfl rfl rfl rfl ?_
 refine o_no rfl rfl rfl rfl rfl ?_
 refine o_no rfl rfl rfl rfl rfl ?_
 refine o_no rfl rfl rfl rfl rfl ?_
 refine o_yes rfl rfl rfl rfl ?_
 refine o_q (q_pick_c (t := false) rfl rfl (v_raw rfl)) rfl rfl rfl ?_
 refine o_q (q_pick_c (t := false) rfl rfl (v_raw rfl)) rfl rfl rfl ?_
 refine o_nil ?_
 refine s_else rfl rfl ?_
 refine s_skip ?_
 refine s_seq ?_
 refine s_seq ?_
 refine s_region ?_
 refine o_q (q_mv (v_raw rfl)) rfl rfl rfl ?_
 refine o_q (q_gtr rfl rfl) rfl rfl rfl ?_
 refine o_nil ?_
 refine s_then rfl rfl ?_
 refine s_seq ?_
 refine s_region ?_
 refine o_q (q_fr fo102_1 rfl) rfl rfl rfl ?_
 refine o_q (q_ldm ag100 sz100 rfl mmQ rfl (v_raw rfl)) rfl rfl rfl ?_
 refine o_q (q_mv (v_raw rfl)) rfl rfl rfl ?_
 refine o_callx ((snd171 n 8 (by omega) (by decide) (by decide) _)) goes171 (ac (v_raw rfl) (ac (v_raw rfl) ac_nil)) rfl ?_
 rintro r M' ⟨rfl, hq⟩
 have bm1 := hq B1 _ (Mem.upd_self _ _ _)
 have hle : M.le M' := fun c o hc => hq c o (Mem.upd_ne (Mem.ne_none hc m1) hc)
 refine o_q (q_as (v_raw rfl)) rfl rfl rfl ?_
 refine o_q (q_as (v_raw rfl)) rfl rfl rfl ?_
 refine o_nil ?_
 refine s_ret ?_
 refine s_code_ret ?_
 refine s_end ?_
 exact ret_many (.inl rfl) rfl (rl_t rfl (rl_t rfl rl_nil)) rfl ⟨rfl, (by repeat first | exact hle | exact Mem.le_refl M | assumption | exact Mem.none_of_le hle (by assumption) | refine Mem.le_upd ?_ ?_)⟩

set_option maxHeartbeats 4000000 in
set_option maxRecDepth 20000 in
theorem snd108t (s : ByteArray) (hs : s.size ≤ 100000) (M : Mem) : SoundCall Tryz.prog 108 [.agg [int 4, u64 0, str s]] M fun r M' => r = .tup [str (numB s.size 4 ++ s), int 0] ∧ M.le M' := by
 have hz := numB_size s.size 4
 refine SoundCall.go tk108 pl108 mixed Tryz.func108 cb108 rfl (Nat.le_of_ble_eq_true rfl) ?_
 refine s_seq ?_
 refine s_region ?_
 refine o_box (by first | exact e_raw rfl | exact e_agg rfl | exact e_sl rfl) rfl rfl (fun B1 hB1 => ?_)
 have m1 : M B1 = none := by have h := hB1; repeat (first | exact h | exact Mem.none_of_le hle h | replace h := (Mem.upd_none h).2)
 refine o_q (q_as (v_raw rfl)) rfl rfl rfl ?_
 refine o_q (q_as (v_raw rfl)) rfl rfl rfl ?_
 refine o_nil ?_
 refine s_seq ?_
 refine s_region ?_
 refine o_q (q_fr fo102_0 rfl) rfl rfl rfl ?_
 refine o_q (q_ldm ag3 sz3 rfl mmQ rfl (v_raw rfl)) rfl rfl rfl ?_
 refine o_call ((w81_4 _)) goes170 (ac (v_raw rfl) ac_nil) rfl ?_
 refine o_q (q_as (v_raw rfl)) rfl rfl rfl ?_
 refine o_nil ?_
 refine s_seq ?_
 refine s_seq ?_
 refine s_region ?_
 refine o_q (q_mv (v_raw rfl)) rfl rfl rfl ?_
 refine o_q (q_eql rfl rfl) rfl rfl rfl ?_
 refine o_q (q_mv (v_raw rfl)) rfl rfl rfl ?_
 refine o_yes rfl rfl rfl rfl ?_
 refine o_q (q_fr fo102_0 rfl) rfl rfl rfl ?_
 refine o_yes rfl rfl rfl rfl ?_
 refine o_q (q_ldm ag3 sz3 rfl mmQ rfl (v_raw rfl)) rfl rfl rfl ?_
 refine o_yes rfl rfl rfl rfl ?_
 refine o_q (q_neq rfl rfl) rfl rfl rfl ?_
 refine o_q (q_pick_c (t := true) rfl rfl (v_raw rfl)) rfl rfl rfl ?_
 refine o_q (q_mv (v_raw rfl)) rfl rfl rfl ?_
 refine o_yes rfl rfl rfl rfl ?_
 refine o_q (q_mv (v_raw rfl)) rfl rfl rfl ?_
 refine o_yes rfl rfl rfl rfl ?_
 refine o_q (q_gtr rfl rfl) rfl rfl rfl ?_
 refine o_yes rfl rfl rfl rfl ?_
 refine o_q (q_mv (v_raw rfl)) rfl rfl rfl ?_
 refine o_no rfl rfl rfl rfl rfl ?_
 refine o_no rfl rfl rfl rfl rfl ?_
 refine o_no rfl rfl rfl rfl rfl ?_
 refine o_yes rfl rfl rfl rfl ?_
 refine o_q (q_pick_c (t := false) rfl rfl (v_raw rfl)) rfl rfl rfl ?_
 refine o_q (q_pick_c (t := false) rfl rfl (v_raw rfl)) rfl rfl rfl ?_
 refine o_q (q_mv (v_raw rfl)) rfl rfl rfl ?_
 refine o_yes rfl rfl rfl rfl ?_
 refine o_q (q_mv (v_raw rfl)) rfl rfl rfl ?_
 refine o_yes rfl rfl rfl rfl ?_
 refine o_q (q_eql rfl rfl) rfl rfl rfl ?_
 refine o_yes rfl rfl rfl rfl ?_
 refine o_q (q_mv (v_raw rfl)) rfl rfl rfl ?_
 refine o_yes rfl rfl rfl rfl ?_
 refine o_q (q_fr fo102_1 rfl) rfl rfl rfl ?_
 refine o_yes rfl rfl rfl rfl ?_
 refine o_q (q_ldm ag100 sz100 rfl mmQ rfl (v_raw rfl)) rfl rfl rfl ?_
 refine o_yes rfl rfl rfl rfl ?_
 refine o_q (q_neq rfl rfl) rfl rfl rfl ?_
 refine o_yes rfl rfl rfl rfl ?_
 refine o_q (q_pick_c (t := true) rfl rfl (v_raw rfl)) rfl rfl rfl ?_
 refine o_q (q_pick_c (t := false) rfl rfl (v_raw rfl)) rfl rfl rfl ?_
 refine o_q (q_mv (v_raw rfl)) rfl rfl rfl ?_
 refine o_yes rfl rfl rfl rfl ?_
 refine o_q (q_mv (v_raw rfl)) rfl rfl rfl ?_
 refine o_yes rfl rfl rfl rfl ?_
 refine o_q (q_gtr rfl rfl) rfl rfl rfl ?_
 refine o_yes rfl rfl rfl rfl ?_
 refine o_q (q_mv (v_raw rfl)) rfl rfl rfl ?_
 refine o_no rfl rfl rfl rfl rfl ?_
 refine o_no rfl rfl rfl rfl rfl ?_
 refine o_yes rfl rfl rfl rfl ?_
 refine o_q (q_pick_c (t := false) rfl rfl (v_raw rfl)) rfl rfl rfl ?_
 refine o_yes rfl rfl rfl rfl ?_
 refine o_q (q_mv (v_raw rfl)) rfl rfl rfl ?_
 refine o_no rfl rfl rfl rfl rfl ?_
 refine o_no rfl rfl rfl rfl rfl ?_
 refine o_no rfl rfl rfl rfl rfl ?_
 refine o_no rfl rfl rfl rfl rfl ?_
 refine o_no rfl rfl rfl rfl rfl ?_
 refine o_no rfl rfl rfl rfl rfl ?_
 refine o_yes rfl rfl rfl rfl ?_
 refine o_q (q_pick_c (t := false) rfl rfl (v_raw rfl)) rfl rfl rfl ?_
 refine o_q (q_pick_c (t := false) rfl rfl (v_raw rfl)) rfl rfl rfl ?_
 refine o_nil ?_
 refine s_else rfl rfl ?_
 refine s_skip ?_
 refine s_seq ?_
 refine s_seq ?_
 refine s_region ?_
 refine o_q (q_mv (v_raw rfl)) rfl rfl rfl ?_
 refine o_q (q_gtr rfl rfl) rfl rfl rfl ?_
 refine o_nil ?_
 refine s_else rfl rfl ?_
 refine s_skip ?_
 refine s_seq ?_
 refine s_seq ?_
 refine s_region ?_
 refine o_q (q_fr fo102_2 rfl) rfl rfl rfl ?_
 refine o_q (q_ldm ag9 sz9 rfl mmQ rfl (v_raw rfl)) rfl rfl rfl ?_
 refine o_q (q_lens rfl und9 rfl) rfl rfl rfl ?_
 refine o_q (q_gtr rfl rfl) rfl rfl rfl ?_
 refine o_nil ?_
 refine s_else rfl (decide_eq_false (by omega)) ?_
 refine s_skip ?_
 refine s_seq ?_
 refine s_draw rfl ?_
 refine d_q rfl (q_fr fo102_2 rfl) rfl rfl rfl ?_
 refine d_q rfl (q_ldm ag9 sz9 rfl mmQ rfl (v_raw rfl)) rfl rfl rfl ?_
 refine d_q rfl (q_lens rfl und9 rfl) rfl rfl rfl ?_
 refine d_q rfl (q_i2i und3 und100 rfl (u64_wrap (by omega) (by omega))) rfl rfl rfl ?_
 refine d_q rfl (q_fr fo102_2 rfl) rfl rfl rfl ?_
 refine d_q rfl (q_ldm ag9 sz9 rfl mmQ rfl (v_raw rfl)) rfl rfl rfl ?_
 refine d_s rfl ?_
 refine o_callx ((snd171 s.size 4 (by omega) (by decide) (by decide) _)) goes171 (ac (v_raw rfl) (ac (v_raw rfl) ac_nil)) rfl ?_
 rintro r M' ⟨rfl, hq⟩
 have bm1 := hq B1 _ (Mem.upd_self _ _ _)
 have hle : M.le M' := fun c o hc => hq c o (Mem.upd_ne (Mem.ne_none hc m1) hc)
 refine o_nil ⟨(by simp [Mem.upd, *]), ?_⟩
 refine d_q rfl (q_sadd rfl rfl (by omega)) rfl rfl rfl ?_
 refine d_q rfl (q_as (v_raw rfl)) rfl rfl rfl ?_
 refine d_q rfl (q_as (v_raw rfl)) rfl rfl rfl ?_
 refine d_nil ?_
 refine s_ret ?_
 refine s_end ?_
 exact ret_many (.inl rfl) rfl (rl_t rfl (rl_t rfl rl_nil)) rfl ⟨rfl, (by repeat first | exact hle | exact Mem.le_refl M | assumption | exact Mem.none_of_le hle (by assumption) | refine Mem.le_upd ?_ ?_)⟩

def tk62 : Nat → Nat → Option Nat := fun _ _ => none
def pl62 : Nat → List PStep := fun _ => []
theorem cb62 : Tryz.f62.body.map (codeB Tryz.prog Tryz.f62.ntmps tk62 pl62) = some true := by kernel_rfl
theorem goes62 : goesB Tryz.prog 62 = true := by kernel_rfl

def okI (x : Itm) : Prop := (x.kind = 1 ∧ x.n < 2 ^ 8 ∧ x.s = emp) ∨ (x.kind = 2 ∧ x.n < 2 ^ 32 ∧ x.s = emp) ∨ (x.kind = 3 ∧ x.n < 2 ^ 64 ∧ x.s = emp) ∨ (x.kind = 4 ∧ x.n = 0 ∧ x.s.size ≤ 100000)
def bytI (x : Itm) : ByteArray := if x.kind = 4 then numB x.s.size 4 ++ x.s else numB x.n (szK x.kind)
theorem bytI_size {x : Itm} (h : okI x) : (bytI x).size ≤ 100004 := by
 unfold bytI
 split
 ·rename_i e
  rw [ByteArray.size_append, numB_size]
  rcases h with h | h | h | h <;> first | omega | (exfalso; omega)
 ·rw [numB_size]
  have := szK_le x.kind
  omega
theorem one100 (x : Itm) (h : okI x) (M : Mem) : SoundCall Tryz.prog 108 [encIt x] M fun r M' => r = .tup [str (bytI x), int 0] ∧ M.le M' := by
 obtain ⟨k, n, s⟩ := x
 rcases h with ⟨h1, h2, h3⟩ | ⟨h1, h2, h3⟩ | ⟨h1, h2, h3⟩ | ⟨h1, h2, h3⟩ <;> dsimp only at h1 h2 h3 <;> subst h1
 ·subst h3; exact snd108b n h2 M
 ·subst h3; exact snd108w n h2 M
 ·subst h3; exact snd108l n h2 M
 ·subst h2; exact snd108t s h3 M
/-- Items as bytes. -/
def encAll (l : List Itm) : ByteArray := l.foldl (fun b x => b ++ bytI x) emp
theorem encAll_succ {l : List Itm} {i : Nat} (h : i < l.length) : encAll (l.take (i + 1)) = encAll (l.take i) ++ bytI l[i] := by
 unfold encAll
 rw [List.take_succ_eq_append_getElem h, List.foldl_append]; rfl
theorem encAll_size (l : List Itm) (h : ∀ x ∈ l, okI x) : ∀ i, i ≤ l.length → (encAll (l.take i)).size ≤ 100004 * i
 | 0, _ => Nat.le_refl 0
 | i + 1, hi => by
  have ih := encAll_size l h i (by omega)
  rw [encAll_succ (by omega), ByteArray.size_append]
  have := bytI_size (h l[i] (List.getElem_mem _))
  omega
set_option maxHeartbeats 4000000 in
set_option maxRecDepth 20000 in
theorem snd62 (l : List Itm) (o : Bool) (hl : l.length ≤ 1000) (h : ∀ x ∈ l, okI x) (M : Mem) : SoundCall Tryz.prog 62 [.sl (l.map encIt) o] M fun r M' => r = .tup [str (encAll l), int 0] ∧ M.le M' := by
 refine SoundCall.go tk62 pl62 mixed Tryz.func62 cb62 rfl (Nat.le_of_ble_eq_true rfl) ?_
 refine s_seq ?_
 refine s_region ?_
 refine o_q (q_as (v_raw rfl)) rfl rfl rfl ?_
 refine o_q (q_as (v_raw rfl)) rfl rfl rfl ?_
 refine o_nil ?_
 refine s_seq ?_
 refine s_seq ?_
 refine s_region ?_
 refine o_q (q_mv (v_sl rfl)) rfl rfl rfl ?_
 refine o_q (q_len rfl und105 rfl) rfl rfl rfl ?_
 refine o_q (q_gtr rfl rfl) rfl rfl rfl ?_
 refine o_nil ?_
 refine s_else rfl (decide_eq_false (by rw [List.length_map]; omega)) ?_
 refine s_skip ?_
 refine s_seq ?_
 refine s_region ?_
 refine o_q (q_as (v_raw rfl)) rfl rfl rfl ?_
 refine o_nil ?_
 refine s_seq ?_
 refine s_seq ?_
 refine s_region ?_
 refine o_q (q_as (v_raw rfl)) rfl rfl rfl ?_
 refine o_nil ?_
 refine s_block ?_
 refine s_loop (fun m S => ∃ T, ∃ M' : Mem, ∃ i : Nat, S = ⟨setT (setT (setT T 0 (.sl (l.map encIt) o)) 4 (str (encAll (l.take i)))) 5 (int i), M'⟩ ∧ M.le M' ∧ i ≤ l.length ∧ m = l.length - i) l.length ?_ ?_
 ·exact ⟨_, _, 0, St.mkT (kp (kp (kp rfl rfl) rfl) rfl).symm, Mem.le_refl _, by omega, rfl⟩
 rintro m S ⟨T, M', i, rfl, hle, hi, rfl⟩
 refine s_seq ?_
 refine s_seq ?_
 refine s_region ?_
 refine o_q (q_mv (v_raw rfl)) rfl rfl rfl ?_
 refine o_q (q_mv (v_sl rfl)) rfl rfl rfl ?_
 refine o_q (q_len rfl und105 rfl) rfl rfl rfl ?_
 refine o_q (q_lss rfl rfl) rfl rfl rfl ?_
 refine o_nil ?_
 refine s_cond rfl (fun h1 => ?_) (fun h1 => ?_)
 ·have k1 := h1; try simp only [decide_eq_true_eq, decide_eq_false_iff_not, Bool.not_eq_true', Bool.not_eq_false', Bool.not_true, Bool.not_false, List.length_map, Decidable.not_not] at k1
  have hil : i < l.length := by omega
  have hsz := encAll_size l h i hi
  have hsb := bytI_size (h l[i] (List.getElem_mem _))
  refine s_skip ?_
  refine s_seq ?_
  refine s_block ?_
  refine s_seq ?_
  refine s_region ?_
  refine o_q (q_mv (v_sl rfl)) rfl rfl rfl ?_
  refine o_q (q_mv (v_raw rfl)) rfl rfl rfl ?_
  refine o_q (q_idx und105 sz102 rfl rfl (by omega) (gm i (by first | omega | simp)) rfl) rfl rfl rfl ?_
  refine o_q (q_lde ag102 sz102 rfl (gm i (by first | omega | simp)) rfl rfl) rfl rfl rfl ?_
  refine o_callx ((one100 l[i] (h _ (List.getElem_mem _)) _)) goes108 (ac (v_agg rfl) ac_nil) rfl ?_
  rintro r M'' ⟨rfl, hle2⟩
  have hle3 : M.le M'' := fun c o hc => hle2 c o (hle c o hc)
  refine o_q (q_mv (v_tup rfl)) rfl rfl rfl ?_
  refine o_q (q_ext rfl rfl (v_raw rfl)) rfl rfl rfl ?_
  refine o_q (q_ext rfl rfl (v_raw rfl)) rfl rfl rfl ?_
  refine o_q (q_as (v_raw rfl)) rfl rfl rfl ?_
  refine o_q (q_as (v_raw rfl)) rfl rfl rfl ?_
  refine o_nil ?_
  refine s_seq ?_
  refine s_seq ?_
  refine s_region ?_
  refine o_q (q_mv (v_raw rfl)) rfl rfl rfl ?_
  refine o_q (q_neq rfl rfl) rfl rfl rfl ?_
  refine o_nil ?_
  refine s_else rfl rfl ?_
  refine s_skip ?_
  refine s_region ?_
  refine o_q (q_mv (v_raw rfl)) rfl rfl rfl ?_
  refine o_q (q_mv (v_raw rfl)) rfl rfl rfl ?_
  refine o_q (q_sadd rfl rfl (by omega)) rfl rfl rfl ?_
  refine o_q (q_as (v_raw rfl)) rfl rfl rfl ?_
  refine o_nil ?_
  refine s_blk_normal ?_
  refine s_region ?_
  refine o_q (q_mv (v_raw rfl)) rfl rfl rfl ?_
  refine o_q (q_add rfl rfl (wrap64 (by omega) (by omega))) rfl rfl rfl ?_
  refine o_q (q_as (v_raw rfl)) rfl rfl rfl ?_
  refine o_nil ?_
  refine s_inv ?_
  exact ⟨l.length - (i + 1), by omega, _, _, i + 1, St.mkT (kp (kp (kp rfl rfl) (by show _ = str (encAll (l.take (i + 1))); rw [encAll_succ hil]; rfl)) rfl).symm, hle3, by omega, rfl⟩
 ·have k1 := h1; try simp only [decide_eq_true_eq, decide_eq_false_iff_not, Bool.not_eq_true', Bool.not_eq_false', Bool.not_true, Bool.not_false, List.length_map, Decidable.not_not] at k1
  refine s_exit ?_
  refine s_code_exit ?_
  refine s_inv_exit ?_
  refine s_blk_here ?_
  refine s_seq ?_
  refine s_region ?_
  refine o_q (q_mv (v_raw rfl)) rfl rfl rfl ?_
  refine o_q (q_as (v_raw rfl)) rfl rfl rfl ?_
  refine o_q (q_as (v_raw rfl)) rfl rfl rfl ?_
  refine o_nil ?_
  refine s_ret ?_
  refine s_end ?_
  have e1 : l.take i = l := List.take_of_length_le (by omega)
  exact ret_many (.inl rfl) rfl (rl_t rfl (rl_t rfl rl_nil)) rfl ⟨by rw [e1]; rfl, hle⟩

def tk47 : Nat → Nat → Option Nat := fun _ _ => none
def pl47 : Nat → List PStep := fun _ => []
theorem cb47 : Tryz.f47.body.map (codeB Tryz.prog Tryz.f47.ntmps tk47 pl47) = some true := by kernel_rfl
theorem goes47 : goesB Tryz.prog 47 = true := by kernel_rfl

theorem word_F {s : ByteArray} {i : Nat} (hi : i < s.size) (h : wordC ((s.data[i]'hi).toNat : Int) = false) : word s = false := by
 unfold word
 rw [allF hi h, Bool.and_false]
theorem word_T {s : ByteArray} (h : ∀ j, ∀ hj : j < s.size, j < s.size → wordC (s.data[j]'hj).toNat = true) : word s = (decide (1 ≤ s.size) && decide (s.size ≤ 20)) := by
 unfold word
 rw [allT h (Nat.le_refl _), Bool.and_true]
 congr 1
 by_cases e : s.size = 0
 ·have : s = emp := by
   have h1 : s.data = #[] := Array.eq_empty_of_size_eq_zero e
   cases s; simp only at h1; subst h1; rfl
  subst this; rfl
 ·have : s ≠ emp := fun h' => e (by subst h'; rfl)
  rw [decide_eq_true this, decide_eq_true (by omega)]
set_option maxHeartbeats 4000000 in
set_option maxRecDepth 20000 in
theorem snd47 (s : ByteArray) (M : Mem) (hs : s.size < 2 ^ 63) : SoundCall Tryz.prog 47 [str s] M fun r M' => r = bool (word s) ∧ M' = M := by
 refine SoundCall.go tk47 pl47 mixed Tryz.func47 cb47 rfl (Nat.le_of_ble_eq_true rfl) ?_
 refine s_seq ?_
 refine s_region ?_
 refine o_q (q_as (v_raw rfl)) rfl rfl rfl ?_
 refine o_nil ?_
 refine s_seq ?_
 refine s_seq ?_
 refine s_region ?_
 refine o_q (q_as (v_raw rfl)) rfl rfl rfl ?_
 refine o_nil ?_
 refine s_cut (fun S => ∃ T, S = ⟨setT T 0 (str s), M⟩ ∧ word s = (decide (1 ≤ s.size) && decide (s.size ≤ 20))) ?_ ?_
 ·skip
  refine s_block ?_
  refine s_loop (fun m S => ∃ T, ∃ i : Nat, S = ⟨setT (setT T 0 (str s)) 3 (int (i : Nat)), M⟩ ∧ (∀ j, ∀ hj : j < s.size, j < i → wordC (s.data[j]'hj).toNat = true) ∧ i ≤ s.size ∧ m = s.size - i) s.size ?_ ?_
  ·exact ⟨_, 0, St.mkT (kp (kp rfl rfl) rfl).symm, fun j _ h => by omega, by omega, rfl⟩
  rintro m S ⟨T, i, rfl, hok, hi, rfl⟩
  refine s_seq ?_
  refine s_seq ?_
  refine s_region ?_
  refine o_q (q_mv (v_raw rfl)) rfl rfl rfl ?_
  refine o_q (q_mv (v_raw rfl)) rfl rfl rfl ?_
  refine o_q (q_lens rfl und9 rfl) rfl rfl rfl ?_
  refine o_q (q_lss rfl rfl) rfl rfl rfl ?_
  refine o_nil ?_
  refine s_cond rfl (fun h1 => ?_) (fun h1 => ?_)
  ·have k1 := h1; try simp only [decide_eq_true_eq, decide_eq_false_iff_not, Bool.not_eq_true', Bool.not_eq_false', Bool.not_true, Bool.not_false, List.length_map, Decidable.not_not] at k1
   refine s_skip ?_
   refine s_seq ?_
   refine s_block ?_
   refine s_seq ?_
   refine s_region ?_
   refine o_q (q_mv (v_raw rfl)) rfl rfl rfl ?_
   refine o_q (q_mv (v_raw rfl)) rfl rfl rfl ?_
   refine o_q (q_stri und9 rfl rfl rfl (by omega)) rfl rfl rfl ?_
   refine o_q (q_geq rfl rfl) rfl rfl rfl ?_
   refine o_q (q_mv (v_raw rfl)) rfl rfl rfl ?_
   refine o_cases (want := true) (j := 4) rfl rfl (fun h2 => ?_) (fun h2 => ?_)
   ·have k2 := h2; try simp only [decide_eq_true_eq, decide_eq_false_iff_not, Bool.not_eq_true', Bool.not_eq_false', Bool.not_true, Bool.not_false, List.length_map, Decidable.not_not] at k2
    refine o_yes rfl rfl rfl h2 ?_
    refine o_q (q_mv (v_raw rfl)) rfl rfl rfl ?_
    refine o_yes rfl rfl rfl h2 ?_
    refine o_q (q_mv (v_raw rfl)) rfl rfl rfl ?_
    refine o_yes rfl rfl rfl h2 ?_
    refine o_q (q_stri und9 rfl rfl rfl (by omega)) rfl rfl rfl ?_
    refine o_yes rfl rfl rfl h2 ?_
    refine o_q (q_leq rfl rfl) rfl rfl rfl ?_
    refine o_q (q_pick_c (t := true) rfl h2 (v_raw rfl)) rfl rfl rfl ?_
    refine o_q (q_mv (v_raw rfl)) rfl rfl rfl ?_
    refine o_cases (want := false) (j := 10) rfl rfl (fun h3 => ?_) (fun h3 => ?_)
    ·have k3 := h3; try simp only [decide_eq_true_eq, decide_eq_false_iff_not, Bool.not_eq_true', Bool.not_eq_false', Bool.not_true, Bool.not_false, List.length_map, Decidable.not_not] at k3
     refine o_yes rfl rfl rfl h3 ?_
     refine o_q (q_mv (v_raw rfl)) rfl rfl rfl ?_
     refine o_yes rfl rfl rfl h3 ?_
     refine o_q (q_mv (v_raw rfl)) rfl rfl rfl ?_
     refine o_yes rfl rfl rfl h3 ?_
     refine o_q (q_stri und9 rfl rfl rfl (by omega)) rfl rfl rfl ?_
     refine o_yes rfl rfl rfl h3 ?_
     refine o_q (q_geq rfl rfl) rfl rfl rfl ?_
     refine o_yes rfl rfl rfl h3 ?_
     refine o_q (q_mv (v_raw rfl)) rfl rfl rfl ?_
     refine o_cases (want := true) (j := 15) rfl rfl (fun h4 => ?_) (fun h4 => ?_)
     ·have k4 := h4; try simp only [decide_eq_true_eq, decide_eq_false_iff_not, Bool.not_eq_true', Bool.not_eq_false', Bool.not_true, Bool.not_false, List.length_map, Decidable.not_not] at k4
      refine o_yes rfl rfl rfl h4 ?_
      refine o_q (q_mv (v_raw rfl)) rfl rfl rfl ?_
      refine o_yes rfl rfl rfl h4 ?_
      refine o_q (q_mv (v_raw rfl)) rfl rfl rfl ?_
      refine o_yes rfl rfl rfl h4 ?_
      refine o_q (q_stri und9 rfl rfl rfl (by omega)) rfl rfl rfl ?_
      refine o_yes rfl rfl rfl h4 ?_
      refine o_q (q_leq rfl rfl) rfl rfl rfl ?_
      refine o_yes rfl rfl rfl h3 ?_
      refine o_q (q_pick_c (t := true) rfl h4 (v_raw rfl)) rfl rfl rfl ?_
      refine o_q (q_pick_c (t := false) rfl h3 (v_raw rfl)) rfl rfl rfl ?_
      refine o_q (q_not rfl) rfl rfl rfl ?_
      refine o_nil ?_
      refine s_cond rfl (fun h5 => ?_) (fun h5 => ?_)
      ·have k5 := h5; try simp only [decide_eq_true_eq, decide_eq_false_iff_not, Bool.not_eq_true', Bool.not_eq_false', Bool.not_true, Bool.not_false, List.length_map, Decidable.not_not] at k5
       refine s_seq ?_
       refine s_region ?_
       refine o_q (q_as (v_raw rfl)) rfl rfl rfl ?_
       refine o_nil ?_
       refine s_ret ?_
       refine s_blk_ret ?_
       refine s_code_ret ?_
       refine s_inv_ret ?_
       refine s_blk_ret ?_
       refine s_inv_ret ?_
       refine s_code_ret ?_
       refine s_end ?_
       have hwc : wordC ((s.data[i]'(show i < s.size by omega)).toNat : Int) = false := by
        unfold wordC; rw [Bool.or_eq_false_iff]
        simp only [Bool.and_eq_false_iff, decide_eq_false_iff_not]
        omega
       exact ⟨congrArg bool (word_F (by omega) hwc).symm, rfl⟩
      ·have k5 := h5; try simp only [decide_eq_true_eq, decide_eq_false_iff_not, Bool.not_eq_true', Bool.not_eq_false', Bool.not_true, Bool.not_false, List.length_map, Decidable.not_not] at k5
       refine s_skip ?_
       refine s_blk_normal ?_
       refine s_region ?_
       refine o_q (q_mv (v_raw rfl)) rfl rfl rfl ?_
       refine o_q (q_add rfl rfl (wrap64 (by omega) (by omega))) rfl rfl rfl ?_
       refine o_q (q_as (v_raw rfl)) rfl rfl rfl ?_
       refine o_nil ?_
       refine s_inv ?_
       exact ⟨s.size - (i + 1), by omega, _, i + 1, St.mkT (kp (kp rfl rfl) rfl).symm, ok_succ hok (by omega) (by simp_all [wordC]), by omega, rfl⟩
     ·have k4 := h4; try simp only [decide_eq_true_eq, decide_eq_false_iff_not, Bool.not_eq_true', Bool.not_eq_false', Bool.not_true, Bool.not_false, List.length_map, Decidable.not_not] at k4
      refine o_no rfl rfl rfl rfl h4 ?_
      refine o_no rfl rfl rfl rfl h4 ?_
      refine o_no rfl rfl rfl rfl h4 ?_
      refine o_no rfl rfl rfl rfl h4 ?_
      refine o_yes rfl rfl rfl h3 ?_
      refine o_q (q_pick_c (t := false) rfl h4 (v_raw rfl)) rfl rfl rfl ?_
      refine o_q (q_pick_c (t := false) rfl h3 (v_raw rfl)) rfl rfl rfl ?_
      refine o_q (q_not rfl) rfl rfl rfl ?_
      refine o_nil ?_
      refine s_then rfl rfl ?_
      refine s_seq ?_
      refine s_region ?_
      refine o_q (q_as (v_raw rfl)) rfl rfl rfl ?_
      refine o_nil ?_
      refine s_ret ?_
      refine s_blk_ret ?_
      refine s_code_ret ?_
      refine s_inv_ret ?_
      refine s_blk_ret ?_
      refine s_inv_ret ?_
      refine s_code_ret ?_
      refine s_end ?_
      have hwc : wordC ((s.data[i]'(show i < s.size by omega)).toNat : Int) = false := by
       unfold wordC; rw [Bool.or_eq_false_iff]
       simp only [Bool.and_eq_false_iff, decide_eq_false_iff_not]
       omega
      exact ⟨congrArg bool (word_F (by omega) hwc).symm, rfl⟩
    ·have k3 := h3; try simp only [decide_eq_true_eq, decide_eq_false_iff_not, Bool.not_eq_true', Bool.not_eq_false', Bool.not_true, Bool.not_false, List.length_map, Decidable.not_not] at k3
     refine o_no rfl rfl rfl rfl h3 ?_
     refine o_no rfl rfl rfl rfl h3 ?_
     refine o_no rfl rfl rfl rfl h3 ?_
     refine o_no rfl rfl rfl rfl h3 ?_
     refine o_no rfl rfl rfl rfl h3 ?_
     refine o_skip rfl rfl rfl rfl ?_
     refine o_skip rfl rfl rfl rfl ?_
     refine o_skip rfl rfl rfl rfl ?_
     refine o_skip rfl rfl rfl rfl ?_
     refine o_no rfl rfl rfl rfl h3 ?_
     refine o_q (q_pick_c (t := true) rfl h3 (v_raw rfl)) rfl rfl rfl ?_
     refine o_q (q_not rfl) rfl rfl rfl ?_
     refine o_nil ?_
     refine s_else rfl rfl ?_
     refine s_skip ?_
     refine s_blk_normal ?_
     refine s_region ?_
     refine o_q (q_mv (v_raw rfl)) rfl rfl rfl ?_
     refine o_q (q_add rfl rfl (wrap64 (by omega) (by omega))) rfl rfl rfl ?_
     refine o_q (q_as (v_raw rfl)) rfl rfl rfl ?_
     refine o_nil ?_
     refine s_inv ?_
     exact ⟨s.size - (i + 1), by omega, _, i + 1, St.mkT (kp (kp rfl rfl) rfl).symm, ok_succ hok (by omega) (by simp_all [wordC]), by omega, rfl⟩
   ·have k2 := h2; try simp only [decide_eq_true_eq, decide_eq_false_iff_not, Bool.not_eq_true', Bool.not_eq_false', Bool.not_true, Bool.not_false, List.length_map, Decidable.not_not] at k2
    refine o_no rfl rfl rfl rfl h2 ?_
    refine o_no rfl rfl rfl rfl h2 ?_
    refine o_no rfl rfl rfl rfl h2 ?_
    refine o_no rfl rfl rfl rfl h2 ?_
    refine o_q (q_pick_c (t := false) rfl h2 (v_raw rfl)) rfl rfl rfl ?_
    refine o_q (q_mv (v_raw rfl)) rfl rfl rfl ?_
    refine o_yes rfl rfl rfl rfl ?_
    refine o_q (q_mv (v_raw rfl)) rfl rfl rfl ?_
    refine o_yes rfl rfl rfl rfl ?_
    refine o_q (q_mv (v_raw rfl)) rfl rfl rfl ?_
    refine o_yes rfl rfl rfl rfl ?_
    refine o_q (q_stri und9 rfl rfl rfl (by omega)) rfl rfl rfl ?_
    refine o_yes rfl rfl rfl rfl ?_
    refine o_q (q_geq rfl rfl) rfl rfl rfl ?_
    refine o_yes rfl rfl rfl rfl ?_
    refine o_q (q_mv (v_raw rfl)) rfl rfl rfl ?_
    refine o_cases (want := true) (j := 15) rfl rfl (fun h6 => ?_) (fun h6 => ?_)
    ·have k6 := h6; try simp only [decide_eq_true_eq, decide_eq_false_iff_not, Bool.not_eq_true', Bool.not_eq_false', Bool.not_true, Bool.not_false, List.length_map, Decidable.not_not] at k6
     refine o_yes rfl rfl rfl h6 ?_
     refine o_q (q_mv (v_raw rfl)) rfl rfl rfl ?_
     refine o_yes rfl rfl rfl h6 ?_
     refine o_q (q_mv (v_raw rfl)) rfl rfl rfl ?_
     refine o_yes rfl rfl rfl h6 ?_
     refine o_q (q_stri und9 rfl rfl rfl (by omega)) rfl rfl rfl ?_
     refine o_yes rfl rfl rfl h6 ?_
     refine o_q (q_leq rfl rfl) rfl rfl rfl ?_
     refine o_yes rfl rfl rfl rfl ?_
     refine o_q (q_pick_c (t := true) rfl h6 (v_raw rfl)) rfl rfl rfl ?_
     refine o_q (q_pick_c (t := false) rfl rfl (v_raw rfl)) rfl rfl rfl ?_
     refine o_q (q_not rfl) rfl rfl rfl ?_
     refine o_nil ?_
     refine s_cond rfl (fun h7 => ?_) (fun h7 => ?_)
     ·have k7 := h7; try simp only [decide_eq_true_eq, decide_eq_false_iff_not, Bool.not_eq_true', Bool.not_eq_false', Bool.not_true, Bool.not_false, List.length_map, Decidable.not_not] at k7
      refine s_seq ?_
      refine s_region ?_
      refine o_q (q_as (v_raw rfl)) rfl rfl rfl ?_
      refine o_nil ?_
      refine s_ret ?_
      refine s_blk_ret ?_
      refine s_code_ret ?_
      refine s_inv_ret ?_
      refine s_blk_ret ?_
      refine s_inv_ret ?_
      refine s_code_ret ?_
      refine s_end ?_
      have hwc : wordC ((s.data[i]'(show i < s.size by omega)).toNat : Int) = false := by
       unfold wordC; rw [Bool.or_eq_false_iff]
       simp only [Bool.and_eq_false_iff, decide_eq_false_iff_not]
       omega
      exact ⟨congrArg bool (word_F (by omega) hwc).symm, rfl⟩
     ·have k7 := h7; try simp only [decide_eq_true_eq, decide_eq_false_iff_not, Bool.not_eq_true', Bool.not_eq_false', Bool.not_true, Bool.not_false, List.length_map, Decidable.not_not] at k7
      refine s_skip ?_
      refine s_blk_normal ?_
      refine s_region ?_
      refine o_q (q_mv (v_raw rfl)) rfl rfl rfl ?_
      refine o_q (q_add rfl rfl (wrap64 (by omega) (by omega))) rfl rfl rfl ?_
      refine o_q (q_as (v_raw rfl)) rfl rfl rfl ?_
      refine o_nil ?_
      refine s_inv ?_
      exact ⟨s.size - (i + 1), by omega, _, i + 1, St.mkT (kp (kp rfl rfl) rfl).symm, ok_succ hok (by omega) (by simp_all [wordC]), by omega, rfl⟩
    ·have k6 := h6; try simp only [decide_eq_true_eq, decide_eq_false_iff_not, Bool.not_eq_true', Bool.not_eq_false', Bool.not_true, Bool.not_false, List.length_map, Decidable.not_not] at k6
     refine o_no rfl rfl rfl rfl h6 ?_
     refine o_no rfl rfl rfl rfl h6 ?_
     refine o_no rfl rfl rfl rfl h6 ?_
     refine o_no rfl rfl rfl rfl h6 ?_
     refine o_yes rfl rfl rfl rfl ?_
     refine o_q (q_pick_c (t := false) rfl h6 (v_raw rfl)) rfl rfl rfl ?_
     refine o_q (q_pick_c (t := false) rfl rfl (v_raw rfl)) rfl rfl rfl ?_
     refine o_q (q_not rfl) rfl rfl rfl ?_
     refine o_nil ?_
     refine s_then rfl rfl ?_
     refine s_seq ?_
     refine s_region ?_
     refine o_q (q_as (v_raw rfl)) rfl rfl rfl ?_
     refine o_nil ?_
     refine s_ret ?_
     refine s_blk_ret ?_
     refine s_code_ret ?_
     refine s_inv_ret ?_
     refine s_blk_ret ?_
     refine s_inv_ret ?_
     refine s_code_ret ?_
     refine s_end ?_
     have hwc : wordC ((s.data[i]'(show i < s.size by omega)).toNat : Int) = false := by
      unfold wordC; rw [Bool.or_eq_false_iff]
      simp only [Bool.and_eq_false_iff, decide_eq_false_iff_not]
      omega
     exact ⟨congrArg bool (word_F (by omega) hwc).symm, rfl⟩
  ·have k1 := h1; try simp only [decide_eq_true_eq, decide_eq_false_iff_not, Bool.not_eq_true', Bool.not_eq_false', Bool.not_true, Bool.not_false, List.length_map, Decidable.not_not] at k1
   refine s_exit ?_
   refine s_code_exit ?_
   refine s_inv_exit ?_
   refine s_blk_here ?_
   refine s_inv ?_
   obtain rfl : i = s.size := by omega
   exact ⟨_, St.mkT (kp rfl rfl).symm, word_T hok⟩
 rintro S ⟨T, rfl, hword⟩
 refine s_seq ?_
 refine s_region ?_
 refine o_q (q_mv (v_raw rfl)) rfl rfl rfl ?_
 refine o_q (q_lens rfl und9 rfl) rfl rfl rfl ?_
 refine o_q (q_geq rfl rfl) rfl rfl rfl ?_
 refine o_q (q_mv (v_raw rfl)) rfl rfl rfl ?_
 refine o_cases (want := true) (j := 3) rfl rfl (fun h8 => ?_) (fun h8 => ?_)
 ·have k8 := h8; try simp only [decide_eq_true_eq, decide_eq_false_iff_not, Bool.not_eq_true', Bool.not_eq_false', Bool.not_true, Bool.not_false, List.length_map, Decidable.not_not] at k8
  refine o_yes rfl rfl rfl h8 ?_
  refine o_q (q_mv (v_raw rfl)) rfl rfl rfl ?_
  refine o_yes rfl rfl rfl h8 ?_
  refine o_q (q_lens rfl und9 rfl) rfl rfl rfl ?_
  refine o_yes rfl rfl rfl h8 ?_
  refine o_q (q_leq rfl rfl) rfl rfl rfl ?_
  refine o_q (q_pick_c (t := true) rfl h8 (v_raw rfl)) rfl rfl rfl ?_
  refine o_q (q_as (v_raw rfl)) rfl rfl rfl ?_
  refine o_nil ?_
  refine s_ret ?_
  refine s_end ?_
  refine ⟨congrArg bool ?_, rfl⟩
  rw [hword, decide_eq_true (show 1 ≤ s.size by omega), Bool.true_and, decide_eq_decide]
  omega
 ·have k8 := h8; try simp only [decide_eq_true_eq, decide_eq_false_iff_not, Bool.not_eq_true', Bool.not_eq_false', Bool.not_true, Bool.not_false, List.length_map, Decidable.not_not] at k8
  refine o_no rfl rfl rfl rfl h8 ?_
  refine o_no rfl rfl rfl rfl h8 ?_
  refine o_no rfl rfl rfl rfl h8 ?_
  refine o_q (q_pick_c (t := false) rfl h8 (v_raw rfl)) rfl rfl rfl ?_
  refine o_q (q_as (v_raw rfl)) rfl rfl rfl ?_
  refine o_nil ?_
  refine s_ret ?_
  refine s_end ?_
  refine ⟨congrArg bool ?_, rfl⟩
  rw [hword, decide_eq_false (show ¬ 1 ≤ s.size by omega)]
  rfl



theorem word_emp : word emp = false := by kernel_rfl

theorem word_le {s : ByteArray} (h : word s = true) : s.size ≤ 20 := by
 unfold word at h
 simp only [Bool.and_eq_true, decide_eq_true_eq] at h
 exact h.1.2




end C17
