import Derived.Test.YtkjdclhhmgjfbaaAmE
import Derived.Test.YtkjdclhhmgjfbaaK04
/-! Chapter 4: the disk: what its functions compute. -/
open Go Go.Proofs Go.Am
set_option linter.unusedVariables false
set_option linter.unusedSimpArgs false
set_option autoImplicit false
namespace C04
theorem ag3 : aggT Try.prog 3 = some false := by kernel_rfl
theorem ag9 : aggT Try.prog 9 = some false := by kernel_rfl
theorem slt65 : SlT Try.prog 65 5 1 1 := ⟨by kernel_rfl, by kernel_rfl, by kernel_rfl, by kernel_rfl, by decide⟩
theorem sz3 : sizeT Try.prog 3 = some 1 := by kernel_rfl
theorem sz5 : sizeT Try.prog 5 = some 1 := by kernel_rfl
theorem sz9 : sizeT Try.prog 9 = some 1 := by kernel_rfl
theorem und9 : Try.prog.underlying 9 = some .string := by kernel_rfl
theorem und65 : Try.prog.underlying 65 = some (.slice 5) := by kernel_rfl
theorem zc5 : zeroCellsT Try.prog 5 = some [.raw (.int .u8 0)] := by kernel_rfl
theorem mixed : Try.prog.follows .mixedOrders = true := by kernel_rfl
def int (n : Int) : AVal := .raw (.int .i64 n)
def ptr (b : Nat) : AVal := .raw (.pointer (some ⟨b, 0, none⟩))
def bool (b : Bool) : AVal := .raw (.bool b)
def ptrV (f : Nat) : Value := .pointer (some ⟨f, 0, none⟩)
theorem upd_other {M : Mem} {b c : Nat} {o : AObj} (h : c ≠ b) : (M.upd b o) c = M c := Mem.upd_ne h rfl
theorem leU {M M' : Mem} {b : Nat} {o : AObj} (h : M.le M') (hb : M b = none) : M.le (M'.upd b o) := fun c o' hc => (Mem.upd_ne (fun e => by rw [e, hb] at hc; cases hc) rfl).trans (h c o' hc)
theorem le_none {M M' : Mem} {b : Nat} (h : M.le M') (hb : M' b = none) : M b = none := by
  cases h2 : M b with
  | none => rfl
  | some o => rw [h b o h2] at hb; cases hb
/-- Bytes that nobody else has. -/
def Own1 (M0 M : Mem) (v : Value) : Prop := ∀ b, (∃ n c, v = .slice (some ⟨b, 0, none⟩) n c ∧ M b ≠ none ∧ c ≠ 0) → M0 b = none
inductive A where
  | app (s : ByteArray)
  | cut (n : Nat)
def A.units : A → Nat
  | .app s => s.size
  | .cut _ => 1
def A.run (l : List UInt8) : A → Nat → List UInt8
  | .app s, k => l ++ s.data.toList.take k
  | .cut n, _ => l.take n
def A.ok (l : List UInt8) : A → Prop
  | .app _ => True
  | .cut n => n ≤ l.length
def A.fn : A → Nat
  | .app _ => 41
  | .cut _ => 65
def A.box : A → AVal
  | .app s => .raw (.string s)
  | .cut n => .raw (.int .i64 n)
def BIG : Nat := 2 ^ 40

def tk68 : Nat → Nat → Option Nat
  | 0, 0 => some 0
  | 2, 0 => some 0
  | 3, 3 => some 0
  | _, _ => none
def pl68 : Nat → List PStep := fun _ => []
theorem cb68 : Try.f68.body.map (codeB Try.prog Try.f68.ntmps tk68 pl68) = some true := by kernel_rfl
theorem goes68 : goesB Try.prog 68 = true := by kernel_rfl
set_option maxHeartbeats 4000000 in
set_option maxRecDepth 20000 in
theorem snd68 (M : Mem) (v : Value) (l : List UInt8) (hB : Bs M v l) (hl : l.length ≤ BIG) : SoundCall Try.prog 68 [.raw v] M fun r' M' => (r' = .sl [] true ∧ l = [] ∧ M' = M) ∨ ∃ v', r' = .raw v' ∧ Bs M' v' l ∧ M.le M' ∧ Own1 M M' v' := by
  obtain ⟨base, c, hv⟩ := hB.len
  subst hv
  have hbig : BIG = 2 ^ 40 := rfl
  refine SoundCall.go tk68 pl68 mixed Try.func68 cb68 rfl (Nat.le_of_ble_eq_true rfl) ?_
  refine s_seq ?_
  refine s_region ?_
  refine o_q (q_as_const rfl) rfl rfl rfl ?_
  refine o_nil ?_
  refine s_seq ?_
  refine s_seq ?_
  refine s_region ?_
  refine o_q (q_mv (v_raw rfl)) rfl rfl rfl ?_
  refine o_nilraw und65 rfl rfl (.inl rfl) (fun nh1 h1e h1n => ?_)
  refine o_nil ?_
  refine s_cond rfl (fun h2 => ?_) (fun h2 => ?_)
  · have k2 := h2; try simp only [decide_eq_true_eq, decide_eq_false_iff_not, Bool.not_eq_true', Bool.not_eq_false', Bool.not_true, Bool.not_false, List.length_map, Decidable.not_not] at k2
    refine s_seq ?_
    refine s_region ?_
    refine o_q (q_as_const rfl) rfl rfl rfl ?_
    refine o_nil ?_
    refine s_ret ?_
    refine s_code_ret ?_
    refine s_end ?_
    have := h1e rfl
    subst this
    have hb0 : base = none := by simpa using h2
    subst hb0
    rcases hB with ⟨b, e1, e2, e3⟩ | ⟨b, cs, e1, -⟩
    · exact .inl ⟨rfl, e3, rfl⟩
    · cases e1
  · have k2 := h2; try simp only [decide_eq_true_eq, decide_eq_false_iff_not, Bool.not_eq_true', Bool.not_eq_false', Bool.not_true, Bool.not_false, List.length_map, Decidable.not_not] at k2
    refine s_skip ?_
    refine s_seq ?_
    refine s_region ?_
    refine o_q (q_bs slt65 pn rfl Els.nil (by decide)) rfl rfl rfl ?_
    refine o_q (q_mv (v_raw rfl)) rfl rfl rfl ?_
    refine o_appe (M0 := M) slt65 rfl zc5 (.inl rfl) (Mem.le_refl M) (srcb_bs slt65 rfl rfl hB rfl) (by omega) (fun v' M' hB' hle' hfr' => ?_)
    refine o_qs (q_as_own rfl) rfl rfl rfl rfl ?_
    refine o_nil ?_
    refine s_ret ?_
    refine s_end ?_
    exact .inr ⟨v', rfl, hB', hle', hfr'⟩
theorem clone68 (M : Mem) (v : Value) (l : List UInt8) (hB : Bs M v l) (hl : l.length ≤ BIG) : SoundCall Try.prog 68 [.raw v] M fun r' M' => ∃ v', r' = .raw v' ∧ Bs M' v' l ∧ M.le M' ∧ Own1 M M' v' :=
  (snd68 M v l hB hl).rawown fun r M' h => by
    rcases h with ⟨rfl, rfl, rfl⟩ | h
    · exact .inr ⟨rfl, fun base hok => ⟨_, rfl, .inl ⟨base, rfl, hok, rfl⟩, Mem.le_refl _, fun b ⟨n, c, e, _, h0⟩ => absurd (by cases e; rfl) h0⟩⟩
    · exact .inl h

def tk41 : Nat → Nat → Option Nat := fun _ _ => none
def pl41 : Nat → List PStep := fun _ => []
theorem cb41 : Try.f41.body.map (codeB Try.prog Try.f41.ntmps tk41 pl41) = some true := by kernel_rfl
theorem goes41 : goesB Try.prog 41 = true := by kernel_rfl
set_option maxHeartbeats 4000000 in
set_option maxRecDepth 20000 in
theorem snd41 (M0 M : Mem) (v : Value) (l : List UInt8) (hB : Bs M v l) (hle : M0.le M) (hfr : Own1 M0 M v) (p : Nat) (s : ByteArray) (k : Nat) (hp : M p = some (.cells [.raw (.string s)])) (hk : k ≤ s.size) (hl : l.length + k ≤ BIG) : SoundCall Try.prog 41 [.raw v, int (k : Int), ptr p] M fun r' M' => ∃ v', r' = .raw v' ∧ Bs M' v' (l ++ s.data.toList.take k) ∧ M0.le M' ∧ Own1 M0 M' v' := by
  have hbig : BIG = 2 ^ 40 := rfl
  obtain ⟨base, c, hv⟩ := hB.len
  have hx9 := extract_take s k
  refine SoundCall.go tk41 pl41 mixed Try.func41 cb41 rfl (Nat.le_of_ble_eq_true rfl) ?_
  refine s_seq ?_
  refine s_region ?_
  refine o_q (q_as ((by first | exact v_raw rfl | exact v_sl rfl))) rfl rfl rfl ?_
  refine o_nil ?_
  refine s_seq ?_
  refine s_region ?_
  refine o_q (q_mv (v_raw rfl)) rfl rfl rfl ?_
  refine o_q (q_ldm ag9 sz9 rfl (by repeat first | exact Mem.upd_self _ _ _ | assumption | refine Mem.upd_ne (by assumption) ?_) rfl (v_raw rfl)) rfl rfl rfl ?_
  refine o_q (q_mv (v_raw rfl)) rfl rfl rfl ?_
  refine o_q (q_slstr und9 rfl rfl hk) rfl rfl rfl ?_
  refine o_appb (l := l) (M0 := M0) slt65 rfl zc5 rfl hB hle hfr (srcb_str slt65 rfl rfl und9 rfl) (by rw [hx9, List.length_take]; omega) (fun v' M' hB' hle' hfr' => ?_)
  rw [hx9] at hB'
  refine o_q (q_as (v_raw rfl)) rfl rfl rfl ?_
  refine o_nil ?_
  refine s_ret ?_
  refine s_end ?_
  exact ⟨v', rfl, hB', hle', hfr'⟩

def tk65 : Nat → Nat → Option Nat := fun _ _ => none
def pl65 : Nat → List PStep := fun _ => []
theorem cb65 : Try.f65.body.map (codeB Try.prog Try.f65.ntmps tk65 pl65) = some true := by kernel_rfl
set_option maxHeartbeats 4000000 in
set_option maxRecDepth 20000 in
theorem snd65 (M0 M : Mem) (v : Value) (l : List UInt8) (hB : Bs M v l) (hle : M0.le M) (hfr : Own1 M0 M v) (p n : Nat) (k : Int) (hp : M p = some (.cells [.raw (.int .i64 n)])) (hn : n ≤ l.length) : SoundCall Try.prog 65 [.raw v, int k, ptr p] M fun r' M' => ∃ v', r' = .raw v' ∧ Bs M' v' (l.take n) ∧ M0.le M' ∧ Own1 M0 M' v' := by
  refine SoundCall.go tk65 pl65 mixed Try.func65 cb65 rfl (Nat.le_of_ble_eq_true rfl) ?_
  refine s_seq ?_
  refine s_region ?_
  refine o_q (q_as ((by first | exact v_raw rfl | exact v_sl rfl))) rfl rfl rfl ?_
  refine o_nil ?_
  refine s_seq ?_
  refine s_region ?_
  refine o_q (q_mv (v_raw rfl)) rfl rfl rfl ?_
  refine o_q (q_ldm ag3 sz3 rfl (by repeat first | exact Mem.upd_self _ _ _ | assumption | refine Mem.upd_ne (by assumption) ?_) rfl (v_raw rfl)) rfl rfl rfl ?_
  obtain ⟨v', hq, hB', hfr'⟩ := q_slb (M := M) (dst := some 8) (g := none) (T := setT (setT (setT (argT [.raw v, int k, ptr p]) 5 (.sl [] false)) 6 (.raw v)) 7 (.raw (.int .i64 n))) (x := .tmp 6) (hi := some (.tmp 7)) (k' := .i64) und65 sz5 rfl hB rfl hn
  refine o_q hq rfl rfl rfl ?_
  refine o_q (q_as (v_raw rfl)) rfl rfl rfl ?_
  refine o_nil ?_
  refine s_ret ?_
  refine s_end ?_
  exact ⟨v', rfl, hB', hle, fun b hb => hfr b (hfr' b hb)⟩
end C04
