import Derived.Test.YthlpnkpchcjifaaAm37
import Derived.Test.YthlpnkpchcjifaaProg
/-! Chapter 13: what its functions compute. -/
open Go Go.Proofs Go.Am
set_option linter.unusedVariables false
set_option linter.unusedSimpArgs false
namespace C13
theorem ag3 : aggT Try.prog 3 = some false := by kernel_rfl
theorem ag4 : aggT Try.prog 4 = some false := by kernel_rfl
theorem ag23 : aggT Try.prog 23 = some true := by kernel_rfl
theorem ag33 : aggT Try.prog 33 = some true := by kernel_rfl
theorem ag38 : aggT Try.prog 38 = some false := by kernel_rfl
theorem ag41 : aggT Try.prog 41 = some false := by kernel_rfl
theorem ag44 : aggT Try.prog 44 = some true := by kernel_rfl
theorem ag45 : aggT Try.prog 45 = some true := by kernel_rfl
theorem by3 : bytesT Try.prog 3 = some 8 := by kernel_rfl
theorem bz23 : (zeroT Try.prog 23).map (fun z => z.cells.toList.map AVal.raw) = some [.raw (.int .i64 0), .raw (.int .i64 0)] := by kernel_rfl
theorem bp23 : (aPlaces Try.prog 23).isSome = true := by kernel_rfl
theorem bz44 : (zeroT Try.prog 44).map (fun z => z.cells.toList.map AVal.raw) = some [.raw (.int .i64 0), .raw (.int .i64 0)] := by kernel_rfl
theorem bp44 : (aPlaces Try.prog 44).isSome = true := by kernel_rfl
theorem bz47 : (zeroT Try.prog 47).map (fun z => z.cells.toList.map AVal.raw) = some [.raw (.int .i64 0), .raw (.int .i64 0), .raw (.int .i64 0), .raw (.int .i64 0), .raw (.int .i64 0), .raw (.int .i64 0), .raw (.int .i64 0), .raw (.int .i64 0), .raw (.int .i64 0), .raw (.int .i64 0), .raw (.int .i64 0), .raw (.int .i64 0), .raw (.int .i64 0), .raw (.int .i64 0), .raw (.int .i64 0), .raw (.int .i64 0), .raw .nilFunc] := by kernel_rfl
theorem bp47 : (aPlaces Try.prog 47).isSome = true := by kernel_rfl
theorem bz49 : (zeroT Try.prog 49).map (fun z => z.cells.toList.map AVal.raw) = some [.raw (.int .i64 0), .raw (.int .i64 0), .raw (.slice none 0 0), .raw (.slice none 0 0), .raw (.int .i64 0)] := by kernel_rfl
theorem bp49 : (aPlaces Try.prog 49).isSome = true := by kernel_rfl
theorem fo23_0 : fo Try.prog 23 0 = some (0, 1) := by kernel_rfl
theorem fo23_1 : fo Try.prog 23 1 = some (1, 1) := by kernel_rfl
theorem fo33_0 : fo Try.prog 33 0 = some (0, 1) := by kernel_rfl
theorem fo33_1 : fo Try.prog 33 1 = some (1, 2) := by kernel_rfl
theorem fo44_0 : fo Try.prog 44 0 = some (0, 1) := by kernel_rfl
theorem fo44_1 : fo Try.prog 44 1 = some (1, 1) := by kernel_rfl
theorem fo47_0 : fo Try.prog 47 0 = some (0, 2) := by kernel_rfl
theorem fo47_1 : fo Try.prog 47 1 = some (2, 14) := by kernel_rfl
theorem fo47_2 : fo Try.prog 47 2 = some (16, 1) := by kernel_rfl
theorem fo49_0 : fo Try.prog 49 0 = some (0, 2) := by kernel_rfl
theorem fo49_1 : fo Try.prog 49 1 = some (2, 1) := by kernel_rfl
theorem fo49_2 : fo Try.prog 49 2 = some (3, 1) := by kernel_rfl
theorem fo49_3 : fo Try.prog 49 3 = some (4, 1) := by kernel_rfl
theorem slt35 : SlT Try.prog 35 23 2 16 := ⟨by kernel_rfl, by kernel_rfl, by kernel_rfl, by kernel_rfl, by decide⟩
theorem sz3 : sizeT Try.prog 3 = some 1 := by kernel_rfl
theorem sz4 : sizeT Try.prog 4 = some 1 := by kernel_rfl
theorem sz23 : sizeT Try.prog 23 = some 2 := by kernel_rfl
theorem sz33 : sizeT Try.prog 33 = some 3 := by kernel_rfl
theorem sz38 : sizeT Try.prog 38 = some 1 := by kernel_rfl
theorem sz41 : sizeT Try.prog 41 = some 1 := by kernel_rfl
theorem sz44 : sizeT Try.prog 44 = some 2 := by kernel_rfl
theorem sz45 : sizeT Try.prog 45 = some 14 := by kernel_rfl
theorem und4 : Try.prog.underlying 4 = some .bool := by kernel_rfl
theorem und24 : Try.prog.underlying 24 = some (.slice 33) := by kernel_rfl
theorem und26 : Try.prog.underlying 26 = some (.pointer 47) := by kernel_rfl
theorem und30 : Try.prog.underlying 30 = some (.pointer 49) := by kernel_rfl
theorem und35 : Try.prog.underlying 35 = some (.slice 23) := by kernel_rfl
theorem und38 : Try.prog.underlying 38 = some (.slice 3) := by kernel_rfl
theorem und45 : Try.prog.underlying 45 = some (.array 7 44) := by kernel_rfl
theorem zc3 : zeroCellsT Try.prog 3 = some [.raw (.int .i64 0)] := by kernel_rfl
theorem zc23 : zeroCellsT Try.prog 23 = some [.raw (.int .i64 0), .raw (.int .i64 0)] := by kernel_rfl
theorem zc33 : zeroCellsT Try.prog 33 = some [.raw (.bool false), .raw (.int .i64 0), .raw (.int .i64 0)] := by kernel_rfl
theorem zc44 : zeroCellsT Try.prog 44 = some [.raw (.int .i64 0), .raw (.int .i64 0)] := by kernel_rfl
theorem mixed : Try.prog.follows .mixedOrders = true := by kernel_rfl
/-- A member. -/
structure Mb where
  node : Int
  life : Int
  deriving DecidableEq, Inhabited
def encM (m : Mb) : AVal := .agg [.raw (.int .i64 m.node), .raw (.int .i64 m.life)]
def right (m : Mb) : Bool := decide (0 ≤ m.node) && decide (m.node < 7) && decide (1 ≤ m.life) && decide (m.life ≤ 9007199254740991)
def ptr (b : Nat) : AVal := .raw (.pointer (some ⟨b, 0, none⟩))
def int (n : Int) : AVal := .raw (.int .i64 n)
def clk (c : Nat) : AVal := .raw (.func (.func 21) #[] #[.pointer (some ⟨c, 0, none⟩)])
/-- The cells of a Suspect. -/
def sus (self : Mb) (f : Nat → Int × Int) (c : Nat) : List AVal := [int self.node, int self.life, int (f 0).1, int (f 0).2, int (f 1).1, int (f 1).2, int (f 2).1, int (f 2).2, int (f 3).1, int (f 3).2, int (f 4).1, int (f 4).2, int (f 5).1, int (f 5).2, int (f 6).1, int (f 6).2, clk c]
def row7 (f : Nat → Int) : List AVal := [int (f 0), int (f 1), int (f 2), int (f 3), int (f 4), int (f 5), int (f 6)]
def sl7 (b : Nat) : AVal := .raw (.slice (some ⟨b, 0, none⟩) 7 7)
/-- The cells of the document's one. -/
def ref (self : Mb) (lb wb : Nat) (now : Int) : List AVal := [int self.node, int self.life, sl7 lb, sl7 wb, int now]

theorem ne_fresh {M : Mem} {b c : Nat} {o : AObj} (h : M b = none) (h' : M c = some o) : c ≠ b := fun e => by subst e; rw [h] at h'; cases h'
theorem sus_life {self : Mb} {f : Nat → Int × Int} {c : Nat} {n : Int} (h0 : 0 ≤ n) (h1 : n < 7) : (sus self f c)[0 + 2 + n.toNat * 2 + 0]? = some (int (f n.toNat).1) := by
  obtain ⟨k, rfl⟩ := Int.eq_ofNat_of_zero_le h0
  have : k = 0 ∨ k = 1 ∨ k = 2 ∨ k = 3 ∨ k = 4 ∨ k = 5 ∨ k = 6 := by omega
  rcases this with h | h | h | h | h | h | h <;> subst h <;> rfl
theorem sus_when {self : Mb} {f : Nat → Int × Int} {c : Nat} {n : Int} (h0 : 0 ≤ n) (h1 : n < 7) : (sus self f c)[0 + 2 + n.toNat * 2 + 1]? = some (int (f n.toNat).2) := by
  obtain ⟨k, rfl⟩ := Int.eq_ofNat_of_zero_le h0
  have : k = 0 ∨ k = 1 ∨ k = 2 ∨ k = 3 ∨ k = 4 ∨ k = 5 ∨ k = 6 := by omega
  rcases this with h | h | h | h | h | h | h <;> subst h <;> rfl
theorem sus_pair {self : Mb} {f : Nat → Int × Int} {c : Nat} {n : Int} (h0 : 0 ≤ n) (h1 : n < 7) : piece true (sus self f c) (0 + 2 + n.toNat * 2) 2 = some (.agg [int (f n.toNat).1, int (f n.toNat).2]) := by
  obtain ⟨k, rfl⟩ := Int.eq_ofNat_of_zero_le h0
  have : k = 0 ∨ k = 1 ∨ k = 2 ∨ k = 3 ∨ k = 4 ∨ k = 5 ∨ k = 6 := by omega
  rcases this with h | h | h | h | h | h | h <;> subst h <;> rfl
def fupd (f : Nat → Int × Int) (n : Int) (v : Int × Int) : Nat → Int × Int := fun j => if j = n.toNat then v else f j
theorem sus_set {self : Mb} {f : Nat → Int × Int} {c : Nat} {n a b : Int} (h0 : 0 ≤ n) (h1 : n < 7) : splice (sus self f c) (0 + 2 + n.toNat * 2) [int a, int b] = sus self (fupd f n (a, b)) c := by
  obtain ⟨k, rfl⟩ := Int.eq_ofNat_of_zero_le h0
  have : k = 0 ∨ k = 1 ∨ k = 2 ∨ k = 3 ∨ k = 4 ∨ k = 5 ∨ k = 6 := by omega
  rcases this with h | h | h | h | h | h | h <;> subst h <;> rfl
theorem right_spec {m : Mb} : right m = true ↔ 0 ≤ m.node ∧ m.node < 7 ∧ 1 ≤ m.life ∧ m.life ≤ 9007199254740991 := by
  unfold right; simp [and_assoc]

def tk18 : Nat → Nat → Option Nat := fun _ _ => none
def pl18 : Nat → List PStep := fun _ => []
theorem cb18 : Try.f18.body.map (codeB Try.prog Try.f18.ntmps tk18 pl18) = some true := by kernel_rfl
theorem goes18 : goesB Try.prog 18 = true := by kernel_rfl
-- carillon/view.RightMember params ['api.Member'] results [['t', 2]] own [] names ['0:m', '1:m'] calls [] paths 4
theorem snd18 (m : Mb) (M : Mem) : SoundCall Try.prog 18 [encM m] M fun r M' => r = .raw (.bool (right m)) ∧ M.le M' := by
  refine SoundCall.go tk18 pl18 mixed Try.func18 cb18 rfl (Nat.le_of_ble_eq_true rfl) ?_
  refine s_seq ?_
  refine s_region ?_
  refine o_box (by first | exact e_raw rfl | exact e_agg rfl | exact e_sl rfl) rfl rfl (fun B1 hB1 => ?_)
  refine o_q (q_as (v_raw rfl)) rfl rfl rfl ?_
  refine o_nil ?_
  refine s_seq ?_
  refine s_region ?_
  refine o_q (q_fr fo23_0 rfl) rfl rfl rfl ?_
  refine o_q (q_ldm ag3 sz3 rfl (by repeat first | exact Mem.upd_self _ _ _ | assumption | refine Mem.upd_ne (by assumption) ?_) rfl (v_raw rfl)) rfl rfl rfl ?_
  refine o_q (q_geq rfl rfl) rfl rfl rfl ?_
  refine o_q (q_mv (v_raw rfl)) rfl rfl rfl ?_
  refine o_cases (want := true) (j := 3) rfl rfl (fun h1 => ?_) (fun h1 => ?_)
  · have k1 := h1; try simp only [decide_eq_true_eq, decide_eq_false_iff_not, Bool.not_eq_true', Bool.not_eq_false', Bool.not_true, Bool.not_false, List.length_map, Decidable.not_not] at k1
    refine o_yes rfl rfl rfl h1 ?_
    refine o_q (q_fr fo23_0 rfl) rfl rfl rfl ?_
    refine o_yes rfl rfl rfl h1 ?_
    refine o_q (q_ldm ag3 sz3 rfl (by repeat first | exact Mem.upd_self _ _ _ | assumption | refine Mem.upd_ne (by assumption) ?_) rfl (v_raw rfl)) rfl rfl rfl ?_
    refine o_yes rfl rfl rfl h1 ?_
    refine o_q (q_lss rfl rfl) rfl rfl rfl ?_
    refine o_q (q_pick_c rfl h1 (v_raw rfl)) rfl rfl rfl ?_
    refine o_q (q_mv (v_raw rfl)) rfl rfl rfl ?_
    refine o_cases (want := true) (j := 8) rfl rfl (fun h2 => ?_) (fun h2 => ?_)
    · have k2 := h2; try simp only [decide_eq_true_eq, decide_eq_false_iff_not, Bool.not_eq_true', Bool.not_eq_false', Bool.not_true, Bool.not_false, List.length_map, Decidable.not_not] at k2
      refine o_yes rfl rfl rfl h2 ?_
      refine o_q (q_fr fo23_1 rfl) rfl rfl rfl ?_
      refine o_yes rfl rfl rfl h2 ?_
      refine o_q (q_ldm ag3 sz3 rfl (by repeat first | exact Mem.upd_self _ _ _ | assumption | refine Mem.upd_ne (by assumption) ?_) rfl (v_raw rfl)) rfl rfl rfl ?_
      refine o_yes rfl rfl rfl h2 ?_
      refine o_q (q_geq rfl rfl) rfl rfl rfl ?_
      refine o_q (q_pick_c rfl h2 (v_raw rfl)) rfl rfl rfl ?_
      refine o_q (q_mv (v_raw rfl)) rfl rfl rfl ?_
      refine o_cases (want := true) (j := 13) rfl rfl (fun h3 => ?_) (fun h3 => ?_)
      · have k3 := h3; try simp only [decide_eq_true_eq, decide_eq_false_iff_not, Bool.not_eq_true', Bool.not_eq_false', Bool.not_true, Bool.not_false, List.length_map, Decidable.not_not] at k3
        refine o_yes rfl rfl rfl h3 ?_
        refine o_q (q_fr fo23_1 rfl) rfl rfl rfl ?_
        refine o_yes rfl rfl rfl h3 ?_
        refine o_q (q_ldm ag3 sz3 rfl (by repeat first | exact Mem.upd_self _ _ _ | assumption | refine Mem.upd_ne (by assumption) ?_) rfl (v_raw rfl)) rfl rfl rfl ?_
        refine o_yes rfl rfl rfl h3 ?_
        refine o_q (q_leq rfl rfl) rfl rfl rfl ?_
        refine o_q (q_pick_c rfl h3 (v_raw rfl)) rfl rfl rfl ?_
        refine o_q (q_as (v_raw rfl)) rfl rfl rfl ?_
        refine o_nil ?_
        refine s_ret ?_
        refine s_end ?_
        refine ⟨?_, Mem.le_upd (Mem.le_refl M) hB1⟩
        exact congrArg (fun b => AVal.raw (.bool b)) (by simp_all [right] <;> (intros; omega))
      · have k3 := h3; try simp only [decide_eq_true_eq, decide_eq_false_iff_not, Bool.not_eq_true', Bool.not_eq_false', Bool.not_true, Bool.not_false, List.length_map, Decidable.not_not] at k3
        refine o_no rfl rfl rfl rfl h3 ?_
        refine o_no rfl rfl rfl rfl h3 ?_
        refine o_no rfl rfl rfl rfl h3 ?_
        refine o_q (q_pick_c rfl h3 (v_raw rfl)) rfl rfl rfl ?_
        refine o_q (q_as (v_raw rfl)) rfl rfl rfl ?_
        refine o_nil ?_
        refine s_ret ?_
        refine s_end ?_
        refine ⟨?_, Mem.le_upd (Mem.le_refl M) hB1⟩
        exact congrArg (fun b => AVal.raw (.bool b)) (by simp_all [right] <;> (intros; omega))
    · have k2 := h2; try simp only [decide_eq_true_eq, decide_eq_false_iff_not, Bool.not_eq_true', Bool.not_eq_false', Bool.not_true, Bool.not_false, List.length_map, Decidable.not_not] at k2
      refine o_no rfl rfl rfl rfl h2 ?_
      refine o_no rfl rfl rfl rfl h2 ?_
      refine o_no rfl rfl rfl rfl h2 ?_
      refine o_q (q_pick_c rfl h2 (v_raw rfl)) rfl rfl rfl ?_
      refine o_q (q_mv (v_raw rfl)) rfl rfl rfl ?_
      refine o_no rfl rfl rfl rfl rfl ?_
      refine o_no rfl rfl rfl rfl rfl ?_
      refine o_no rfl rfl rfl rfl rfl ?_
      refine o_q (q_pick_c rfl rfl (v_raw rfl)) rfl rfl rfl ?_
      refine o_q (q_as (v_raw rfl)) rfl rfl rfl ?_
      refine o_nil ?_
      refine s_ret ?_
      refine s_end ?_
      refine ⟨?_, Mem.le_upd (Mem.le_refl M) hB1⟩
      exact congrArg (fun b => AVal.raw (.bool b)) (by simp_all [right] <;> (intros; omega))
  · have k1 := h1; try simp only [decide_eq_true_eq, decide_eq_false_iff_not, Bool.not_eq_true', Bool.not_eq_false', Bool.not_true, Bool.not_false, List.length_map, Decidable.not_not] at k1
    refine o_no rfl rfl rfl rfl h1 ?_
    refine o_no rfl rfl rfl rfl h1 ?_
    refine o_no rfl rfl rfl rfl h1 ?_
    refine o_q (q_pick_c rfl h1 (v_raw rfl)) rfl rfl rfl ?_
    refine o_q (q_mv (v_raw rfl)) rfl rfl rfl ?_
    refine o_no rfl rfl rfl rfl rfl ?_
    refine o_no rfl rfl rfl rfl rfl ?_
    refine o_no rfl rfl rfl rfl rfl ?_
    refine o_q (q_pick_c rfl rfl (v_raw rfl)) rfl rfl rfl ?_
    refine o_q (q_mv (v_raw rfl)) rfl rfl rfl ?_
    refine o_no rfl rfl rfl rfl rfl ?_
    refine o_no rfl rfl rfl rfl rfl ?_
    refine o_no rfl rfl rfl rfl rfl ?_
    refine o_q (q_pick_c rfl rfl (v_raw rfl)) rfl rfl rfl ?_
    refine o_q (q_as (v_raw rfl)) rfl rfl rfl ?_
    refine o_nil ?_
    refine s_ret ?_
    refine s_end ?_
    refine ⟨?_, Mem.le_upd (Mem.le_refl M) hB1⟩
    exact congrArg (fun b => AVal.raw (.bool b)) (by simp_all [right] <;> (intros; omega))

def tk20 : Nat → Nat → Option Nat := fun _ _ => none
def pl20 : Nat → List PStep := fun _ => []
theorem cb20 : Try.f20.body.map (codeB Try.prog Try.f20.ntmps tk20 pl20) = some true := by kernel_rfl
theorem goes20 : goesB Try.prog 20 = true := by kernel_rfl
-- carillon/carillonref12.RightMember params ['api.Member'] results [['t', 2]] own [] names ['0:m', '1:m'] calls [] paths 4
theorem snd20 (m : Mb) (M : Mem) : SoundCall Try.prog 20 [encM m] M fun r M' => r = .raw (.bool (right m)) ∧ M.le M' := by
  refine SoundCall.go tk20 pl20 mixed Try.func20 cb20 rfl (Nat.le_of_ble_eq_true rfl) ?_
  refine s_seq ?_
  refine s_region ?_
  refine o_box (by first | exact e_raw rfl | exact e_agg rfl | exact e_sl rfl) rfl rfl (fun B1 hB1 => ?_)
  refine o_q (q_as (v_raw rfl)) rfl rfl rfl ?_
  refine o_nil ?_
  refine s_seq ?_
  refine s_region ?_
  refine o_q (q_fr fo23_0 rfl) rfl rfl rfl ?_
  refine o_q (q_ldm ag3 sz3 rfl (by repeat first | exact Mem.upd_self _ _ _ | assumption | refine Mem.upd_ne (by assumption) ?_) rfl (v_raw rfl)) rfl rfl rfl ?_
  refine o_q (q_geq rfl rfl) rfl rfl rfl ?_
  refine o_q (q_mv (v_raw rfl)) rfl rfl rfl ?_
  refine o_cases (want := true) (j := 3) rfl rfl (fun h1 => ?_) (fun h1 => ?_)
  · have k1 := h1; try simp only [decide_eq_true_eq, decide_eq_false_iff_not, Bool.not_eq_true', Bool.not_eq_false', Bool.not_true, Bool.not_false, List.length_map, Decidable.not_not] at k1
    refine o_yes rfl rfl rfl h1 ?_
    refine o_q (q_fr fo23_0 rfl) rfl rfl rfl ?_
    refine o_yes rfl rfl rfl h1 ?_
    refine o_q (q_ldm ag3 sz3 rfl (by repeat first | exact Mem.upd_self _ _ _ | assumption | refine Mem.upd_ne (by assumption) ?_) rfl (v_raw rfl)) rfl rfl rfl ?_
    refine o_yes rfl rfl rfl h1 ?_
    refine o_q (q_lss rfl rfl) rfl rfl rfl ?_
    refine o_q (q_pick_c rfl h1 (v_raw rfl)) rfl rfl rfl ?_
    refine o_q (q_mv (v_raw rfl)) rfl rfl rfl ?_
    refine o_cases (want := true) (j := 8) rfl rfl (fun h2 => ?_) (fun h2 => ?_)
    · have k2 := h2; try simp only [decide_eq_true_eq, decide_eq_false_iff_not, Bool.not_eq_true', Bool.not_eq_false', Bool.not_true, Bool.not_false, List.length_map, Decidable.not_not] at k2
      refine o_yes rfl rfl rfl h2 ?_
      refine o_q (q_fr fo23_1 rfl) rfl rfl rfl ?_
      refine o_yes rfl rfl rfl h2 ?_
      refine o_q (q_ldm ag3 sz3 rfl (by repeat first | exact Mem.upd_self _ _ _ | assumption | refine Mem.upd_ne (by assumption) ?_) rfl (v_raw rfl)) rfl rfl rfl ?_
      refine o_yes rfl rfl rfl h2 ?_
      refine o_q (q_geq rfl rfl) rfl rfl rfl ?_
      refine o_q (q_pick_c rfl h2 (v_raw rfl)) rfl rfl rfl ?_
      refine o_q (q_mv (v_raw rfl)) rfl rfl rfl ?_
      refine o_cases (want := true) (j := 13) rfl rfl (fun h3 => ?_) (fun h3 => ?_)
      · have k3 := h3; try simp only [decide_eq_true_eq, decide_eq_false_iff_not, Bool.not_eq_true', Bool.not_eq_false', Bool.not_true, Bool.not_false, List.length_map, Decidable.not_not] at k3
        refine o_yes rfl rfl rfl h3 ?_
        refine o_q (q_fr fo23_1 rfl) rfl rfl rfl ?_
        refine o_yes rfl rfl rfl h3 ?_
        refine o_q (q_ldm ag3 sz3 rfl (by repeat first | exact Mem.upd_self _ _ _ | assumption | refine Mem.upd_ne (by assumption) ?_) rfl (v_raw rfl)) rfl rfl rfl ?_
        refine o_yes rfl rfl rfl h3 ?_
        refine o_q (q_leq rfl rfl) rfl rfl rfl ?_
        refine o_q (q_pick_c rfl h3 (v_raw rfl)) rfl rfl rfl ?_
        refine o_q (q_as (v_raw rfl)) rfl rfl rfl ?_
        refine o_nil ?_
        refine s_ret ?_
        refine s_end ?_
        refine ⟨?_, Mem.le_upd (Mem.le_refl M) hB1⟩
        exact congrArg (fun b => AVal.raw (.bool b)) (by simp_all [right] <;> (intros; omega))
      · have k3 := h3; try simp only [decide_eq_true_eq, decide_eq_false_iff_not, Bool.not_eq_true', Bool.not_eq_false', Bool.not_true, Bool.not_false, List.length_map, Decidable.not_not] at k3
        refine o_no rfl rfl rfl rfl h3 ?_
        refine o_no rfl rfl rfl rfl h3 ?_
        refine o_no rfl rfl rfl rfl h3 ?_
        refine o_q (q_pick_c rfl h3 (v_raw rfl)) rfl rfl rfl ?_
        refine o_q (q_as (v_raw rfl)) rfl rfl rfl ?_
        refine o_nil ?_
        refine s_ret ?_
        refine s_end ?_
        refine ⟨?_, Mem.le_upd (Mem.le_refl M) hB1⟩
        exact congrArg (fun b => AVal.raw (.bool b)) (by simp_all [right] <;> (intros; omega))
    · have k2 := h2; try simp only [decide_eq_true_eq, decide_eq_false_iff_not, Bool.not_eq_true', Bool.not_eq_false', Bool.not_true, Bool.not_false, List.length_map, Decidable.not_not] at k2
      refine o_no rfl rfl rfl rfl h2 ?_
      refine o_no rfl rfl rfl rfl h2 ?_
      refine o_no rfl rfl rfl rfl h2 ?_
      refine o_q (q_pick_c rfl h2 (v_raw rfl)) rfl rfl rfl ?_
      refine o_q (q_mv (v_raw rfl)) rfl rfl rfl ?_
      refine o_no rfl rfl rfl rfl rfl ?_
      refine o_no rfl rfl rfl rfl rfl ?_
      refine o_no rfl rfl rfl rfl rfl ?_
      refine o_q (q_pick_c rfl rfl (v_raw rfl)) rfl rfl rfl ?_
      refine o_q (q_as (v_raw rfl)) rfl rfl rfl ?_
      refine o_nil ?_
      refine s_ret ?_
      refine s_end ?_
      refine ⟨?_, Mem.le_upd (Mem.le_refl M) hB1⟩
      exact congrArg (fun b => AVal.raw (.bool b)) (by simp_all [right] <;> (intros; omega))
  · have k1 := h1; try simp only [decide_eq_true_eq, decide_eq_false_iff_not, Bool.not_eq_true', Bool.not_eq_false', Bool.not_true, Bool.not_false, List.length_map, Decidable.not_not] at k1
    refine o_no rfl rfl rfl rfl h1 ?_
    refine o_no rfl rfl rfl rfl h1 ?_
    refine o_no rfl rfl rfl rfl h1 ?_
    refine o_q (q_pick_c rfl h1 (v_raw rfl)) rfl rfl rfl ?_
    refine o_q (q_mv (v_raw rfl)) rfl rfl rfl ?_
    refine o_no rfl rfl rfl rfl rfl ?_
    refine o_no rfl rfl rfl rfl rfl ?_
    refine o_no rfl rfl rfl rfl rfl ?_
    refine o_q (q_pick_c rfl rfl (v_raw rfl)) rfl rfl rfl ?_
    refine o_q (q_mv (v_raw rfl)) rfl rfl rfl ?_
    refine o_no rfl rfl rfl rfl rfl ?_
    refine o_no rfl rfl rfl rfl rfl ?_
    refine o_no rfl rfl rfl rfl rfl ?_
    refine o_q (q_pick_c rfl rfl (v_raw rfl)) rfl rfl rfl ?_
    refine o_q (q_as (v_raw rfl)) rfl rfl rfl ?_
    refine o_nil ?_
    refine s_ret ?_
    refine s_end ?_
    refine ⟨?_, Mem.le_upd (Mem.le_refl M) hB1⟩
    exact congrArg (fun b => AVal.raw (.bool b)) (by simp_all [right] <;> (intros; omega))

def tk21 : Nat → Nat → Option Nat := fun _ _ => none
def pl21 : Nat → List PStep := fun _ => []
theorem cb21 : Try.f21.body.map (codeB Try.prog Try.f21.ntmps tk21 pl21) = some true := by kernel_rfl
theorem goes21 : goesB Try.prog 21 = true := by kernel_rfl
-- carillon/suspect.clock$1 params ['int'] results [['t', 3]] own [] names ['0:n', '2:n'] calls [] paths 1
theorem snd21 (n now : Int) (c : Nat) (M : Mem) (hM : M c = some (.cells [int now])) (h1 : -2 ^ 62 ≤ now ∧ now < 2 ^ 62) (h2 : -2 ^ 62 ≤ n ∧ n < 2 ^ 62) : SoundCall Try.prog 21 [int n, ptr c] M fun r M' => r = int (now + n) ∧ M' = M.upd c (.cells [int (now + n)]) := by
  refine SoundCall.go tk21 pl21 mixed Try.func21 cb21 rfl (Nat.le_of_ble_eq_true rfl) ?_
  refine s_seq ?_
  refine s_region ?_
  refine o_q (q_as (v_raw rfl)) rfl rfl rfl ?_
  refine o_nil ?_
  refine s_seq ?_
  refine s_region ?_
  refine o_q (q_ldm ag3 sz3 rfl (by repeat first | exact Mem.upd_self _ _ _ | assumption | refine Mem.upd_ne (by assumption) ?_) rfl (v_raw rfl)) rfl rfl rfl ?_
  refine o_q (q_mv (v_raw rfl)) rfl rfl rfl ?_
  refine o_q (q_add rfl rfl (wrap64 (by omega) (by omega))) rfl rfl rfl ?_
  refine o_store rfl (by repeat first | exact Mem.upd_self _ _ _ | assumption | refine Mem.upd_ne (by assumption) ?_) (by first | exact e_raw rfl | exact e_agg rfl | exact e_sl rfl | rfl) rfl sz3 rfl (Nat.le_of_ble_eq_true rfl) rfl rfl ?_
  refine o_nil ?_
  refine s_seq ?_
  refine s_region ?_
  refine o_q (q_ldm ag3 sz3 rfl (by repeat first | exact Mem.upd_self _ _ _ | assumption | refine Mem.upd_ne (by assumption) ?_) rfl (v_raw rfl)) rfl rfl rfl ?_
  refine o_q (q_as (v_raw rfl)) rfl rfl rfl ?_
  refine o_nil ?_
  refine s_ret ?_
  refine s_end ?_
  exact ⟨rfl, rfl⟩

def tk19 : Nat → Nat → Option Nat := fun _ _ => none
def pl19 : Nat → List PStep := fun _ => []
theorem cb19 : Try.f19.body.map (codeB Try.prog Try.f19.ntmps tk19 pl19) = some true := by kernel_rfl
theorem goes19 : goesB Try.prog 19 = true := by kernel_rfl
-- carillon/suspect.clock params [] results [['t', 0]] own [] names ['1:now'] calls [] paths 1
theorem snd19 (M : Mem) : SoundCall Try.prog 19 [] M fun r M' => ∃ c, M c = none ∧ r = clk c ∧ M' = M.upd c (.cells [int 0]) := by
  refine SoundCall.go tk19 pl19 mixed Try.func19 cb19 rfl (Nat.le_of_ble_eq_true rfl) ?_
  refine s_seq ?_
  refine s_region ?_
  refine o_q (q_as (v_raw rfl)) rfl rfl rfl ?_
  refine o_nil ?_
  refine s_seq ?_
  refine s_region ?_
  refine o_alloc zc3 (fun B1 hB1 => ?_)
  refine o_store rfl (by repeat first | exact Mem.upd_self _ _ _ | assumption | refine Mem.upd_ne (by assumption) ?_) (by first | exact e_raw rfl | exact e_agg rfl | exact e_sl rfl | rfl) rfl sz3 rfl (Nat.le_of_ble_eq_true rfl) rfl rfl ?_
  refine o_nil ?_
  refine s_seq ?_
  refine s_region ?_
  refine o_q (q_mkf1 rfl) rfl rfl rfl ?_
  refine o_q (q_as (v_raw rfl)) rfl rfl rfl ?_
  refine o_nil ?_
  refine s_ret ?_
  refine s_end ?_
  exact ⟨_, hB1, rfl, Mem.upd_upd ..⟩

def tk9 : Nat → Nat → Option Nat := fun _ _ => none
def pl9 : Nat → List PStep := fun _ => []
theorem cb9 : Try.f9.body.map (codeB Try.prog Try.f9.ntmps tk9 pl9) = some true := by kernel_rfl
theorem goes9 : goesB Try.prog 9 = true := by kernel_rfl
-- (*carillon/suspect.Suspect).Tick params ['*suspect.Suspect'] results [] own [] names ['0:s', '1:s'] calls [] paths 1
theorem snd9 (s c : Nat) (self : Mb) (f : Nat → Int × Int) (now : Int) (M : Mem) (hs : M s = some (.cells (sus self f c))) (hc : M c = some (.cells [int now])) (h1 : 0 ≤ now ∧ now < 2 ^ 60) : SoundCall Try.prog 9 [ptr s] M fun r M' => r = .tup [] ∧ M' = M.upd c (.cells [int (now + 1)]) := by
  refine SoundCall.go tk9 pl9 mixed Try.func9 cb9 rfl (Nat.le_of_ble_eq_true rfl) ?_
  refine s_region ?_
  refine o_q (q_mv ((by first | exact v_raw rfl | exact v_sptr rfl))) rfl rfl rfl ?_
  refine o_q (q_nil rfl) rfl rfl rfl ?_
  refine o_q (q_fr fo47_2 rfl) rfl rfl rfl ?_
  refine o_q (q_ldm ag41 sz41 rfl (by repeat first | exact Mem.upd_self _ _ _ | assumption | refine Mem.upd_ne (by assumption) ?_) rfl (v_raw rfl)) rfl rfl rfl ?_
  refine o_callv rfl (snd21 1 now c M hc (by omega) (by omega)) goes21 (ac (v_raw rfl) ac_nil) rfl rfl ?_
  rintro r M' ⟨rfl, rfl⟩
  refine o_nil ?_
  refine s_end ?_
  exact ⟨rfl, rfl⟩

def tk10 : Nat → Nat → Option Nat := fun _ _ => none
def pl10 : Nat → List PStep := fun _ => []
theorem cb10 : Try.f10.body.map (codeB Try.prog Try.f10.ntmps tk10 pl10) = some true := by kernel_rfl
theorem goes10 : goesB Try.prog 10 = true := by kernel_rfl
-- (*carillon/carillonref13.Suspect).Tick params ['*carillonref13.Suspect'] results [] own [] names ['0:s', '1:s'] calls [] paths 1
theorem snd10 (x lb wb : Nat) (self : Mb) (now : Int) (M : Mem) (hx : M x = some (.cells (ref self lb wb now))) (h1 : 0 ≤ now ∧ now < 2 ^ 60) : SoundCall Try.prog 10 [ptr x] M fun r M' => r = .tup [] ∧ M' = M.upd x (.cells (ref self lb wb (now + 1))) := by
  refine SoundCall.go tk10 pl10 mixed Try.func10 cb10 rfl (Nat.le_of_ble_eq_true rfl) ?_
  refine s_region ?_
  refine o_q (q_mv ((by first | exact v_raw rfl | exact v_sptr rfl))) rfl rfl rfl ?_
  refine o_q (q_nil rfl) rfl rfl rfl ?_
  refine o_q (q_fr fo49_3 rfl) rfl rfl rfl ?_
  refine o_q (q_ldm ag3 sz3 rfl (by repeat first | exact Mem.upd_self _ _ _ | assumption | refine Mem.upd_ne (by assumption) ?_) rfl (v_raw rfl)) rfl rfl rfl ?_
  refine o_q (q_add rfl rfl (wrap64 (by omega) (by omega))) rfl rfl rfl ?_
  refine o_q (q_nil rfl) rfl rfl rfl ?_
  refine o_q (q_fr fo49_3 rfl) rfl rfl rfl ?_
  refine o_store rfl (by repeat first | exact Mem.upd_self _ _ _ | assumption | refine Mem.upd_ne (by assumption) ?_) (by first | exact e_raw rfl | exact e_agg rfl | exact e_sl rfl | rfl) rfl sz3 rfl (Nat.le_of_ble_eq_true rfl) rfl rfl ?_
  refine o_nil ?_
  refine s_end ?_
  exact ⟨rfl, rfl⟩

def tk17 : Nat → Nat → Option Nat := fun _ _ => none
def pl17 : Nat → List PStep := fun _ => []
theorem cb17 : Try.f17.body.map (codeB Try.prog Try.f17.ntmps tk17 pl17) = some true := by kernel_rfl
theorem goes17 : goesB Try.prog 17 = true := by kernel_rfl
-- carillon/carillonlaw13.m params ['int', 'int'] results [['cell', 4, 23]] own [] names ['0:node', '1:life', '2:node', '3:life'] calls [] paths 1
theorem snd17 (node life : Int) (M : Mem) : SoundCall Try.prog 17 [int node, int life] M fun r M' => r = encM ⟨node, life⟩ ∧ M.le M' := by
  refine SoundCall.go tk17 pl17 mixed Try.func17 cb17 rfl (Nat.le_of_ble_eq_true rfl) ?_
  refine s_seq ?_
  refine s_region ?_
  refine o_alloc zc23 (fun B1 hB1 => ?_)
  refine o_nil ?_
  refine s_seq ?_
  refine s_region ?_
  refine o_q (q_mv (v_raw rfl)) rfl rfl rfl ?_
  refine o_q (q_mv (v_raw rfl)) rfl rfl rfl ?_
  refine o_q (q_b (cs := [_, _]) bz23 bp23 (bf fo23_0 (e_raw rfl) rfl rfl (Nat.le_of_ble_eq_true rfl) rfl (bf fo23_1 (e_raw rfl) rfl rfl (Nat.le_of_ble_eq_true rfl) rfl bf_nil))) rfl rfl rfl ?_
  refine o_storew rfl (by repeat first | exact Mem.upd_self _ _ _ | assumption | refine Mem.upd_ne (by assumption) ?_) (by first | exact e_agg rfl | rfl) rfl sz23 rfl rfl rfl rfl ?_
  refine o_nil ?_
  refine s_ret ?_
  refine s_end ?_
  exact ret_cell (.inl rfl) rfl rfl (Mem.upd_self _ _ _) (loadP_w ag23 sz23 rfl rfl) ⟨rfl, Mem.le_upd (Mem.le_upd (Mem.le_refl M) hB1) hB1⟩

def tk7 : Nat → Nat → Option Nat := fun _ _ => none
def pl7 : Nat → List PStep
  | 3 => [.q 0, .s 1 [0], .q 2, .s 3 [0], .q 4, .q 5]
  | _ => []
theorem cb7 : Try.f7.body.map (codeB Try.prog Try.f7.ntmps tk7 pl7) = some true := by kernel_rfl
theorem goes7 : goesB Try.prog 7 = true := by kernel_rfl
-- carillon/suspect.New params ['api.Member'] results [['t', 2], ['t', 3]] own [] names ['0:self', '1:self'] calls [18, 19] paths 2
theorem snd7 (self : Mb) (M : Mem) : SoundCall Try.prog 7 [encM self] M fun r M' => (right self = false ∧ r = .tup [.raw (.pointer none), int 1] ∧ M.le M') ∨ (right self = true ∧ ∃ s c, M s = none ∧ M c = none ∧ s ≠ c ∧ r = .tup [ptr s, int 0] ∧ ((M.upd c (.cells [int 0])).upd s (.cells (sus self (fun _ => (0, 0)) c))).le M') := by
  refine SoundCall.go tk7 pl7 mixed Try.func7 cb7 rfl (Nat.le_of_ble_eq_true rfl) ?_
  refine s_seq ?_
  refine s_region ?_
  refine o_box (by first | exact e_raw rfl | exact e_agg rfl | exact e_sl rfl) rfl rfl (fun B1 hB1 => ?_)
  refine o_q (q_as ((by first | exact v_raw rfl | exact v_sptr rfl))) rfl rfl rfl ?_
  refine o_q (q_as (v_raw rfl)) rfl rfl rfl ?_
  refine o_nil ?_
  refine s_seq ?_
  refine s_seq ?_
  refine s_region ?_
  refine o_q (q_ldmw ag23 sz23 rfl (by repeat first | exact Mem.upd_self _ _ _ | assumption | refine Mem.upd_ne (by assumption) ?_) rfl rfl) rfl rfl rfl ?_
  refine o_call ((snd18 self _).det) goes18 (ac (v_agg rfl) ac_nil) rfl ?_
  refine o_q (q_not rfl) rfl rfl rfl ?_
  refine o_nil ?_
  refine s_cond rfl (fun h1 => ?_) (fun h1 => ?_)
  · have k1 := h1; try simp only [decide_eq_true_eq, decide_eq_false_iff_not, Bool.not_eq_true', Bool.not_eq_false', Bool.not_true, Bool.not_false, List.length_map, Decidable.not_not] at k1
    refine s_seq ?_
    refine s_region ?_
    refine o_q (q_as ((by first | exact v_raw rfl | exact v_sptr rfl))) rfl rfl rfl ?_
    refine o_q (q_as (v_raw rfl)) rfl rfl rfl ?_
    refine o_nil ?_
    refine s_ret ?_
    refine s_code_ret ?_
    refine s_end ?_
    exact .inl ⟨by simpa using k1, rfl, Mem.le_upd (Mem.le_refl M) hB1⟩
  · have k1 := h1; try simp only [decide_eq_true_eq, decide_eq_false_iff_not, Bool.not_eq_true', Bool.not_eq_false', Bool.not_true, Bool.not_false, List.length_map, Decidable.not_not] at k1
    refine s_skip ?_
    refine s_seq ?_
    refine s_draw rfl ?_
    refine d_q rfl (q_ldmw ag23 sz23 rfl (by repeat first | exact Mem.upd_self _ _ _ | assumption | refine Mem.upd_ne (by assumption) ?_) rfl rfl) rfl rfl rfl ?_
    refine d_s rfl ?_
    refine o_callx (snd19 _) goes19 ac_nil rfl ?_
    rintro r M' ⟨c, hc, rfl, rfl⟩
    have nc : B1 ≠ c := ne_fresh hc (Mem.upd_self _ _ _)
    refine o_nil ⟨(by simp [Mem.upd, *]), ?_⟩
    refine d_q rfl (q_b (cs := [_, _, .raw (.int .i64 0), .raw (.int .i64 0), .raw (.int .i64 0), .raw (.int .i64 0), .raw (.int .i64 0), .raw (.int .i64 0), .raw (.int .i64 0), .raw (.int .i64 0), .raw (.int .i64 0), .raw (.int .i64 0), .raw (.int .i64 0), .raw (.int .i64 0), .raw (.int .i64 0), .raw (.int .i64 0), _]) bz47 bp47 (bf fo47_0 (e_agg rfl) rfl rfl (Nat.le_of_ble_eq_true rfl) rfl (bf fo47_2 (e_raw rfl) rfl rfl (Nat.le_of_ble_eq_true rfl) rfl bf_nil))) rfl rfl rfl ?_
    refine d_s rfl ?_
    refine o_box (by first | exact e_raw rfl | exact e_agg rfl | exact e_sl rfl) rfl rfl (fun B2 hB2 => ?_)
    have n2 : B1 ≠ B2 := ne_fresh hB2 (Mem.upd_ne nc (Mem.upd_self _ _ _))
    refine o_nil ⟨(by simp [Mem.upd, *]), ?_⟩
    refine d_q rfl (q_as ((by first | exact v_raw rfl | exact v_sptr rfl))) rfl rfl rfl ?_
    refine d_q rfl (q_as (v_raw rfl)) rfl rfl rfl ?_
    refine d_nil ?_
    refine s_ret ?_
    refine s_end ?_
    refine .inr ⟨by simpa using k1, B2, c, (Mem.upd_none (Mem.upd_none hB2).2).2, (Mem.upd_none hc).2, (Mem.upd_none hB2).1, rfl, Mem.le_upds (Mem.le_upds (Mem.le_upd (Mem.le_refl M) hB1))⟩

def tk11 : Nat → Nat → Option Nat := fun _ _ => none
def pl11 : Nat → List PStep
  | 1 => [.q 0, .s 1 [], .q 2, .q 3, .q 4, .q 5, .q 6, .q 7, .q 8, .q 9, .q 10, .q 11, .q 12, .q 13, .q 14, .q 15, .q 16, .q 17, .q 18, .q 19, .q 20, .q 21, .q 22, .q 23, .q 24, .q 25]
  | 3 => [.q 0, .q 1, .q 2, .q 3, .q 4, .q 5, .q 6, .q 7, .q 8, .q 11, .q 12, .s 9 [12, 11, 7, 6, 5, 4, 3, 2, 1, 0], .q 10, .q 13, .s 14 [12, 11]]
  | _ => []
theorem cb11 : Try.f11.body.map (codeB Try.prog Try.f11.ntmps tk11 pl11) = some true := by kernel_rfl
theorem goes11 : goesB Try.prog 11 = true := by kernel_rfl
-- (*carillon/suspect.Suspect).Heard params ['*suspect.Suspect', 'api.Member'] results [['t', 4]] own [] names ['0:s', '1:m', '2:s', '3:m'] calls [18] paths 4

def hearsB (self : Mb) (f : Nat → Int × Int) (m : Mb) : Bool := right m && !decide (m.node = self.node) && !decide (m.life < (f m.node.toNat).1)
theorem snd21' (now : Int) (c : Nat) (M : Mem) (hM : M c = some (.cells [int now])) (h1 : -2 ^ 62 ≤ now ∧ now < 2 ^ 62) : SoundCall Try.prog 21 [int 0, ptr c] M fun r M' => r = int now ∧ M' = M := by
  have h := snd21 0 now c M hM h1 (by omega)
  rw [Int.add_zero, Mem.upd_same hM] at h
  exact h
theorem snd11 (s c : Nat) (self : Mb) (f : Nat → Int × Int) (now : Int) (m : Mb) (M : Mem) (hs : M s = some (.cells (sus self f c))) (hc : M c = some (.cells [int now])) (hsc : s ≠ c) (hw : 0 ≤ now ∧ now < 2 ^ 60) (hf : ∀ i, 0 ≤ (f i).2 ∧ (f i).2 ≤ now) : SoundCall Try.prog 11 [ptr s, encM m] M fun r M' => r = .raw (.bool (hearsB self f m)) ∧ ((if hearsB self f m then M.upd s (.cells (sus self (fupd f m.node (m.life, now)) c)) else M)).le M' := by
  refine SoundCall.go tk11 pl11 mixed Try.func11 cb11 rfl (Nat.le_of_ble_eq_true rfl) ?_
  refine s_seq ?_
  refine s_region ?_
  refine o_box (by first | exact e_raw rfl | exact e_agg rfl | exact e_sl rfl) rfl rfl (fun B1 hB1 => ?_)
  have n1 : s ≠ B1 := ne_fresh hB1 hs
  have n2 : c ≠ B1 := ne_fresh hB1 hc
  refine o_q (q_as (v_raw rfl)) rfl rfl rfl ?_
  refine o_nil ?_
  refine s_seq ?_
  refine s_seq ?_
  refine s_draw rfl ?_
  refine d_q rfl (q_ldmw ag23 sz23 rfl (by repeat first | exact Mem.upd_self _ _ _ | assumption | refine Mem.upd_ne (by assumption) ?_) rfl rfl) rfl rfl rfl ?_
  refine d_s rfl ?_
  refine o_call ((snd18 m _).det) goes18 (ac (v_agg rfl) ac_nil) rfl ?_
  refine o_nil ⟨(by simp [Mem.upd, *]), ?_⟩
  refine d_q rfl (q_not rfl) rfl rfl rfl ?_
  refine d_q rfl (q_mv (v_raw rfl)) rfl rfl rfl ?_
  refine d_cases (want := false) (j := 3) rfl rfl (fun h1 => ?_) (fun h1 => ?_)
  · have k1 := h1; try simp only [decide_eq_true_eq, decide_eq_false_iff_not, Bool.not_eq_true', Bool.not_eq_false', Bool.not_true, Bool.not_false, List.length_map, Decidable.not_not] at k1
    have rr := right_spec.1 k1
    refine d_yes rfl (q_fr fo23_0 rfl) rfl rfl rfl h1 rfl rfl ?_
    refine d_yes rfl (q_ldm ag3 sz3 rfl (by repeat first | exact Mem.upd_self _ _ _ | assumption | refine Mem.upd_ne (by assumption) ?_) (by first | rfl | exact sus_life (by omega) (by omega) | exact sus_when (by omega) (by omega) | exact sus_pair (by omega) (by omega)) (v_raw rfl)) rfl rfl rfl h1 rfl rfl ?_
    refine d_yes rfl (q_mv ((by first | exact v_raw rfl | exact v_sptr rfl))) rfl rfl rfl h1 rfl rfl ?_
    refine d_yes rfl (q_nil rfl) rfl rfl rfl h1 rfl rfl ?_
    refine d_yes rfl (q_fr fo47_0 rfl) rfl rfl rfl h1 rfl rfl ?_
    refine d_yes rfl (q_fr fo23_0 rfl) rfl rfl rfl h1 rfl rfl ?_
    refine d_yes rfl (q_ldm ag3 sz3 rfl (by repeat first | exact Mem.upd_self _ _ _ | assumption | refine Mem.upd_ne (by assumption) ?_) (by first | rfl | exact sus_life (by omega) (by omega) | exact sus_when (by omega) (by omega) | exact sus_pair (by omega) (by omega)) (v_raw rfl)) rfl rfl rfl h1 rfl rfl ?_
    refine d_yes rfl (q_eql rfl rfl) rfl rfl rfl h1 rfl rfl ?_
    refine d_q rfl (q_pick_c rfl h1 (v_raw rfl)) rfl rfl rfl ?_
    refine d_q rfl (q_mv (v_raw rfl)) rfl rfl rfl ?_
    refine d_cases (want := false) (j := 13) rfl rfl (fun h2 => ?_) (fun h2 => ?_)
    · have k2 := h2; try simp only [decide_eq_true_eq, decide_eq_false_iff_not, Bool.not_eq_true', Bool.not_eq_false', Bool.not_true, Bool.not_false, List.length_map, Decidable.not_not] at k2
      refine d_yes rfl (q_fr fo23_1 rfl) rfl rfl rfl h2 rfl rfl ?_
      refine d_yes rfl (q_ldm ag3 sz3 rfl (by repeat first | exact Mem.upd_self _ _ _ | assumption | refine Mem.upd_ne (by assumption) ?_) (by first | rfl | exact sus_life (by omega) (by omega) | exact sus_when (by omega) (by omega) | exact sus_pair (by omega) (by omega)) (v_raw rfl)) rfl rfl rfl h2 rfl rfl ?_
      refine d_yes rfl (q_mv ((by first | exact v_raw rfl | exact v_sptr rfl))) rfl rfl rfl h2 rfl rfl ?_
      refine d_yes rfl (q_fr fo23_0 rfl) rfl rfl rfl h2 rfl rfl ?_
      refine d_yes rfl (q_ldm ag3 sz3 rfl (by repeat first | exact Mem.upd_self _ _ _ | assumption | refine Mem.upd_ne (by assumption) ?_) (by first | rfl | exact sus_life (by omega) (by omega) | exact sus_when (by omega) (by omega) | exact sus_pair (by omega) (by omega)) (v_raw rfl)) rfl rfl rfl h2 rfl rfl ?_
      refine d_yes rfl (q_nil rfl) rfl rfl rfl h2 rfl rfl ?_
      refine d_yes rfl (q_fr fo47_1 rfl) rfl rfl rfl h2 rfl rfl ?_
      refine d_yes rfl (q_idxa und45 sz44 rfl rfl (by omega) (by omega)) rfl rfl rfl h2 rfl rfl ?_
      refine d_yes rfl (q_fr fo44_0 rfl) rfl rfl rfl h2 rfl rfl ?_
      refine d_yes rfl (q_ldm ag3 sz3 rfl (by repeat first | exact Mem.upd_self _ _ _ | assumption | refine Mem.upd_ne (by assumption) ?_) (by first | rfl | exact sus_life (by omega) (by omega) | exact sus_when (by omega) (by omega) | exact sus_pair (by omega) (by omega)) (v_raw rfl)) rfl rfl rfl h2 rfl rfl ?_
      refine d_yes rfl (q_lss rfl rfl) rfl rfl rfl h2 rfl rfl ?_
      refine d_q rfl (q_pick_c rfl h2 (v_raw rfl)) rfl rfl rfl ?_
      refine d_nil ?_
      refine s_cond rfl (fun h3 => ?_) (fun h3 => ?_)
      · have k3 := h3; try simp only [decide_eq_true_eq, decide_eq_false_iff_not, Bool.not_eq_true', Bool.not_eq_false', Bool.not_true, Bool.not_false, List.length_map, Decidable.not_not] at k3
        refine s_seq ?_
        refine s_region ?_
        refine o_q (q_as (v_raw rfl)) rfl rfl rfl ?_
        refine o_nil ?_
        refine s_ret ?_
        refine s_code_ret ?_
        refine s_end ?_
        refine ⟨congrArg (fun b => AVal.raw (.bool b)) ?_, ?_⟩
        · simp_all [hearsB]
        · rw [if_neg (by simp_all [hearsB])]
          exact Mem.le_upd (Mem.le_refl M) hB1
      · have k3 := h3; try simp only [decide_eq_true_eq, decide_eq_false_iff_not, Bool.not_eq_true', Bool.not_eq_false', Bool.not_true, Bool.not_false, List.length_map, Decidable.not_not] at k3
        refine s_skip ?_
        refine s_seq ?_
        refine s_draw rfl ?_
        refine d_q rfl (q_mv ((by first | exact v_raw rfl | exact v_sptr rfl))) rfl rfl rfl ?_
        refine d_q rfl (q_fr fo23_0 rfl) rfl rfl rfl ?_
        refine d_q rfl (q_ldm ag3 sz3 rfl (by repeat first | exact Mem.upd_self _ _ _ | assumption | refine Mem.upd_ne (by assumption) ?_) (by first | rfl | exact sus_life (by omega) (by omega) | exact sus_when (by omega) (by omega) | exact sus_pair (by omega) (by omega)) (v_raw rfl)) rfl rfl rfl ?_
        refine d_q rfl (q_fr fo23_1 rfl) rfl rfl rfl ?_
        refine d_q rfl (q_ldm ag3 sz3 rfl (by repeat first | exact Mem.upd_self _ _ _ | assumption | refine Mem.upd_ne (by assumption) ?_) (by first | rfl | exact sus_life (by omega) (by omega) | exact sus_when (by omega) (by omega) | exact sus_pair (by omega) (by omega)) (v_raw rfl)) rfl rfl rfl ?_
        refine d_q rfl (q_mv ((by first | exact v_raw rfl | exact v_sptr rfl))) rfl rfl rfl ?_
        refine d_q rfl (q_nil rfl) rfl rfl rfl ?_
        refine d_q rfl (q_fr fo47_2 rfl) rfl rfl rfl ?_
        refine d_q rfl (q_ldm ag41 sz41 rfl (by repeat first | exact Mem.upd_self _ _ _ | assumption | refine Mem.upd_ne (by assumption) ?_) (by first | rfl | exact sus_life (by omega) (by omega) | exact sus_when (by omega) (by omega) | exact sus_pair (by omega) (by omega)) (v_raw rfl)) rfl rfl rfl ?_
        refine d_q rfl (q_nil rfl) rfl rfl rfl ?_
        refine d_q rfl (q_fr fo47_1 rfl) rfl rfl rfl ?_
        refine d_s rfl ?_
        refine o_callv rfl (snd21' now c _ (by repeat first | exact Mem.upd_self _ _ _ | assumption | refine Mem.upd_ne (by assumption) ?_) (by omega)) goes21 (ac (v_raw rfl) ac_nil) rfl rfl ?_
        rintro r M' ⟨rfl, rfl⟩
        refine o_nil ⟨(by simp [Mem.upd, *]), ?_⟩
        refine d_q rfl (q_b (cs := [_, _]) bz44 bp44 (bf fo44_0 (e_raw rfl) rfl rfl (Nat.le_of_ble_eq_true rfl) rfl (bf fo44_1 (e_raw rfl) rfl rfl (Nat.le_of_ble_eq_true rfl) rfl bf_nil))) rfl rfl rfl ?_
        refine d_q rfl (q_idxa und45 sz44 rfl rfl (by omega) (by omega)) rfl rfl rfl ?_
        refine d_s rfl ?_
        refine o_store rfl (by repeat first | exact Mem.upd_self _ _ _ | assumption | refine Mem.upd_ne (by assumption) ?_) (by first | exact e_raw rfl | exact e_agg rfl | exact e_sl rfl | rfl) rfl sz44 rfl (by show _ ≤ 17; omega) rfl (sus_set (n := m.node) (by omega) (by omega)) ?_
        refine o_nil ⟨(by simp [Mem.upd, *]), ?_⟩
        refine d_nil ?_
        refine s_seq ?_
        refine s_region ?_
        refine o_q (q_as (v_raw rfl)) rfl rfl rfl ?_
        refine o_nil ?_
        refine s_ret ?_
        refine s_end ?_
        have e : hearsB self f m = true := by simp_all [hearsB]
        rw [e]
        exact ⟨rfl, by rw [if_pos rfl]; exact Mem.le_upds (Mem.le_upd (Mem.le_refl M) hB1)⟩
    · have k2 := h2; try simp only [decide_eq_true_eq, decide_eq_false_iff_not, Bool.not_eq_true', Bool.not_eq_false', Bool.not_true, Bool.not_false, List.length_map, Decidable.not_not] at k2
      refine d_no rfl rfl rfl rfl h2 rfl ?_
      refine d_no rfl rfl rfl rfl h2 rfl ?_
      refine d_no rfl rfl rfl rfl h2 rfl ?_
      refine d_no rfl rfl rfl rfl h2 rfl ?_
      refine d_no rfl rfl rfl rfl h2 rfl ?_
      refine d_no rfl rfl rfl rfl h2 rfl ?_
      refine d_no rfl rfl rfl rfl h2 rfl ?_
      refine d_no rfl rfl rfl rfl h2 rfl ?_
      refine d_no rfl rfl rfl rfl h2 rfl ?_
      refine d_no rfl rfl rfl rfl h2 rfl ?_
      refine d_no rfl rfl rfl rfl h2 rfl ?_
      refine d_q rfl (q_pick_c rfl h2 (v_raw rfl)) rfl rfl rfl ?_
      refine d_nil ?_
      refine s_then rfl rfl ?_
      refine s_seq ?_
      refine s_region ?_
      refine o_q (q_as (v_raw rfl)) rfl rfl rfl ?_
      refine o_nil ?_
      refine s_ret ?_
      refine s_code_ret ?_
      refine s_end ?_
      refine ⟨congrArg (fun b => AVal.raw (.bool b)) ?_, ?_⟩
      · simp_all [hearsB]
      · rw [if_neg (by simp_all [hearsB])]
        exact Mem.le_upd (Mem.le_refl M) hB1
  · have k1 := h1; try simp only [decide_eq_true_eq, decide_eq_false_iff_not, Bool.not_eq_true', Bool.not_eq_false', Bool.not_true, Bool.not_false, List.length_map, Decidable.not_not] at k1
    refine d_no rfl rfl rfl rfl h1 rfl ?_
    refine d_no rfl rfl rfl rfl h1 rfl ?_
    refine d_no rfl rfl rfl rfl h1 rfl ?_
    refine d_no rfl rfl rfl rfl h1 rfl ?_
    refine d_no rfl rfl rfl rfl h1 rfl ?_
    refine d_no rfl rfl rfl rfl h1 rfl ?_
    refine d_no rfl rfl rfl rfl h1 rfl ?_
    refine d_no rfl rfl rfl rfl h1 rfl ?_
    refine d_q rfl (q_pick_c rfl h1 (v_raw rfl)) rfl rfl rfl ?_
    refine d_q rfl (q_mv (v_raw rfl)) rfl rfl rfl ?_
    refine d_no rfl rfl rfl rfl rfl rfl ?_
    refine d_no rfl rfl rfl rfl rfl rfl ?_
    refine d_no rfl rfl rfl rfl rfl rfl ?_
    refine d_no rfl rfl rfl rfl rfl rfl ?_
    refine d_no rfl rfl rfl rfl rfl rfl ?_
    refine d_no rfl rfl rfl rfl rfl rfl ?_
    refine d_no rfl rfl rfl rfl rfl rfl ?_
    refine d_no rfl rfl rfl rfl rfl rfl ?_
    refine d_no rfl rfl rfl rfl rfl rfl ?_
    refine d_no rfl rfl rfl rfl rfl rfl ?_
    refine d_no rfl rfl rfl rfl rfl rfl ?_
    refine d_q rfl (q_pick_c rfl rfl (v_raw rfl)) rfl rfl rfl ?_
    refine d_nil ?_
    refine s_then rfl rfl ?_
    refine s_seq ?_
    refine s_region ?_
    refine o_q (q_as (v_raw rfl)) rfl rfl rfl ?_
    refine o_nil ?_
    refine s_ret ?_
    refine s_code_ret ?_
    refine s_end ?_
    refine ⟨congrArg (fun b => AVal.raw (.bool b)) ?_, ?_⟩
    · simp_all [hearsB]
    · rw [if_neg (by simp_all [hearsB])]
      exact Mem.le_upd (Mem.le_refl M) hB1

def tk15 : Nat → Nat → Option Nat := fun _ _ => none
def pl15 : Nat → List PStep
  | 1 => [.q 0, .q 1, .q 2, .q 3, .q 4, .q 5, .q 6]
  | 3 => [.q 0, .s 1 [], .q 2, .q 3, .q 4, .q 5, .q 6, .q 7, .q 8, .q 9, .q 10, .q 11, .q 12, .q 13]
  | 5 => [.q 0, .q 1, .q 2, .q 3, .q 4, .q 5, .q 6, .s 7 [6, 5, 4, 3, 2, 1, 0], .s 8 []]
  | 6 => [.q 0, .q 1, .q 2, .q 3, .q 4, .q 5, .q 6, .q 7, .q 8, .q 9, .q 11, .q 12, .s 10 [12, 11, 8, 7, 6, 4, 3, 2, 1, 0], .q 13, .q 14, .q 15, .q 16]
  | _ => []
theorem cb15 : Try.f15.body.map (codeB Try.prog Try.f15.ntmps tk15 pl15) = some true := by kernel_rfl
theorem goes15 : goesB Try.prog 15 = true := by kernel_rfl
-- (*carillon/suspect.Suspect).Is params ['*suspect.Suspect', 'api.Member'] results [['t', 4]] own [] names ['0:s', '1:m', '2:s', '3:m', '5:h'] calls [18] paths 5

theorem eqg23 : Try.prog.eqGuardType Try.prog.depth 23 = false := by kernel_rfl
theorem stood23 : Try.prog.stoodInHeld 23 = false := by kernel_rfl
theorem und3 : Try.prog.underlying 3 = some (.int .i64) := by kernel_rfl
def rawM (m : Mb) : Value := .agg #[.int .i64 m.node, .int .i64 m.life]
theorem mbEq (r r' : Mb) : pr Try.prog (Op.equal 23 (rawM r) (rawM r')) = some (decide (r = r')) := by
  refine eqStruct Try.underlying23 stood23 ?_
  simp only [List.forIn_cons, List.forIn_nil]
  refine fldEq' (by decide) (part_one (v := .int .i64 r.node) ag3 rfl) (part_one (v := .int .i64 r'.node) ag3 rfl) (eq_int und3 _ _) (fun _ => rfl) rfl (congrArg Mb.node) (fun h1 => ?_)
  refine fldEq' (by decide) (part_one (v := .int .i64 r.life) ag3 rfl) (part_one (v := .int .i64 r'.life) ag3 rfl) (eq_int und3 _ _) (fun _ => rfl) rfl (congrArg Mb.life) (fun h2 => ?_)
  have : r = r' := by cases r; cases r'; simp at h1 h2; simp [*]
  simp only [this, decide_true]; rfl
theorem binEqM (x y : Operand) (r r' : Mb) : aBin Try.prog .eql 23 x y (encM r) (encM r') = some (.raw (.bool (decide (r = r')))) :=
  aBin_structEq eqg23 rfl rfl (fun _ _ h => by cases h) (mbEq r r')
theorem binNeM (x y : Operand) (r r' : Mb) : aBin Try.prog .neq 23 x y (encM r) (encM r') = some (.raw (.bool (!decide (r = r')))) :=
  aBin_structNeq eqg23 rfl rfl (fun _ _ h => by cases h) (mbEq r r')

def isB (self : Mb) (f : Nat → Int × Int) (now : Int) (m : Mb) : Bool := decide (m = self) || (right m && !decide (m.node = self.node) && decide ((f m.node.toNat).1 = m.life) && decide (now - (f m.node.toNat).2 < 5))
theorem snd15 (s c : Nat) (self : Mb) (f : Nat → Int × Int) (now : Int) (m : Mb) (M : Mem) (hs : M s = some (.cells (sus self f c))) (hc : M c = some (.cells [int now])) (hsc : s ≠ c) (hw : 0 ≤ now ∧ now < 2 ^ 60) (hf : ∀ i, 0 ≤ (f i).2 ∧ (f i).2 ≤ now) : SoundCall Try.prog 15 [ptr s, encM m] M fun r M' => r = .raw (.bool (isB self f now m)) ∧ M.le M' := by
  have ff := hf m.node.toNat
  refine SoundCall.go tk15 pl15 mixed Try.func15 cb15 rfl (Nat.le_of_ble_eq_true rfl) ?_
  refine s_seq ?_
  refine s_region ?_
  refine o_box (by first | exact e_raw rfl | exact e_agg rfl | exact e_sl rfl) rfl rfl (fun B1 hB1 => ?_)
  have n1 : s ≠ B1 := ne_fresh hB1 hs
  have n2 : c ≠ B1 := ne_fresh hB1 hc
  refine o_q (q_as (v_raw rfl)) rfl rfl rfl ?_
  refine o_nil ?_
  refine s_seq ?_
  refine s_block ?_
  refine s_seq ?_
  refine s_draw rfl ?_
  refine d_q rfl (q_ldmw ag23 sz23 rfl (by repeat first | exact Mem.upd_self _ _ _ | assumption | refine Mem.upd_ne (by assumption) ?_) rfl rfl) rfl rfl rfl ?_
  refine d_q rfl (q_mv ((by first | exact v_raw rfl | exact v_sptr rfl))) rfl rfl rfl ?_
  refine d_q rfl (q_nil rfl) rfl rfl rfl ?_
  refine d_q rfl (q_fr fo47_0 rfl) rfl rfl rfl ?_
  refine d_q rfl (q_ldm ag23 sz23 rfl (by repeat first | exact Mem.upd_self _ _ _ | assumption | refine Mem.upd_ne (by assumption) ?_) (by first | rfl | exact sus_life (by omega) (by omega) | exact sus_when (by omega) (by omega) | exact sus_pair (by omega) (by omega)) (v_agg rfl)) rfl rfl rfl ?_
  refine d_q rfl (q_bin' rfl rfl (binEqM _ _ m self)) rfl rfl rfl ?_
  refine d_q rfl (q_as (v_raw rfl)) rfl rfl rfl ?_
  refine d_nil ?_
  refine s_cond rfl (fun h1 => ?_) (fun h1 => ?_)
  · have k1 := h1; try simp only [decide_eq_true_eq, decide_eq_false_iff_not, Bool.not_eq_true', Bool.not_eq_false', Bool.not_true, Bool.not_false, List.length_map, Decidable.not_not] at k1
    refine s_seq ?_
    refine s_region ?_
    refine o_q (q_as (v_raw rfl)) rfl rfl rfl ?_
    refine o_nil ?_
    refine s_ret ?_
    refine s_blk_ret ?_
    refine s_code_ret ?_
    refine s_end ?_
    refine ⟨congrArg (fun b => AVal.raw (.bool b)) ?_, Mem.le_upd (Mem.le_refl M) hB1⟩
    simp_all [isB]
  · have k1 := h1; try simp only [decide_eq_true_eq, decide_eq_false_iff_not, Bool.not_eq_true', Bool.not_eq_false', Bool.not_true, Bool.not_false, List.length_map, Decidable.not_not] at k1
    refine s_seq ?_
    refine s_draw rfl ?_
    refine d_q rfl (q_ldmw ag23 sz23 rfl (by repeat first | exact Mem.upd_self _ _ _ | assumption | refine Mem.upd_ne (by assumption) ?_) rfl rfl) rfl rfl rfl ?_
    refine d_s rfl ?_
    refine o_call ((snd18 m _).det) goes18 (ac (v_agg rfl) ac_nil) rfl ?_
    refine o_nil ⟨(by simp [Mem.upd, *]), ?_⟩
    refine d_q rfl (q_not rfl) rfl rfl rfl ?_
    refine d_q rfl (q_mv (v_raw rfl)) rfl rfl rfl ?_
    refine d_cases (want := false) (j := 3) rfl rfl (fun h2 => ?_) (fun h2 => ?_)
    · have k2 := h2; try simp only [decide_eq_true_eq, decide_eq_false_iff_not, Bool.not_eq_true', Bool.not_eq_false', Bool.not_true, Bool.not_false, List.length_map, Decidable.not_not] at k2
      have rr := right_spec.1 k2
      refine d_yes rfl (q_fr fo23_0 rfl) rfl rfl rfl h2 rfl rfl ?_
      refine d_yes rfl (q_ldm ag3 sz3 rfl (by repeat first | exact Mem.upd_self _ _ _ | assumption | refine Mem.upd_ne (by assumption) ?_) (by first | rfl | exact sus_life (by omega) (by omega) | exact sus_when (by omega) (by omega) | exact sus_pair (by omega) (by omega)) (v_raw rfl)) rfl rfl rfl h2 rfl rfl ?_
      refine d_yes rfl (q_mv ((by first | exact v_raw rfl | exact v_sptr rfl))) rfl rfl rfl h2 rfl rfl ?_
      refine d_yes rfl (q_nil rfl) rfl rfl rfl h2 rfl rfl ?_
      refine d_yes rfl (q_fr fo47_0 rfl) rfl rfl rfl h2 rfl rfl ?_
      refine d_yes rfl (q_fr fo23_0 rfl) rfl rfl rfl h2 rfl rfl ?_
      refine d_yes rfl (q_ldm ag3 sz3 rfl (by repeat first | exact Mem.upd_self _ _ _ | assumption | refine Mem.upd_ne (by assumption) ?_) (by first | rfl | exact sus_life (by omega) (by omega) | exact sus_when (by omega) (by omega) | exact sus_pair (by omega) (by omega)) (v_raw rfl)) rfl rfl rfl h2 rfl rfl ?_
      refine d_yes rfl (q_eql rfl rfl) rfl rfl rfl h2 rfl rfl ?_
      refine d_q rfl (q_pick_c rfl h2 (v_raw rfl)) rfl rfl rfl ?_
      refine d_q rfl (q_as (v_raw rfl)) rfl rfl rfl ?_
      refine d_nil ?_
      refine s_cond rfl (fun h3 => ?_) (fun h3 => ?_)
      · have k3 := h3; try simp only [decide_eq_true_eq, decide_eq_false_iff_not, Bool.not_eq_true', Bool.not_eq_false', Bool.not_true, Bool.not_false, List.length_map, Decidable.not_not] at k3
        refine s_seq ?_
        refine s_region ?_
        refine o_q (q_as (v_raw rfl)) rfl rfl rfl ?_
        refine o_nil ?_
        refine s_ret ?_
        refine s_blk_ret ?_
        refine s_code_ret ?_
        refine s_end ?_
        refine ⟨congrArg (fun b => AVal.raw (.bool b)) ?_, Mem.le_upd (Mem.le_refl M) hB1⟩
        simp_all [isB]
      · have k3 := h3; try simp only [decide_eq_true_eq, decide_eq_false_iff_not, Bool.not_eq_true', Bool.not_eq_false', Bool.not_true, Bool.not_false, List.length_map, Decidable.not_not] at k3
        refine s_skip ?_
        refine s_blk_normal ?_
        refine s_seq ?_
        refine s_draw rfl ?_
        refine d_q rfl (q_mv ((by first | exact v_raw rfl | exact v_sptr rfl))) rfl rfl rfl ?_
        refine d_q rfl (q_fr fo23_0 rfl) rfl rfl rfl ?_
        refine d_q rfl (q_ldm ag3 sz3 rfl (by repeat first | exact Mem.upd_self _ _ _ | assumption | refine Mem.upd_ne (by assumption) ?_) (by first | rfl | exact sus_life (by omega) (by omega) | exact sus_when (by omega) (by omega) | exact sus_pair (by omega) (by omega)) (v_raw rfl)) rfl rfl rfl ?_
        refine d_q rfl (q_nil rfl) rfl rfl rfl ?_
        refine d_q rfl (q_fr fo47_1 rfl) rfl rfl rfl ?_
        refine d_q rfl (q_idxa und45 sz44 rfl rfl (by omega) (by omega)) rfl rfl rfl ?_
        refine d_q rfl (q_ldm ag44 sz44 rfl (by repeat first | exact Mem.upd_self _ _ _ | assumption | refine Mem.upd_ne (by assumption) ?_) (by first | rfl | exact sus_life (by omega) (by omega) | exact sus_when (by omega) (by omega) | exact sus_pair (by omega) (by omega)) (v_agg rfl)) rfl rfl rfl ?_
        refine d_s rfl ?_
        refine o_alloc zc44 (fun B2 hB2 => ?_)
        have n3 : s ≠ B2 := ne_fresh hB2 (Mem.upd_ne n1 hs)
        have n4 : c ≠ B2 := ne_fresh hB2 (Mem.upd_ne n2 hc)
        have n5 : B1 ≠ B2 := ne_fresh hB2 (Mem.upd_self _ _ _)
        refine o_nil ⟨(by simp [Mem.upd, *]), ?_⟩
        refine d_s rfl ?_
        refine o_storew rfl (by repeat first | exact Mem.upd_self _ _ _ | assumption | refine Mem.upd_ne (by assumption) ?_) (by first | exact e_agg rfl | rfl) rfl sz44 rfl rfl rfl rfl ?_
        refine o_nil ⟨(by simp [Mem.upd, *]), ?_⟩
        refine d_nil ?_
        refine s_seq ?_
        refine s_draw rfl ?_
        refine d_q rfl (q_fr fo44_0 rfl) rfl rfl rfl ?_
        refine d_q rfl (q_ldm ag3 sz3 rfl (by repeat first | exact Mem.upd_self _ _ _ | assumption | refine Mem.upd_ne (by assumption) ?_) (by first | rfl | exact sus_life (by omega) (by omega) | exact sus_when (by omega) (by omega) | exact sus_pair (by omega) (by omega)) (v_raw rfl)) rfl rfl rfl ?_
        refine d_q rfl (q_fr fo23_1 rfl) rfl rfl rfl ?_
        refine d_q rfl (q_ldm ag3 sz3 rfl (by repeat first | exact Mem.upd_self _ _ _ | assumption | refine Mem.upd_ne (by assumption) ?_) (by first | rfl | exact sus_life (by omega) (by omega) | exact sus_when (by omega) (by omega) | exact sus_pair (by omega) (by omega)) (v_raw rfl)) rfl rfl rfl ?_
        refine d_q rfl (q_eql rfl rfl) rfl rfl rfl ?_
        refine d_q rfl (q_mv (v_raw rfl)) rfl rfl rfl ?_
        refine d_cases (want := true) (j := 5) rfl rfl (fun h4 => ?_) (fun h4 => ?_)
        · have k4 := h4; try simp only [decide_eq_true_eq, decide_eq_false_iff_not, Bool.not_eq_true', Bool.not_eq_false', Bool.not_true, Bool.not_false, List.length_map, Decidable.not_not] at k4
          refine d_yes rfl (q_mv ((by first | exact v_raw rfl | exact v_sptr rfl))) rfl rfl rfl h4 rfl rfl ?_
          refine d_yes rfl (q_nil rfl) rfl rfl rfl h4 rfl rfl ?_
          refine d_yes rfl (q_fr fo47_2 rfl) rfl rfl rfl h4 rfl rfl ?_
          refine d_yes rfl (q_ldm ag41 sz41 rfl (by repeat first | exact Mem.upd_self _ _ _ | assumption | refine Mem.upd_ne (by assumption) ?_) (by first | rfl | exact sus_life (by omega) (by omega) | exact sus_when (by omega) (by omega) | exact sus_pair (by omega) (by omega)) (v_raw rfl)) rfl rfl rfl h4 rfl rfl ?_
          refine d_yes rfl (q_fr fo44_1 rfl) rfl rfl rfl h4 rfl rfl ?_
          refine d_yes rfl (q_ldm ag3 sz3 rfl (by repeat first | exact Mem.upd_self _ _ _ | assumption | refine Mem.upd_ne (by assumption) ?_) (by first | rfl | exact sus_life (by omega) (by omega) | exact sus_when (by omega) (by omega) | exact sus_pair (by omega) (by omega)) (v_raw rfl)) rfl rfl rfl h4 rfl rfl ?_
          refine d_s rfl ?_
          refine o_yes rfl rfl rfl h4 ?_
          refine o_callv rfl (snd21' now c _ (by repeat first | exact Mem.upd_self _ _ _ | assumption | refine Mem.upd_ne (by assumption) ?_) (by omega)) goes21 (ac (v_raw rfl) ac_nil) rfl rfl ?_
          rintro r M' ⟨rfl, rfl⟩
          refine o_nil ⟨(by simp [Mem.upd, *]), ?_⟩
          refine d_yes rfl (q_sub rfl rfl (wrap64 (by omega) (by omega))) rfl rfl rfl h4 rfl rfl ?_
          refine d_yes rfl (q_lss rfl rfl) rfl rfl rfl h4 rfl rfl ?_
          refine d_q rfl (q_pick_c rfl h4 (v_raw rfl)) rfl rfl rfl ?_
          refine d_q rfl (q_as (v_raw rfl)) rfl rfl rfl ?_
          refine d_nil ?_
          refine s_ret ?_
          refine s_end ?_
          refine ⟨congrArg (fun b => AVal.raw (.bool b)) ?_, Mem.le_upd (Mem.le_upd (Mem.le_upd (Mem.le_refl M) hB1) (Mem.upd_none hB2).2) (Mem.upd_none hB2).2⟩
          simp_all [isB]
        · have k4 := h4; try simp only [decide_eq_true_eq, decide_eq_false_iff_not, Bool.not_eq_true', Bool.not_eq_false', Bool.not_true, Bool.not_false, List.length_map, Decidable.not_not] at k4
          refine d_no rfl rfl rfl rfl h4 rfl ?_
          refine d_no rfl rfl rfl rfl h4 rfl ?_
          refine d_no rfl rfl rfl rfl h4 rfl ?_
          refine d_no rfl rfl rfl rfl h4 rfl ?_
          refine d_no rfl rfl rfl rfl h4 rfl ?_
          refine d_no rfl rfl rfl rfl h4 rfl ?_
          refine d_s rfl ?_
          refine o_no rfl rfl rfl rfl h4 ?_
          refine o_nil ⟨(by simp [Mem.upd, *]), ?_⟩
          refine d_no rfl rfl rfl rfl h4 rfl ?_
          refine d_no rfl rfl rfl rfl h4 rfl ?_
          refine d_q rfl (q_pick_c rfl h4 (v_raw rfl)) rfl rfl rfl ?_
          refine d_q rfl (q_as (v_raw rfl)) rfl rfl rfl ?_
          refine d_nil ?_
          refine s_ret ?_
          refine s_end ?_
          refine ⟨congrArg (fun b => AVal.raw (.bool b)) ?_, Mem.le_upd (Mem.le_upd (Mem.le_upd (Mem.le_refl M) hB1) (Mem.upd_none hB2).2) (Mem.upd_none hB2).2⟩
          simp_all [isB]
    · have k2 := h2; try simp only [decide_eq_true_eq, decide_eq_false_iff_not, Bool.not_eq_true', Bool.not_eq_false', Bool.not_true, Bool.not_false, List.length_map, Decidable.not_not] at k2
      refine d_no rfl rfl rfl rfl h2 rfl ?_
      refine d_no rfl rfl rfl rfl h2 rfl ?_
      refine d_no rfl rfl rfl rfl h2 rfl ?_
      refine d_no rfl rfl rfl rfl h2 rfl ?_
      refine d_no rfl rfl rfl rfl h2 rfl ?_
      refine d_no rfl rfl rfl rfl h2 rfl ?_
      refine d_no rfl rfl rfl rfl h2 rfl ?_
      refine d_no rfl rfl rfl rfl h2 rfl ?_
      refine d_q rfl (q_pick_c rfl h2 (v_raw rfl)) rfl rfl rfl ?_
      refine d_q rfl (q_as (v_raw rfl)) rfl rfl rfl ?_
      refine d_nil ?_
      refine s_then rfl rfl ?_
      refine s_seq ?_
      refine s_region ?_
      refine o_q (q_as (v_raw rfl)) rfl rfl rfl ?_
      refine o_nil ?_
      refine s_ret ?_
      refine s_blk_ret ?_
      refine s_code_ret ?_
      refine s_end ?_
      refine ⟨congrArg (fun b => AVal.raw (.bool b)) ?_, Mem.le_upd (Mem.le_refl M) hB1⟩
      simp_all [isB]

def tk13 : Nat → Nat → Option Nat
  | 1, 0 => some 0
  | 9, 0 => some 0
  | 9, 4 => some 0
  | _, _ => none
def pl13 : Nat → List PStep := fun _ => []
theorem cb13 : Try.f13.body.map (codeB Try.prog Try.f13.ntmps tk13 pl13) = some true := by kernel_rfl
theorem goes13 : goesB Try.prog 13 = true := by kernel_rfl
-- (*carillon/suspect.Suspect).Alive params ['*suspect.Suspect'] results [['t', 2]] own [33, 3, 36] names ['0:s', '1:s', '3:out', '4:n', '5:h', '6:m'] calls [15] paths 5

def arr (f : Nat → Int × Int) : List AVal := [int (f 0).1, int (f 0).2, int (f 1).1, int (f 1).2, int (f 2).1, int (f 2).2, int (f 3).1, int (f 3).2, int (f 4).1, int (f 4).2, int (f 5).1, int (f 5).2, int (f 6).1, int (f 6).2]
theorem arr_pair {f : Nat → Int × Int} {k : Nat} (h : k < 7) : piece true (arr f) ((k : Int).toNat * 2) 2 = some (.agg [int (f k).1, int (f k).2]) := by
  have : k = 0 ∨ k = 1 ∨ k = 2 ∨ k = 3 ∨ k = 4 ∨ k = 5 ∨ k = 6 := by omega
  rcases this with h | h | h | h | h | h | h <;> subst h <;> rfl
def memAt (self : Mb) (f : Nat → Int × Int) (i : Nat) : Mb := if (i : Int) = self.node then self else ⟨i, (f i).1⟩
/-- Who is alive, of the first n. -/
def aliveN (self : Mb) (f : Nat → Int × Int) (now : Int) : Nat → List Mb
  | 0 => []
  | n + 1 => aliveN self f now n ++ if isB self f now (memAt self f n) then [memAt self f n] else []
theorem aliveN_succ (self : Mb) (f : Nat → Int × Int) (now : Int) (n : Nat) : aliveN self f now (n + 1) = aliveN self f now n ++ if isB self f now (memAt self f n) then [memAt self f n] else [] := rfl
theorem aliveN_len (self : Mb) (f : Nat → Int × Int) (now : Int) : ∀ n, (aliveN self f now n).length ≤ n
  | 0 => Nat.le_refl _
  | n + 1 => by
    have := aliveN_len self f now n
    rw [aliveN_succ, List.length_append]
    split <;> simp <;> omega
theorem elsM {l : List Mb} : Els 2 (l.map encM) := Els.map fun _ => ⟨rfl, rfl⟩
theorem snd13 (s c : Nat) (self : Mb) (f : Nat → Int × Int) (now : Int) (M : Mem) (hs : M s = some (.cells (sus self f c))) (hc : M c = some (.cells [int now])) (hsc : s ≠ c) (hw : 0 ≤ now ∧ now < 2 ^ 60) (hf : ∀ i, 0 ≤ (f i).2 ∧ (f i).2 ≤ now) : SoundCall Try.prog 13 [ptr s] M fun r M' => r = .sl ((aliveN self f now 7).map encM) false ∧ M.le M' := by
  refine SoundCall.go tk13 pl13 mixed Try.func13 cb13 rfl (Nat.le_of_ble_eq_true rfl) ?_
  refine s_seq ?_
  refine s_region ?_
  refine o_q (q_as (v_sl rfl)) rfl rfl rfl ?_
  refine o_nil ?_
  refine s_seq ?_
  refine s_region ?_
  refine o_q (q_as_const rfl) rfl rfl rfl ?_
  refine o_nil ?_
  refine s_seq ?_
  refine s_seq ?_
  refine s_region ?_
  refine o_q (q_mv ((by first | exact v_raw rfl | exact v_sptr rfl))) rfl rfl rfl ?_
  refine o_q (q_nil rfl) rfl rfl rfl ?_
  refine o_q (q_fr fo47_1 rfl) rfl rfl rfl ?_
  refine o_q (q_ldm ag45 sz45 rfl (by repeat first | exact Mem.upd_self _ _ _ | assumption | refine Mem.upd_ne (by assumption) ?_) (by first | rfl | exact arr_pair (by omega)) (v_agg rfl)) rfl rfl rfl ?_
  refine o_q (q_mv (v_raw rfl)) rfl rfl rfl ?_
  refine o_nil ?_
  refine s_block ?_
  refine s_loop (fun m S => ∃ T, ∃ M' : Mem, ∃ i : Nat, S = ⟨setT (setT (setT (setT T 0 (ptr s)) 3 (.sl ((aliveN self f now i).map encM) true)) 10 (.agg (arr f))) 11 (int i), M'⟩ ∧ M.le M' ∧ M' s = some (.cells (sus self f c)) ∧ M' c = some (.cells [int now]) ∧ i ≤ 7 ∧ m = 7 - i) 7 ?_ ?_
  · exact ⟨_, _, 0, St.mkT (kp (kp (kp (kp rfl rfl) rfl) rfl) rfl).symm, Mem.le_refl M, hs, hc, by omega, rfl⟩
  rintro m S ⟨T, M', i, rfl, hle, hs', hc', hi, rfl⟩
  have hlen := aliveN_len self f now i
  refine s_seq ?_
  refine s_region ?_
  refine o_q (q_lss rfl rfl) rfl rfl rfl ?_
  refine o_nil ?_
  refine s_seq ?_
  refine s_cond rfl (fun h1 => ?_) (fun h1 => ?_)
  · have k1 := h1; try simp only [decide_eq_true_eq, decide_eq_false_iff_not, Bool.not_eq_true', Bool.not_eq_false', Bool.not_true, Bool.not_false, List.length_map, Decidable.not_not] at k1
    refine s_skip ?_
    refine s_seq ?_
    refine s_block ?_
    refine s_seq ?_
    refine s_region ?_
    refine o_q (q_mv (v_raw rfl)) rfl rfl rfl ?_
    refine o_q (q_ix und45 sz44 ag44 rfl rfl (by omega) (by omega) (by first | rfl | exact arr_pair (by omega)) (v_agg rfl)) rfl rfl rfl ?_
    refine o_alloc zc44 (fun B1 hB1 => ?_)
    have n1 : s ≠ B1 := ne_fresh hB1 hs'
    have n2 : c ≠ B1 := ne_fresh hB1 hc'
    refine o_q (q_as (v_raw rfl)) rfl rfl rfl ?_
    refine o_storew rfl (by repeat first | exact Mem.upd_self _ _ _ | assumption | refine Mem.upd_ne (by assumption) ?_) (by first | exact e_agg rfl | rfl) rfl sz44 rfl rfl rfl rfl ?_
    refine o_nil ?_
    refine s_seq ?_
    refine s_region ?_
    refine o_q (q_mv (v_raw rfl)) rfl rfl rfl ?_
    refine o_q (q_fr fo44_0 rfl) rfl rfl rfl ?_
    refine o_q (q_ldm ag3 sz3 rfl (by repeat first | exact Mem.upd_self _ _ _ | assumption | refine Mem.upd_ne (by assumption) ?_) (by first | rfl | exact arr_pair (by omega)) (v_raw rfl)) rfl rfl rfl ?_
    refine o_q (q_b (cs := [_, _]) bz23 bp23 (bf fo23_0 (e_raw rfl) rfl rfl (Nat.le_of_ble_eq_true rfl) rfl (bf fo23_1 (e_raw rfl) rfl rfl (Nat.le_of_ble_eq_true rfl) rfl bf_nil))) rfl rfl rfl ?_
    refine o_alloc zc23 (fun B2 hB2 => ?_)
    have n3 : s ≠ B2 := ne_fresh hB2 (Mem.upd_ne n1 (Mem.upd_ne n1 hs'))
    have n4 : c ≠ B2 := ne_fresh hB2 (Mem.upd_ne n2 (Mem.upd_ne n2 hc'))
    refine o_storew rfl (by repeat first | exact Mem.upd_self _ _ _ | assumption | refine Mem.upd_ne (by assumption) ?_) (by first | exact e_agg rfl | rfl) rfl sz23 rfl rfl rfl rfl ?_
    refine o_nil ?_
    refine s_seq ?_
    refine s_seq ?_
    refine s_region ?_
    refine o_q (q_mv (v_raw rfl)) rfl rfl rfl ?_
    refine o_q (q_mv ((by first | exact v_raw rfl | exact v_sptr rfl))) rfl rfl rfl ?_
    refine o_q (q_nil rfl) rfl rfl rfl ?_
    refine o_q (q_fr fo47_0 rfl) rfl rfl rfl ?_
    refine o_q (q_fr fo23_0 rfl) rfl rfl rfl ?_
    refine o_q (q_ldm ag3 sz3 rfl (by repeat first | exact Mem.upd_self _ _ _ | assumption | refine Mem.upd_ne (by assumption) ?_) (by first | rfl | exact arr_pair (by omega)) (v_raw rfl)) rfl rfl rfl ?_
    refine o_q (q_eql rfl rfl) rfl rfl rfl ?_
    refine o_nil ?_
    refine s_cond rfl (fun h2 => ?_) (fun h2 => ?_)
    · have k2 := h2; try simp only [decide_eq_true_eq, decide_eq_false_iff_not, Bool.not_eq_true', Bool.not_eq_false', Bool.not_true, Bool.not_false, List.length_map, Decidable.not_not] at k2
      refine s_region ?_
      refine o_q (q_mv ((by first | exact v_raw rfl | exact v_sptr rfl))) rfl rfl rfl ?_
      refine o_q (q_nil rfl) rfl rfl rfl ?_
      refine o_q (q_fr fo47_0 rfl) rfl rfl rfl ?_
      refine o_q (q_ldm ag23 sz23 rfl (by repeat first | exact Mem.upd_self _ _ _ | assumption | refine Mem.upd_ne (by assumption) ?_) (by first | rfl | exact arr_pair (by omega)) (v_agg rfl)) rfl rfl rfl ?_
      refine o_storew rfl (by repeat first | exact Mem.upd_self _ _ _ | assumption | refine Mem.upd_ne (by assumption) ?_) (by first | exact e_agg rfl | rfl) rfl sz23 rfl rfl rfl rfl ?_
      refine o_nil ?_
      refine s_seq ?_
      refine s_region ?_
      refine o_q (q_mv ((by first | exact v_raw rfl | exact v_sptr rfl))) rfl rfl rfl ?_
      refine o_q (q_ldmw ag23 sz23 rfl (by repeat first | exact Mem.upd_self _ _ _ | assumption | refine Mem.upd_ne (by assumption) ?_) rfl rfl) rfl rfl rfl ?_
      refine o_call ((snd15 s c self f now self _ (by repeat first | exact Mem.upd_self _ _ _ | assumption | refine Mem.upd_ne (by assumption) ?_) (by repeat first | exact Mem.upd_self _ _ _ | assumption | refine Mem.upd_ne (by assumption) ?_) hsc hw hf).det) goes15 (ac ((by first | exact v_raw rfl | exact v_sptr rfl)) (ac (v_agg rfl) ac_nil)) rfl ?_
      refine o_nil ?_
      refine s_cond rfl (fun h3 => ?_) (fun h3 => ?_)
      · have k3 := h3; try simp only [decide_eq_true_eq, decide_eq_false_iff_not, Bool.not_eq_true', Bool.not_eq_false', Bool.not_true, Bool.not_false, List.length_map, Decidable.not_not] at k3
        refine s_region ?_
        refine o_qs (q_mv_own rfl) rfl rfl rfl rfl ?_
        refine o_q (q_ldmw ag23 sz23 rfl (by repeat first | exact Mem.upd_self _ _ _ | assumption | refine Mem.upd_ne (by assumption) ?_) rfl rfl) rfl rfl rfl ?_
        refine o_q (q_bs slt35 (pc (v_agg rfl) pn) rfl (Els.cons rfl rfl Els.nil) (by decide)) rfl rfl rfl ?_
        refine o_qs (q_app slt35 rfl rfl rfl rfl elsM (by first | exact elsM | exact Els.cons rfl rfl Els.nil) (by simp; omega)) rfl rfl rfl rfl ?_
        refine o_qs (q_as_own rfl) rfl rfl rfl rfl ?_
        refine o_nil ?_
        refine s_blk_normal ?_
        refine s_region ?_
        refine o_q (q_add rfl rfl (wrap64 (by omega) (by omega))) rfl rfl rfl ?_
        refine o_q (q_mv (v_raw rfl)) rfl rfl rfl ?_
        refine o_nil ?_
        refine s_inv ?_
        refine ⟨7 - (i + 1), by omega, _, _, i + 1, St.mkT (kp (kp (kp (kp rfl rfl) (show _ = AVal.sl ((aliveN self f now (i + 1)).map encM) true by rw [aliveN_succ, if_pos (by rw [memAt, if_pos k2]; exact k3), List.map_append, memAt]; simp only [*, if_true, if_false]; rfl)) rfl) rfl).symm, (by repeat first | exact hle | exact Mem.none_of_le hle hB1 | exact Mem.none_of_le hle (Mem.upd_none (Mem.upd_none hB2).2).2 | refine Mem.le_upd ?_ ?_), (by repeat first | exact Mem.upd_self _ _ _ | assumption | refine Mem.upd_ne (by assumption) ?_), (by repeat first | exact Mem.upd_self _ _ _ | assumption | refine Mem.upd_ne (by assumption) ?_), by omega, rfl⟩
      · have k3 := h3; try simp only [decide_eq_true_eq, decide_eq_false_iff_not, Bool.not_eq_true', Bool.not_eq_false', Bool.not_true, Bool.not_false, List.length_map, Decidable.not_not] at k3
        refine s_skip ?_
        refine s_blk_normal ?_
        refine s_region ?_
        refine o_q (q_add rfl rfl (wrap64 (by omega) (by omega))) rfl rfl rfl ?_
        refine o_q (q_mv (v_raw rfl)) rfl rfl rfl ?_
        refine o_nil ?_
        refine s_inv ?_
        refine ⟨7 - (i + 1), by omega, _, _, i + 1, St.mkT (kp (kp (kp (kp rfl rfl) (show _ = AVal.sl ((aliveN self f now (i + 1)).map encM) true by rw [aliveN_succ, if_neg (by rw [memAt, if_pos k2, k3]; decide), List.append_nil]; rfl)) rfl) rfl).symm, (by repeat first | exact hle | exact Mem.none_of_le hle hB1 | exact Mem.none_of_le hle (Mem.upd_none (Mem.upd_none hB2).2).2 | refine Mem.le_upd ?_ ?_), (by repeat first | exact Mem.upd_self _ _ _ | assumption | refine Mem.upd_ne (by assumption) ?_), (by repeat first | exact Mem.upd_self _ _ _ | assumption | refine Mem.upd_ne (by assumption) ?_), by omega, rfl⟩
    · have k2 := h2; try simp only [decide_eq_true_eq, decide_eq_false_iff_not, Bool.not_eq_true', Bool.not_eq_false', Bool.not_true, Bool.not_false, List.length_map, Decidable.not_not] at k2
      refine s_skip ?_
      refine s_seq ?_
      refine s_region ?_
      refine o_q (q_mv ((by first | exact v_raw rfl | exact v_sptr rfl))) rfl rfl rfl ?_
      refine o_q (q_ldmw ag23 sz23 rfl (by repeat first | exact Mem.upd_self _ _ _ | assumption | refine Mem.upd_ne (by assumption) ?_) rfl rfl) rfl rfl rfl ?_
      refine o_call ((snd15 s c self f now ⟨i, (f i).1⟩ _ (by repeat first | exact Mem.upd_self _ _ _ | assumption | refine Mem.upd_ne (by assumption) ?_) (by repeat first | exact Mem.upd_self _ _ _ | assumption | refine Mem.upd_ne (by assumption) ?_) hsc hw hf).det) goes15 (ac ((by first | exact v_raw rfl | exact v_sptr rfl)) (ac (v_agg rfl) ac_nil)) rfl ?_
      refine o_nil ?_
      refine s_cond rfl (fun h4 => ?_) (fun h4 => ?_)
      · have k4 := h4; try simp only [decide_eq_true_eq, decide_eq_false_iff_not, Bool.not_eq_true', Bool.not_eq_false', Bool.not_true, Bool.not_false, List.length_map, Decidable.not_not] at k4
        refine s_region ?_
        refine o_qs (q_mv_own rfl) rfl rfl rfl rfl ?_
        refine o_q (q_ldmw ag23 sz23 rfl (by repeat first | exact Mem.upd_self _ _ _ | assumption | refine Mem.upd_ne (by assumption) ?_) rfl rfl) rfl rfl rfl ?_
        refine o_q (q_bs slt35 (pc (v_agg rfl) pn) rfl (Els.cons rfl rfl Els.nil) (by decide)) rfl rfl rfl ?_
        refine o_qs (q_app slt35 rfl rfl rfl rfl elsM (by first | exact elsM | exact Els.cons rfl rfl Els.nil) (by simp; omega)) rfl rfl rfl rfl ?_
        refine o_qs (q_as_own rfl) rfl rfl rfl rfl ?_
        refine o_nil ?_
        refine s_blk_normal ?_
        refine s_region ?_
        refine o_q (q_add rfl rfl (wrap64 (by omega) (by omega))) rfl rfl rfl ?_
        refine o_q (q_mv (v_raw rfl)) rfl rfl rfl ?_
        refine o_nil ?_
        refine s_inv ?_
        refine ⟨7 - (i + 1), by omega, _, _, i + 1, St.mkT (kp (kp (kp (kp rfl rfl) (show _ = AVal.sl ((aliveN self f now (i + 1)).map encM) true by rw [aliveN_succ, if_pos (by rw [memAt, if_neg k2]; exact k4), List.map_append, memAt]; simp only [*, if_true, if_false]; rfl)) rfl) rfl).symm, (by repeat first | exact hle | exact Mem.none_of_le hle hB1 | exact Mem.none_of_le hle (Mem.upd_none (Mem.upd_none hB2).2).2 | refine Mem.le_upd ?_ ?_), (by repeat first | exact Mem.upd_self _ _ _ | assumption | refine Mem.upd_ne (by assumption) ?_), (by repeat first | exact Mem.upd_self _ _ _ | assumption | refine Mem.upd_ne (by assumption) ?_), by omega, rfl⟩
      · have k4 := h4; try simp only [decide_eq_true_eq, decide_eq_false_iff_not, Bool.not_eq_true', Bool.not_eq_false', Bool.not_true, Bool.not_false, List.length_map, Decidable.not_not] at k4
        refine s_skip ?_
        refine s_blk_normal ?_
        refine s_region ?_
        refine o_q (q_add rfl rfl (wrap64 (by omega) (by omega))) rfl rfl rfl ?_
        refine o_q (q_mv (v_raw rfl)) rfl rfl rfl ?_
        refine o_nil ?_
        refine s_inv ?_
        refine ⟨7 - (i + 1), by omega, _, _, i + 1, St.mkT (kp (kp (kp (kp rfl rfl) (show _ = AVal.sl ((aliveN self f now (i + 1)).map encM) true by rw [aliveN_succ, if_neg (by rw [memAt, if_neg k2, k4]; decide), List.append_nil]; rfl)) rfl) rfl).symm, (by repeat first | exact hle | exact Mem.none_of_le hle hB1 | exact Mem.none_of_le hle (Mem.upd_none (Mem.upd_none hB2).2).2 | refine Mem.le_upd ?_ ?_), (by repeat first | exact Mem.upd_self _ _ _ | assumption | refine Mem.upd_ne (by assumption) ?_), (by repeat first | exact Mem.upd_self _ _ _ | assumption | refine Mem.upd_ne (by assumption) ?_), by omega, rfl⟩
  · have k1 := h1; try simp only [decide_eq_true_eq, decide_eq_false_iff_not, Bool.not_eq_true', Bool.not_eq_false', Bool.not_true, Bool.not_false, List.length_map, Decidable.not_not] at k1
    refine s_exit ?_
    refine s_code_exit ?_
    refine s_inv_exit ?_
    refine s_blk_here ?_
    refine s_seq ?_
    refine s_region ?_
    refine o_q (q_mv (v_sl rfl)) rfl rfl rfl ?_
    refine o_q (q_as (v_sl rfl)) rfl rfl rfl ?_
    refine o_nil ?_
    refine s_ret ?_
    refine s_end ?_
    have e : i = 7 := by omega
    subst e
    exact ⟨rfl, hle⟩

def tk12 : Nat → Nat → Option Nat := fun _ _ => none
def pl12 : Nat → List PStep
  | 2 => [.q 0, .q 1, .q 2, .q 3, .q 4, .q 5, .q 6, .q 7, .q 8, .q 9, .q 10, .q 11, .q 12, .q 13, .q 14, .q 15, .q 16, .q 17, .q 18, .q 19, .q 20, .q 21, .q 22, .q 23, .q 24]
  | 4 => [.q 0, .q 1, .q 2, .q 3, .q 4, .q 5, .q 6, .q 7, .q 8, .s 9 []]
  | 5 => [.q 0, .q 1, .q 2, .q 3, .q 4, .q 5, .q 6, .q 7, .q 8, .q 9, .q 10, .s 11 []]
  | _ => []
theorem cb12 : Try.f12.body.map (codeB Try.prog Try.f12.ntmps tk12 pl12) = some true := by kernel_rfl
theorem goes12 : goesB Try.prog 12 = true := by kernel_rfl
-- (*carillon/carillonref13.Suspect).Heard params ['*carillonref13.Suspect', 'api.Member'] results [['t', 4]] own [] names ['0:s', '1:m', '2:s', '3:m', '5:ok'] calls [20] paths 4

theorem row_get {g : Nat → Int} {n : Int} (h0 : 0 ≤ n) (h1 : n < 7) : (row7 g)[0 + n.toNat * 1]? = some (int (g n.toNat)) := by
  obtain ⟨k, rfl⟩ := Int.eq_ofNat_of_zero_le h0
  have : k = 0 ∨ k = 1 ∨ k = 2 ∨ k = 3 ∨ k = 4 ∨ k = 5 ∨ k = 6 := by omega
  rcases this with h | h | h | h | h | h | h <;> subst h <;> rfl
theorem row_set1 {f : Nat → Int × Int} {n a b : Int} (h0 : 0 ≤ n) (h1 : n < 7) : splice (row7 fun i => (f i).1) (0 + n.toNat * 1) [int a] = row7 fun i => (fupd f n (a, b) i).1 := by
  obtain ⟨k, rfl⟩ := Int.eq_ofNat_of_zero_le h0
  have : k = 0 ∨ k = 1 ∨ k = 2 ∨ k = 3 ∨ k = 4 ∨ k = 5 ∨ k = 6 := by omega
  rcases this with h | h | h | h | h | h | h <;> subst h <;> rfl
theorem row_set2 {f : Nat → Int × Int} {n a b : Int} (h0 : 0 ≤ n) (h1 : n < 7) : splice (row7 fun i => (f i).2) (0 + n.toNat * 1) [int b] = row7 fun i => (fupd f n (a, b) i).2 := by
  obtain ⟨k, rfl⟩ := Int.eq_ofNat_of_zero_le h0
  have : k = 0 ∨ k = 1 ∨ k = 2 ∨ k = 3 ∨ k = 4 ∨ k = 5 ∨ k = 6 := by omega
  rcases this with h | h | h | h | h | h | h <;> subst h <;> rfl
def left (M : Mem) (lb wb : Nat) (f : Nat → Int × Int) : Mem := (M.upd lb (.cells (row7 fun i => (f i).1))).upd wb (.cells (row7 fun i => (f i).2))
theorem snd12 (x lb wb : Nat) (self : Mb) (f : Nat → Int × Int) (now : Int) (m : Mb) (M : Mem) (hx : M x = some (.cells (ref self lb wb now))) (hl : M lb = some (.cells (row7 fun i => (f i).1))) (hwb : M wb = some (.cells (row7 fun i => (f i).2))) (d1 : x ≠ lb) (d2 : x ≠ wb) (d3 : lb ≠ wb) (hw : 0 ≤ now ∧ now < 2 ^ 60) (hf : ∀ i, 0 ≤ (f i).2 ∧ (f i).2 ≤ now) (hr : right self = true) : SoundCall Try.prog 12 [ptr x, encM m] M fun r M' => r = .raw (.bool (hearsB self f m)) ∧ ((if hearsB self f m then left M lb wb (fupd f m.node (m.life, now)) else M)).le M' := by
  refine SoundCall.go tk12 pl12 mixed Try.func12 cb12 rfl (Nat.le_of_ble_eq_true rfl) ?_
  refine s_seq ?_
  refine s_region ?_
  refine o_box (by first | exact e_raw rfl | exact e_agg rfl | exact e_sl rfl) rfl rfl (fun B1 hB1 => ?_)
  have n1 : x ≠ B1 := ne_fresh hB1 hx
  have n2 : lb ≠ B1 := ne_fresh hB1 hl
  have n3 : wb ≠ B1 := ne_fresh hB1 hwb
  have d1' := d1.symm
  have d2' := d2.symm
  have d3' := d3.symm
  have n1' := n1.symm
  have n2' := n2.symm
  have n3' := n3.symm
  refine o_q (q_as (v_raw rfl)) rfl rfl rfl ?_
  refine o_nil ?_
  refine s_seq ?_
  refine s_region ?_
  refine o_q (q_ldmw ag23 sz23 rfl (by repeat first | exact Mem.upd_self _ _ _ | assumption | refine Mem.upd_ne (by assumption) ?_) rfl rfl) rfl rfl rfl ?_
  refine o_call ((snd20 m _).det) goes20 (ac (v_agg rfl) ac_nil) rfl ?_
  refine o_q (q_as (v_raw rfl)) rfl rfl rfl ?_
  refine o_nil ?_
  refine s_seq ?_
  refine s_seq ?_
  refine s_draw rfl ?_
  refine d_q rfl (q_mv (v_raw rfl)) rfl rfl rfl ?_
  refine d_q rfl (q_not rfl) rfl rfl rfl ?_
  refine d_q rfl (q_mv (v_raw rfl)) rfl rfl rfl ?_
  refine d_cases (want := false) (j := 2) rfl rfl (fun h1 => ?_) (fun h1 => ?_)
  · have k1 := h1; try simp only [decide_eq_true_eq, decide_eq_false_iff_not, Bool.not_eq_true', Bool.not_eq_false', Bool.not_true, Bool.not_false, List.length_map, Decidable.not_not] at k1
    have rr := right_spec.1 k1
    refine d_yes rfl (q_fr fo23_0 rfl) rfl rfl rfl h1 rfl rfl ?_
    refine d_yes rfl (q_ldm ag3 sz3 rfl (by repeat first | exact Mem.upd_self _ _ _ | assumption | refine Mem.upd_ne (by assumption) ?_) (by first | rfl | exact row_get (by omega) (by omega)) (v_raw rfl)) rfl rfl rfl h1 rfl rfl ?_
    refine d_yes rfl (q_mv ((by first | exact v_raw rfl | exact v_sptr rfl))) rfl rfl rfl h1 rfl rfl ?_
    refine d_yes rfl (q_nil rfl) rfl rfl rfl h1 rfl rfl ?_
    refine d_yes rfl (q_fr fo49_0 rfl) rfl rfl rfl h1 rfl rfl ?_
    refine d_yes rfl (q_fr fo23_0 rfl) rfl rfl rfl h1 rfl rfl ?_
    refine d_yes rfl (q_ldm ag3 sz3 rfl (by repeat first | exact Mem.upd_self _ _ _ | assumption | refine Mem.upd_ne (by assumption) ?_) (by first | rfl | exact row_get (by omega) (by omega)) (v_raw rfl)) rfl rfl rfl h1 rfl rfl ?_
    refine d_yes rfl (q_eql rfl rfl) rfl rfl rfl h1 rfl rfl ?_
    refine d_q rfl (q_pick_c rfl h1 (v_raw rfl)) rfl rfl rfl ?_
    refine d_q rfl (q_mv (v_raw rfl)) rfl rfl rfl ?_
    refine d_cases (want := false) (j := 12) rfl rfl (fun h2 => ?_) (fun h2 => ?_)
    · have k2 := h2; try simp only [decide_eq_true_eq, decide_eq_false_iff_not, Bool.not_eq_true', Bool.not_eq_false', Bool.not_true, Bool.not_false, List.length_map, Decidable.not_not] at k2
      refine d_yes rfl (q_fr fo23_1 rfl) rfl rfl rfl h2 rfl rfl ?_
      refine d_yes rfl (q_ldm ag3 sz3 rfl (by repeat first | exact Mem.upd_self _ _ _ | assumption | refine Mem.upd_ne (by assumption) ?_) (by first | rfl | exact row_get (by omega) (by omega)) (v_raw rfl)) rfl rfl rfl h2 rfl rfl ?_
      refine d_yes rfl (q_mv ((by first | exact v_raw rfl | exact v_sptr rfl))) rfl rfl rfl h2 rfl rfl ?_
      refine d_yes rfl (q_nil rfl) rfl rfl rfl h2 rfl rfl ?_
      refine d_yes rfl (q_fr fo49_1 rfl) rfl rfl rfl h2 rfl rfl ?_
      refine d_yes rfl (q_ldm ag38 sz38 rfl (by repeat first | exact Mem.upd_self _ _ _ | assumption | refine Mem.upd_ne (by assumption) ?_) (by first | rfl | exact row_get (by omega) (by omega)) ((by first | exact v_raw rfl | exact v_sl rfl))) rfl rfl rfl h2 rfl rfl ?_
      refine d_yes rfl (q_fr fo23_0 rfl) rfl rfl rfl h2 rfl rfl ?_
      refine d_yes rfl (q_ldm ag3 sz3 rfl (by repeat first | exact Mem.upd_self _ _ _ | assumption | refine Mem.upd_ne (by assumption) ?_) (by first | rfl | exact row_get (by omega) (by omega)) (v_raw rfl)) rfl rfl rfl h2 rfl rfl ?_
      refine d_yes rfl (q_idxr und38 sz3 rfl rfl (by omega) (by omega)) rfl rfl rfl h2 rfl rfl ?_
      refine d_yes rfl (q_ldm ag3 sz3 rfl (by repeat first | exact Mem.upd_self _ _ _ | assumption | refine Mem.upd_ne (by assumption) ?_) (by first | rfl | exact row_get (by omega) (by omega)) (v_raw rfl)) rfl rfl rfl h2 rfl rfl ?_
      refine d_yes rfl (q_lss rfl rfl) rfl rfl rfl h2 rfl rfl ?_
      refine d_q rfl (q_pick_c rfl h2 (v_raw rfl)) rfl rfl rfl ?_
      refine d_nil ?_
      refine s_cond rfl (fun h3 => ?_) (fun h3 => ?_)
      · have k3 := h3; try simp only [decide_eq_true_eq, decide_eq_false_iff_not, Bool.not_eq_true', Bool.not_eq_false', Bool.not_true, Bool.not_false, List.length_map, Decidable.not_not] at k3
        refine s_seq ?_
        refine s_region ?_
        refine o_q (q_as (v_raw rfl)) rfl rfl rfl ?_
        refine o_nil ?_
        refine s_ret ?_
        refine s_code_ret ?_
        refine s_end ?_
        refine ⟨congrArg (fun b => AVal.raw (.bool b)) ?_, ?_⟩
        · simp_all [hearsB]
        · rw [if_neg (by simp_all [hearsB])]
          exact Mem.le_upd (Mem.le_refl M) hB1
      · have k3 := h3; try simp only [decide_eq_true_eq, decide_eq_false_iff_not, Bool.not_eq_true', Bool.not_eq_false', Bool.not_true, Bool.not_false, List.length_map, Decidable.not_not] at k3
        refine s_skip ?_
        refine s_seq ?_
        refine s_draw rfl ?_
        refine d_q rfl (q_mv ((by first | exact v_raw rfl | exact v_sptr rfl))) rfl rfl rfl ?_
        refine d_q rfl (q_nil rfl) rfl rfl rfl ?_
        refine d_q rfl (q_fr fo49_1 rfl) rfl rfl rfl ?_
        refine d_q rfl (q_ldm ag38 sz38 rfl (by repeat first | exact Mem.upd_self _ _ _ | assumption | refine Mem.upd_ne (by assumption) ?_) (by first | rfl | exact row_get (by omega) (by omega)) ((by first | exact v_raw rfl | exact v_sl rfl))) rfl rfl rfl ?_
        refine d_q rfl (q_fr fo23_0 rfl) rfl rfl rfl ?_
        refine d_q rfl (q_ldm ag3 sz3 rfl (by repeat first | exact Mem.upd_self _ _ _ | assumption | refine Mem.upd_ne (by assumption) ?_) (by first | rfl | exact row_get (by omega) (by omega)) (v_raw rfl)) rfl rfl rfl ?_
        refine d_q rfl (q_fr fo23_1 rfl) rfl rfl rfl ?_
        refine d_q rfl (q_ldm ag3 sz3 rfl (by repeat first | exact Mem.upd_self _ _ _ | assumption | refine Mem.upd_ne (by assumption) ?_) (by first | rfl | exact row_get (by omega) (by omega)) (v_raw rfl)) rfl rfl rfl ?_
        refine d_q rfl (q_idxr und38 sz3 rfl rfl (by omega) (by omega)) rfl rfl rfl ?_
        refine d_s rfl ?_
        refine o_store rfl (by repeat first | exact Mem.upd_self _ _ _ | assumption | refine Mem.upd_ne (by assumption) ?_) (by first | exact e_raw rfl | exact e_agg rfl | exact e_sl rfl | rfl) rfl sz3 rfl (by show _ ≤ 7; omega) rfl (row_set1 (b := now) (n := m.node) (by omega) (by omega)) ?_
        refine o_nil ⟨(by simp [Mem.upd, *]), ?_⟩
        refine d_nil ?_
        refine s_seq ?_
        refine s_draw rfl ?_
        refine d_q rfl (q_mv ((by first | exact v_raw rfl | exact v_sptr rfl))) rfl rfl rfl ?_
        refine d_q rfl (q_nil rfl) rfl rfl rfl ?_
        refine d_q rfl (q_fr fo49_2 rfl) rfl rfl rfl ?_
        refine d_q rfl (q_ldm ag38 sz38 rfl (by repeat first | exact Mem.upd_self _ _ _ | assumption | refine Mem.upd_ne (by assumption) ?_) (by first | rfl | exact row_get (by omega) (by omega)) ((by first | exact v_raw rfl | exact v_sl rfl))) rfl rfl rfl ?_
        refine d_q rfl (q_fr fo23_0 rfl) rfl rfl rfl ?_
        refine d_q rfl (q_ldm ag3 sz3 rfl (by repeat first | exact Mem.upd_self _ _ _ | assumption | refine Mem.upd_ne (by assumption) ?_) (by first | rfl | exact row_get (by omega) (by omega)) (v_raw rfl)) rfl rfl rfl ?_
        refine d_q rfl (q_mv ((by first | exact v_raw rfl | exact v_sptr rfl))) rfl rfl rfl ?_
        refine d_q rfl (q_nil rfl) rfl rfl rfl ?_
        refine d_q rfl (q_fr fo49_3 rfl) rfl rfl rfl ?_
        refine d_q rfl (q_ldm ag3 sz3 rfl (by repeat first | exact Mem.upd_self _ _ _ | assumption | refine Mem.upd_ne (by assumption) ?_) (by first | rfl | exact row_get (by omega) (by omega)) (v_raw rfl)) rfl rfl rfl ?_
        refine d_q rfl (q_idxr und38 sz3 rfl rfl (by omega) (by omega)) rfl rfl rfl ?_
        refine d_s rfl ?_
        refine o_store rfl (by repeat first | exact Mem.upd_self _ _ _ | assumption | refine Mem.upd_ne (by assumption) ?_) (by first | exact e_raw rfl | exact e_agg rfl | exact e_sl rfl | rfl) rfl sz3 rfl (by show _ ≤ 7; omega) rfl (row_set2 (a := m.life) (n := m.node) (by omega) (by omega)) ?_
        refine o_nil ⟨(by simp [Mem.upd, *]), ?_⟩
        refine d_nil ?_
        refine s_seq ?_
        refine s_region ?_
        refine o_q (q_as (v_raw rfl)) rfl rfl rfl ?_
        refine o_nil ?_
        refine s_ret ?_
        refine s_end ?_
        have e : hearsB self f m = true := by simp_all [hearsB]
        rw [e]
        exact ⟨rfl, by rw [if_pos rfl]; exact Mem.le_upds (Mem.le_upds (Mem.le_upd (Mem.le_refl M) hB1))⟩
    · have k2 := h2; try simp only [decide_eq_true_eq, decide_eq_false_iff_not, Bool.not_eq_true', Bool.not_eq_false', Bool.not_true, Bool.not_false, List.length_map, Decidable.not_not] at k2
      refine d_no rfl rfl rfl rfl h2 rfl ?_
      refine d_no rfl rfl rfl rfl h2 rfl ?_
      refine d_no rfl rfl rfl rfl h2 rfl ?_
      refine d_no rfl rfl rfl rfl h2 rfl ?_
      refine d_no rfl rfl rfl rfl h2 rfl ?_
      refine d_no rfl rfl rfl rfl h2 rfl ?_
      refine d_no rfl rfl rfl rfl h2 rfl ?_
      refine d_no rfl rfl rfl rfl h2 rfl ?_
      refine d_no rfl rfl rfl rfl h2 rfl ?_
      refine d_no rfl rfl rfl rfl h2 rfl ?_
      refine d_no rfl rfl rfl rfl h2 rfl ?_
      refine d_q rfl (q_pick_c rfl h2 (v_raw rfl)) rfl rfl rfl ?_
      refine d_nil ?_
      refine s_then rfl rfl ?_
      refine s_seq ?_
      refine s_region ?_
      refine o_q (q_as (v_raw rfl)) rfl rfl rfl ?_
      refine o_nil ?_
      refine s_ret ?_
      refine s_code_ret ?_
      refine s_end ?_
      refine ⟨congrArg (fun b => AVal.raw (.bool b)) ?_, ?_⟩
      · simp_all [hearsB]
      · rw [if_neg (by simp_all [hearsB])]
        exact Mem.le_upd (Mem.le_refl M) hB1
  · have k1 := h1; try simp only [decide_eq_true_eq, decide_eq_false_iff_not, Bool.not_eq_true', Bool.not_eq_false', Bool.not_true, Bool.not_false, List.length_map, Decidable.not_not] at k1
    refine d_no rfl rfl rfl rfl h1 rfl ?_
    refine d_no rfl rfl rfl rfl h1 rfl ?_
    refine d_no rfl rfl rfl rfl h1 rfl ?_
    refine d_no rfl rfl rfl rfl h1 rfl ?_
    refine d_no rfl rfl rfl rfl h1 rfl ?_
    refine d_no rfl rfl rfl rfl h1 rfl ?_
    refine d_no rfl rfl rfl rfl h1 rfl ?_
    refine d_no rfl rfl rfl rfl h1 rfl ?_
    refine d_q rfl (q_pick_c rfl h1 (v_raw rfl)) rfl rfl rfl ?_
    refine d_q rfl (q_mv (v_raw rfl)) rfl rfl rfl ?_
    refine d_no rfl rfl rfl rfl rfl rfl ?_
    refine d_no rfl rfl rfl rfl rfl rfl ?_
    refine d_no rfl rfl rfl rfl rfl rfl ?_
    refine d_no rfl rfl rfl rfl rfl rfl ?_
    refine d_no rfl rfl rfl rfl rfl rfl ?_
    refine d_no rfl rfl rfl rfl rfl rfl ?_
    refine d_no rfl rfl rfl rfl rfl rfl ?_
    refine d_no rfl rfl rfl rfl rfl rfl ?_
    refine d_no rfl rfl rfl rfl rfl rfl ?_
    refine d_no rfl rfl rfl rfl rfl rfl ?_
    refine d_no rfl rfl rfl rfl rfl rfl ?_
    refine d_q rfl (q_pick_c rfl rfl (v_raw rfl)) rfl rfl rfl ?_
    refine d_nil ?_
    refine s_then rfl rfl ?_
    refine s_seq ?_
    refine s_region ?_
    refine o_q (q_as (v_raw rfl)) rfl rfl rfl ?_
    refine o_nil ?_
    refine s_ret ?_
    refine s_code_ret ?_
    refine s_end ?_
    refine ⟨congrArg (fun b => AVal.raw (.bool b)) ?_, ?_⟩
    · simp_all [hearsB]
    · rw [if_neg (by simp_all [hearsB])]
      exact Mem.le_upd (Mem.le_refl M) hB1

def tk16 : Nat → Nat → Option Nat := fun _ _ => none
def pl16 : Nat → List PStep
  | 4 => [.q 0, .q 1, .q 2, .q 3, .q 4, .q 5, .q 6, .q 7]
  | 5 => [.q 0, .q 1, .q 2, .q 3, .q 4, .q 5, .q 6]
  | 6 => [.q 0, .q 1, .q 2, .q 3, .q 4, .q 5, .q 6, .q 7, .q 8, .q 9, .q 10, .q 11, .q 12, .q 13, .q 14, .q 15, .q 16, .q 17, .q 18, .q 19, .q 20, .q 21, .q 22, .q 23, .q 24, .q 25, .q 26, .q 27]
  | _ => []
theorem cb16 : Try.f16.body.map (codeB Try.prog Try.f16.ntmps tk16 pl16) = some true := by kernel_rfl
theorem goes16 : goesB Try.prog 16 = true := by kernel_rfl
-- (*carillon/carillonref13.Suspect).Is params ['*carillonref13.Suspect', 'api.Member'] results [['t', 4]] own [] names ['0:s', '1:m', '2:s', '3:m', '5:ok'] calls [20] paths 4
theorem snd16 (x lb wb : Nat) (self : Mb) (f : Nat → Int × Int) (now : Int) (m : Mb) (M : Mem) (hx : M x = some (.cells (ref self lb wb now))) (hl : M lb = some (.cells (row7 fun i => (f i).1))) (hwb : M wb = some (.cells (row7 fun i => (f i).2))) (d1 : x ≠ lb) (d2 : x ≠ wb) (d3 : lb ≠ wb) (hw : 0 ≤ now ∧ now < 2 ^ 60) (hf : ∀ i, 0 ≤ (f i).2 ∧ (f i).2 ≤ now) (hr : right self = true) : SoundCall Try.prog 16 [ptr x, encM m] M fun r M' => r = .raw (.bool (isB self f now m)) ∧ M.le M' := by
  have ff := hf m.node.toNat
  refine SoundCall.go tk16 pl16 mixed Try.func16 cb16 rfl (Nat.le_of_ble_eq_true rfl) ?_
  refine s_seq ?_
  refine s_region ?_
  refine o_box (by first | exact e_raw rfl | exact e_agg rfl | exact e_sl rfl) rfl rfl (fun B1 hB1 => ?_)
  have n1 : x ≠ B1 := ne_fresh hB1 hx
  have n2 : lb ≠ B1 := ne_fresh hB1 hl
  have n3 : wb ≠ B1 := ne_fresh hB1 hwb
  have d1' := d1.symm
  have d2' := d2.symm
  have d3' := d3.symm
  have n1' := n1.symm
  have n2' := n2.symm
  have n3' := n3.symm
  refine o_q (q_as (v_raw rfl)) rfl rfl rfl ?_
  refine o_nil ?_
  refine s_seq ?_
  refine s_region ?_
  refine o_q (q_ldmw ag23 sz23 rfl (by repeat first | exact Mem.upd_self _ _ _ | assumption | refine Mem.upd_ne (by assumption) ?_) rfl rfl) rfl rfl rfl ?_
  refine o_call ((snd20 m _).det) goes20 (ac (v_agg rfl) ac_nil) rfl ?_
  refine o_q (q_as (v_raw rfl)) rfl rfl rfl ?_
  refine o_nil ?_
  refine s_seq ?_
  refine s_seq ?_
  refine s_region ?_
  refine o_q (q_mv (v_raw rfl)) rfl rfl rfl ?_
  refine o_q (q_not rfl) rfl rfl rfl ?_
  refine o_nil ?_
  refine s_cond rfl (fun h1 => ?_) (fun h1 => ?_)
  · have k1 := h1; try simp only [decide_eq_true_eq, decide_eq_false_iff_not, Bool.not_eq_true', Bool.not_eq_false', Bool.not_true, Bool.not_false, List.length_map, Decidable.not_not] at k1
    refine s_seq ?_
    refine s_region ?_
    refine o_q (q_as (v_raw rfl)) rfl rfl rfl ?_
    refine o_nil ?_
    refine s_ret ?_
    refine s_code_ret ?_
    refine s_end ?_
    refine ⟨congrArg (fun b => AVal.raw (.bool b)) ?_, Mem.le_upd (Mem.le_refl M) hB1⟩
    have e : m = self → m.node = self.node := fun h => by rw [h]
    have e' : m = self → right m = true := fun h => by rw [h]; exact hr
    simp_all [isB] <;> grind
  · have k1 := h1; try simp only [decide_eq_true_eq, decide_eq_false_iff_not, Bool.not_eq_true', Bool.not_eq_false', Bool.not_true, Bool.not_false, List.length_map, Decidable.not_not] at k1
    have rr := right_spec.1 k1
    refine s_skip ?_
    refine s_seq ?_
    refine s_seq ?_
    refine s_draw rfl ?_
    refine d_q rfl (q_fr fo23_0 rfl) rfl rfl rfl ?_
    refine d_q rfl (q_ldm ag3 sz3 rfl (by repeat first | exact Mem.upd_self _ _ _ | assumption | refine Mem.upd_ne (by assumption) ?_) (by first | rfl | exact row_get (by omega) (by omega)) (v_raw rfl)) rfl rfl rfl ?_
    refine d_q rfl (q_mv ((by first | exact v_raw rfl | exact v_sptr rfl))) rfl rfl rfl ?_
    refine d_q rfl (q_nil rfl) rfl rfl rfl ?_
    refine d_q rfl (q_fr fo49_0 rfl) rfl rfl rfl ?_
    refine d_q rfl (q_fr fo23_0 rfl) rfl rfl rfl ?_
    refine d_q rfl (q_ldm ag3 sz3 rfl (by repeat first | exact Mem.upd_self _ _ _ | assumption | refine Mem.upd_ne (by assumption) ?_) (by first | rfl | exact row_get (by omega) (by omega)) (v_raw rfl)) rfl rfl rfl ?_
    refine d_q rfl (q_eql rfl rfl) rfl rfl rfl ?_
    refine d_nil ?_
    refine s_cond rfl (fun h2 => ?_) (fun h2 => ?_)
    · have k2 := h2; try simp only [decide_eq_true_eq, decide_eq_false_iff_not, Bool.not_eq_true', Bool.not_eq_false', Bool.not_true, Bool.not_false, List.length_map, Decidable.not_not] at k2
      refine s_seq ?_
      refine s_draw rfl ?_
      refine d_q rfl (q_ldmw ag23 sz23 rfl (by repeat first | exact Mem.upd_self _ _ _ | assumption | refine Mem.upd_ne (by assumption) ?_) rfl rfl) rfl rfl rfl ?_
      refine d_q rfl (q_mv ((by first | exact v_raw rfl | exact v_sptr rfl))) rfl rfl rfl ?_
      refine d_q rfl (q_nil rfl) rfl rfl rfl ?_
      refine d_q rfl (q_fr fo49_0 rfl) rfl rfl rfl ?_
      refine d_q rfl (q_ldm ag23 sz23 rfl (by repeat first | exact Mem.upd_self _ _ _ | assumption | refine Mem.upd_ne (by assumption) ?_) (by first | rfl | exact row_get (by omega) (by omega)) (v_agg rfl)) rfl rfl rfl ?_
      refine d_q rfl (q_bin' rfl rfl (binEqM _ _ m self)) rfl rfl rfl ?_
      refine d_q rfl (q_as (v_raw rfl)) rfl rfl rfl ?_
      refine d_nil ?_
      refine s_ret ?_
      refine s_code_ret ?_
      refine s_end ?_
      refine ⟨congrArg (fun b => AVal.raw (.bool b)) ?_, Mem.le_upd (Mem.le_refl M) hB1⟩
      have e : m = self → m.node = self.node := fun h => by rw [h]
      have e' : m = self → right m = true := fun h => by rw [h]; exact hr
      simp_all [isB] <;> grind
    · have k2 := h2; try simp only [decide_eq_true_eq, decide_eq_false_iff_not, Bool.not_eq_true', Bool.not_eq_false', Bool.not_true, Bool.not_false, List.length_map, Decidable.not_not] at k2
      refine s_skip ?_
      refine s_seq ?_
      refine s_draw rfl ?_
      refine d_q rfl (q_mv ((by first | exact v_raw rfl | exact v_sptr rfl))) rfl rfl rfl ?_
      refine d_q rfl (q_nil rfl) rfl rfl rfl ?_
      refine d_q rfl (q_fr fo49_1 rfl) rfl rfl rfl ?_
      refine d_q rfl (q_ldm ag38 sz38 rfl (by repeat first | exact Mem.upd_self _ _ _ | assumption | refine Mem.upd_ne (by assumption) ?_) (by first | rfl | exact row_get (by omega) (by omega)) ((by first | exact v_raw rfl | exact v_sl rfl))) rfl rfl rfl ?_
      refine d_q rfl (q_fr fo23_0 rfl) rfl rfl rfl ?_
      refine d_q rfl (q_ldm ag3 sz3 rfl (by repeat first | exact Mem.upd_self _ _ _ | assumption | refine Mem.upd_ne (by assumption) ?_) (by first | rfl | exact row_get (by omega) (by omega)) (v_raw rfl)) rfl rfl rfl ?_
      refine d_q rfl (q_idxr und38 sz3 rfl rfl (by omega) (by omega)) rfl rfl rfl ?_
      refine d_q rfl (q_ldm ag3 sz3 rfl (by repeat first | exact Mem.upd_self _ _ _ | assumption | refine Mem.upd_ne (by assumption) ?_) (by first | rfl | exact row_get (by omega) (by omega)) (v_raw rfl)) rfl rfl rfl ?_
      refine d_q rfl (q_fr fo23_1 rfl) rfl rfl rfl ?_
      refine d_q rfl (q_ldm ag3 sz3 rfl (by repeat first | exact Mem.upd_self _ _ _ | assumption | refine Mem.upd_ne (by assumption) ?_) (by first | rfl | exact row_get (by omega) (by omega)) (v_raw rfl)) rfl rfl rfl ?_
      refine d_q rfl (q_eql rfl rfl) rfl rfl rfl ?_
      refine d_q rfl (q_mv (v_raw rfl)) rfl rfl rfl ?_
      refine d_cases (want := true) (j := 11) rfl rfl (fun h3 => ?_) (fun h3 => ?_)
      · have k3 := h3; try simp only [decide_eq_true_eq, decide_eq_false_iff_not, Bool.not_eq_true', Bool.not_eq_false', Bool.not_true, Bool.not_false, List.length_map, Decidable.not_not] at k3
        refine d_yes rfl (q_mv ((by first | exact v_raw rfl | exact v_sptr rfl))) rfl rfl rfl h3 rfl rfl ?_
        refine d_yes rfl (q_nil rfl) rfl rfl rfl h3 rfl rfl ?_
        refine d_yes rfl (q_fr fo49_3 rfl) rfl rfl rfl h3 rfl rfl ?_
        refine d_yes rfl (q_ldm ag3 sz3 rfl (by repeat first | exact Mem.upd_self _ _ _ | assumption | refine Mem.upd_ne (by assumption) ?_) (by first | rfl | exact row_get (by omega) (by omega)) (v_raw rfl)) rfl rfl rfl h3 rfl rfl ?_
        refine d_yes rfl (q_mv ((by first | exact v_raw rfl | exact v_sptr rfl))) rfl rfl rfl h3 rfl rfl ?_
        refine d_yes rfl (q_nil rfl) rfl rfl rfl h3 rfl rfl ?_
        refine d_yes rfl (q_fr fo49_2 rfl) rfl rfl rfl h3 rfl rfl ?_
        refine d_yes rfl (q_ldm ag38 sz38 rfl (by repeat first | exact Mem.upd_self _ _ _ | assumption | refine Mem.upd_ne (by assumption) ?_) (by first | rfl | exact row_get (by omega) (by omega)) ((by first | exact v_raw rfl | exact v_sl rfl))) rfl rfl rfl h3 rfl rfl ?_
        refine d_yes rfl (q_fr fo23_0 rfl) rfl rfl rfl h3 rfl rfl ?_
        refine d_yes rfl (q_ldm ag3 sz3 rfl (by repeat first | exact Mem.upd_self _ _ _ | assumption | refine Mem.upd_ne (by assumption) ?_) (by first | rfl | exact row_get (by omega) (by omega)) (v_raw rfl)) rfl rfl rfl h3 rfl rfl ?_
        refine d_yes rfl (q_idxr und38 sz3 rfl rfl (by omega) (by omega)) rfl rfl rfl h3 rfl rfl ?_
        refine d_yes rfl (q_ldm ag3 sz3 rfl (by repeat first | exact Mem.upd_self _ _ _ | assumption | refine Mem.upd_ne (by assumption) ?_) (by first | rfl | exact row_get (by omega) (by omega)) (v_raw rfl)) rfl rfl rfl h3 rfl rfl ?_
        refine d_yes rfl (q_sub rfl rfl (wrap64 (by omega) (by omega))) rfl rfl rfl h3 rfl rfl ?_
        refine d_yes rfl (q_lss rfl rfl) rfl rfl rfl h3 rfl rfl ?_
        refine d_q rfl (q_pick_c rfl h3 (v_raw rfl)) rfl rfl rfl ?_
        refine d_q rfl (q_as (v_raw rfl)) rfl rfl rfl ?_
        refine d_nil ?_
        refine s_ret ?_
        refine s_end ?_
        refine ⟨congrArg (fun b => AVal.raw (.bool b)) ?_, Mem.le_upd (Mem.le_refl M) hB1⟩
        have e : m = self → m.node = self.node := fun h => by rw [h]
        have e' : m = self → right m = true := fun h => by rw [h]; exact hr
        simp_all [isB] <;> grind
      · have k3 := h3; try simp only [decide_eq_true_eq, decide_eq_false_iff_not, Bool.not_eq_true', Bool.not_eq_false', Bool.not_true, Bool.not_false, List.length_map, Decidable.not_not] at k3
        refine d_no rfl rfl rfl rfl h3 rfl ?_
        refine d_no rfl rfl rfl rfl h3 rfl ?_
        refine d_no rfl rfl rfl rfl h3 rfl ?_
        refine d_no rfl rfl rfl rfl h3 rfl ?_
        refine d_no rfl rfl rfl rfl h3 rfl ?_
        refine d_no rfl rfl rfl rfl h3 rfl ?_
        refine d_no rfl rfl rfl rfl h3 rfl ?_
        refine d_no rfl rfl rfl rfl h3 rfl ?_
        refine d_no rfl rfl rfl rfl h3 rfl ?_
        refine d_no rfl rfl rfl rfl h3 rfl ?_
        refine d_no rfl rfl rfl rfl h3 rfl ?_
        refine d_no rfl rfl rfl rfl h3 rfl ?_
        refine d_no rfl rfl rfl rfl h3 rfl ?_
        refine d_no rfl rfl rfl rfl h3 rfl ?_
        refine d_q rfl (q_pick_c rfl h3 (v_raw rfl)) rfl rfl rfl ?_
        refine d_q rfl (q_as (v_raw rfl)) rfl rfl rfl ?_
        refine d_nil ?_
        refine s_ret ?_
        refine s_end ?_
        refine ⟨congrArg (fun b => AVal.raw (.bool b)) ?_, Mem.le_upd (Mem.le_refl M) hB1⟩
        have e : m = self → m.node = self.node := fun h => by rw [h]
        have e' : m = self → right m = true := fun h => by rw [h]; exact hr
        simp_all [isB] <;> grind

def tk14 : Nat → Nat → Option Nat
  | 1, 0 => some 0
  | 10, 0 => some 0
  | 10, 4 => some 0
  | _, _ => none
def pl14 : Nat → List PStep := fun _ => []
theorem cb14 : Try.f14.body.map (codeB Try.prog Try.f14.ntmps tk14 pl14) = some true := by kernel_rfl
theorem goes14 : goesB Try.prog 14 = true := by kernel_rfl
-- (*carillon/carillonref13.Suspect).Alive params ['*carillonref13.Suspect'] results [['t', 2]] own [35, 3, 38] names ['0:s', '1:s', '3:out', '4:n', '5:m', '6:is'] calls [16] paths 5
theorem snd14 (x lb wb : Nat) (self : Mb) (f : Nat → Int × Int) (now : Int) (M : Mem) (hx : M x = some (.cells (ref self lb wb now))) (hl : M lb = some (.cells (row7 fun i => (f i).1))) (hwb : M wb = some (.cells (row7 fun i => (f i).2))) (d1 : x ≠ lb) (d2 : x ≠ wb) (d3 : lb ≠ wb) (hw : 0 ≤ now ∧ now < 2 ^ 60) (hf : ∀ i, 0 ≤ (f i).2 ∧ (f i).2 ≤ now) (hr : right self = true) : SoundCall Try.prog 14 [ptr x] M fun r M' => r = .sl ((aliveN self f now 7).map encM) false ∧ M.le M' := by
  refine SoundCall.go tk14 pl14 mixed Try.func14 cb14 rfl (Nat.le_of_ble_eq_true rfl) ?_
  refine s_seq ?_
  refine s_region ?_
  refine o_q (q_as (v_sl rfl)) rfl rfl rfl ?_
  refine o_nil ?_
  refine s_seq ?_
  refine s_region ?_
  refine o_q (q_as_const rfl) rfl rfl rfl ?_
  refine o_nil ?_
  refine s_seq ?_
  refine s_seq ?_
  refine s_region ?_
  refine o_q (q_as (v_raw rfl)) rfl rfl rfl ?_
  refine o_nil ?_
  refine s_block ?_
  refine s_loop (fun m S => ∃ T, ∃ M' : Mem, ∃ i : Nat, S = ⟨setT (setT (setT T 0 (ptr x)) 3 (.sl ((aliveN self f now i).map encM) true)) 4 (int i), M'⟩ ∧ M.le M' ∧ M' x = some (.cells (ref self lb wb now)) ∧ M' lb = some (.cells (row7 fun i => (f i).1)) ∧ M' wb = some (.cells (row7 fun i => (f i).2)) ∧ i ≤ 7 ∧ m = 7 - i) 7 ?_ ?_
  · exact ⟨_, _, 0, St.mkT (kp (kp (kp rfl rfl) rfl) rfl).symm, Mem.le_refl M, hx, hl, hwb, by omega, rfl⟩
  rintro m S ⟨T, M', i, rfl, hle, hx', hl', hwb', hi, rfl⟩
  have hlen := aliveN_len self f now i
  refine s_seq ?_
  refine s_seq ?_
  refine s_region ?_
  refine o_q (q_mv (v_raw rfl)) rfl rfl rfl ?_
  refine o_q (q_lss rfl rfl) rfl rfl rfl ?_
  refine o_nil ?_
  refine s_cond rfl (fun h1 => ?_) (fun h1 => ?_)
  · have k1 := h1; try simp only [decide_eq_true_eq, decide_eq_false_iff_not, Bool.not_eq_true', Bool.not_eq_false', Bool.not_true, Bool.not_false, List.length_map, Decidable.not_not] at k1
    refine s_skip ?_
    refine s_seq ?_
    refine s_block ?_
    refine s_seq ?_
    refine s_region ?_
    refine o_q (q_mv (v_raw rfl)) rfl rfl rfl ?_
    refine o_q (q_mv ((by first | exact v_raw rfl | exact v_sptr rfl))) rfl rfl rfl ?_
    refine o_q (q_nil rfl) rfl rfl rfl ?_
    refine o_q (q_fr fo49_1 rfl) rfl rfl rfl ?_
    refine o_q (q_ldm ag38 sz38 rfl (by repeat first | exact Mem.upd_self _ _ _ | assumption | refine Mem.upd_ne (by assumption) ?_) (by first | rfl | exact row_get (by omega) (by omega)) ((by first | exact v_raw rfl | exact v_sl rfl))) rfl rfl rfl ?_
    refine o_q (q_mv (v_raw rfl)) rfl rfl rfl ?_
    refine o_q (q_idxr und38 sz3 rfl rfl (by omega) (by omega)) rfl rfl rfl ?_
    refine o_q (q_ldm ag3 sz3 rfl (by repeat first | exact Mem.upd_self _ _ _ | assumption | refine Mem.upd_ne (by assumption) ?_) (by first | rfl | exact row_get (by omega) (by omega)) (v_raw rfl)) rfl rfl rfl ?_
    refine o_q (q_b (cs := [_, _]) bz23 bp23 (bf fo23_0 (e_raw rfl) rfl rfl (Nat.le_of_ble_eq_true rfl) rfl (bf fo23_1 (e_raw rfl) rfl rfl (Nat.le_of_ble_eq_true rfl) rfl bf_nil))) rfl rfl rfl ?_
    refine o_alloc zc23 (fun B1 hB1 => ?_)
    have n1 : x ≠ B1 := ne_fresh hB1 hx'
    have n2 : lb ≠ B1 := ne_fresh hB1 hl'
    have n3 : wb ≠ B1 := ne_fresh hB1 hwb'
    refine o_storew rfl (by repeat first | exact Mem.upd_self _ _ _ | assumption | refine Mem.upd_ne (by assumption) ?_) (by first | exact e_agg rfl | rfl) rfl sz23 rfl rfl rfl rfl ?_
    refine o_nil ?_
    refine s_seq ?_
    refine s_seq ?_
    refine s_region ?_
    refine o_q (q_mv (v_raw rfl)) rfl rfl rfl ?_
    refine o_q (q_mv ((by first | exact v_raw rfl | exact v_sptr rfl))) rfl rfl rfl ?_
    refine o_q (q_nil rfl) rfl rfl rfl ?_
    refine o_q (q_fr fo49_0 rfl) rfl rfl rfl ?_
    refine o_q (q_fr fo23_0 rfl) rfl rfl rfl ?_
    refine o_q (q_ldm ag3 sz3 rfl (by repeat first | exact Mem.upd_self _ _ _ | assumption | refine Mem.upd_ne (by assumption) ?_) (by first | rfl | exact row_get (by omega) (by omega)) (v_raw rfl)) rfl rfl rfl ?_
    refine o_q (q_eql rfl rfl) rfl rfl rfl ?_
    refine o_nil ?_
    refine s_cond rfl (fun h2 => ?_) (fun h2 => ?_)
    · have k2 := h2; try simp only [decide_eq_true_eq, decide_eq_false_iff_not, Bool.not_eq_true', Bool.not_eq_false', Bool.not_true, Bool.not_false, List.length_map, Decidable.not_not] at k2
      refine s_region ?_
      refine o_q (q_mv ((by first | exact v_raw rfl | exact v_sptr rfl))) rfl rfl rfl ?_
      refine o_q (q_nil rfl) rfl rfl rfl ?_
      refine o_q (q_fr fo49_0 rfl) rfl rfl rfl ?_
      refine o_q (q_ldm ag23 sz23 rfl (by repeat first | exact Mem.upd_self _ _ _ | assumption | refine Mem.upd_ne (by assumption) ?_) (by first | rfl | exact row_get (by omega) (by omega)) (v_agg rfl)) rfl rfl rfl ?_
      refine o_storew rfl (by repeat first | exact Mem.upd_self _ _ _ | assumption | refine Mem.upd_ne (by assumption) ?_) (by first | exact e_agg rfl | rfl) rfl sz23 rfl rfl rfl rfl ?_
      refine o_nil ?_
      refine s_seq ?_
      refine s_region ?_
      refine o_q (q_mv ((by first | exact v_raw rfl | exact v_sptr rfl))) rfl rfl rfl ?_
      refine o_q (q_ldmw ag23 sz23 rfl (by repeat first | exact Mem.upd_self _ _ _ | assumption | refine Mem.upd_ne (by assumption) ?_) rfl rfl) rfl rfl rfl ?_
      refine o_call ((snd16 x lb wb self f now self _ (by repeat first | exact Mem.upd_self _ _ _ | assumption | refine Mem.upd_ne (by assumption) ?_) (by repeat first | exact Mem.upd_self _ _ _ | assumption | refine Mem.upd_ne (by assumption) ?_) (by repeat first | exact Mem.upd_self _ _ _ | assumption | refine Mem.upd_ne (by assumption) ?_) d1 d2 d3 hw hf hr).det) goes16 (ac ((by first | exact v_raw rfl | exact v_sptr rfl)) (ac (v_agg rfl) ac_nil)) rfl ?_
      refine o_q (q_as (v_raw rfl)) rfl rfl rfl ?_
      refine o_nil ?_
      refine s_seq ?_
      refine s_region ?_
      refine o_q (q_mv (v_raw rfl)) rfl rfl rfl ?_
      refine o_nil ?_
      refine s_cond rfl (fun h3 => ?_) (fun h3 => ?_)
      · have k3 := h3; try simp only [decide_eq_true_eq, decide_eq_false_iff_not, Bool.not_eq_true', Bool.not_eq_false', Bool.not_true, Bool.not_false, List.length_map, Decidable.not_not] at k3
        refine s_region ?_
        refine o_qs (q_mv_own rfl) rfl rfl rfl rfl ?_
        refine o_q (q_ldmw ag23 sz23 rfl (by repeat first | exact Mem.upd_self _ _ _ | assumption | refine Mem.upd_ne (by assumption) ?_) rfl rfl) rfl rfl rfl ?_
        refine o_q (q_bs slt35 (pc (v_agg rfl) pn) rfl (Els.cons rfl rfl Els.nil) (by decide)) rfl rfl rfl ?_
        refine o_qs (q_app slt35 rfl rfl rfl rfl elsM (by first | exact elsM | exact Els.cons rfl rfl Els.nil) (by simp; omega)) rfl rfl rfl rfl ?_
        refine o_qs (q_as_own rfl) rfl rfl rfl rfl ?_
        refine o_nil ?_
        refine s_blk_normal ?_
        refine s_region ?_
        refine o_q (q_mv (v_raw rfl)) rfl rfl rfl ?_
        refine o_q (q_add rfl rfl (wrap64 (by omega) (by omega))) rfl rfl rfl ?_
        refine o_q (q_as (v_raw rfl)) rfl rfl rfl ?_
        refine o_nil ?_
        refine s_inv ?_
        refine ⟨7 - (i + 1), by omega, _, _, i + 1, St.mkT (kp (kp (kp rfl rfl) (show _ = AVal.sl ((aliveN self f now (i + 1)).map encM) true by rw [aliveN_succ, if_pos (by rw [memAt, if_pos k2]; exact k3), List.map_append, memAt]; simp only [*, if_true, if_false]; rfl)) rfl).symm, (by repeat first | exact hle | exact Mem.none_of_le hle hB1 | refine Mem.le_upd ?_ ?_), (by repeat first | exact Mem.upd_self _ _ _ | assumption | refine Mem.upd_ne (by assumption) ?_), (by repeat first | exact Mem.upd_self _ _ _ | assumption | refine Mem.upd_ne (by assumption) ?_), (by repeat first | exact Mem.upd_self _ _ _ | assumption | refine Mem.upd_ne (by assumption) ?_), by omega, rfl⟩
      · have k3 := h3; try simp only [decide_eq_true_eq, decide_eq_false_iff_not, Bool.not_eq_true', Bool.not_eq_false', Bool.not_true, Bool.not_false, List.length_map, Decidable.not_not] at k3
        refine s_skip ?_
        refine s_blk_normal ?_
        refine s_region ?_
        refine o_q (q_mv (v_raw rfl)) rfl rfl rfl ?_
        refine o_q (q_add rfl rfl (wrap64 (by omega) (by omega))) rfl rfl rfl ?_
        refine o_q (q_as (v_raw rfl)) rfl rfl rfl ?_
        refine o_nil ?_
        refine s_inv ?_
        refine ⟨7 - (i + 1), by omega, _, _, i + 1, St.mkT (kp (kp (kp rfl rfl) (show _ = AVal.sl ((aliveN self f now (i + 1)).map encM) true by rw [aliveN_succ, if_neg (by rw [memAt, if_pos k2, k3]; decide), List.append_nil]; rfl)) rfl).symm, (by repeat first | exact hle | exact Mem.none_of_le hle hB1 | refine Mem.le_upd ?_ ?_), (by repeat first | exact Mem.upd_self _ _ _ | assumption | refine Mem.upd_ne (by assumption) ?_), (by repeat first | exact Mem.upd_self _ _ _ | assumption | refine Mem.upd_ne (by assumption) ?_), (by repeat first | exact Mem.upd_self _ _ _ | assumption | refine Mem.upd_ne (by assumption) ?_), by omega, rfl⟩
    · have k2 := h2; try simp only [decide_eq_true_eq, decide_eq_false_iff_not, Bool.not_eq_true', Bool.not_eq_false', Bool.not_true, Bool.not_false, List.length_map, Decidable.not_not] at k2
      refine s_skip ?_
      refine s_seq ?_
      refine s_region ?_
      refine o_q (q_mv ((by first | exact v_raw rfl | exact v_sptr rfl))) rfl rfl rfl ?_
      refine o_q (q_ldmw ag23 sz23 rfl (by repeat first | exact Mem.upd_self _ _ _ | assumption | refine Mem.upd_ne (by assumption) ?_) rfl rfl) rfl rfl rfl ?_
      refine o_call ((snd16 x lb wb self f now ⟨i, (f i).1⟩ _ (by repeat first | exact Mem.upd_self _ _ _ | assumption | refine Mem.upd_ne (by assumption) ?_) (by repeat first | exact Mem.upd_self _ _ _ | assumption | refine Mem.upd_ne (by assumption) ?_) (by repeat first | exact Mem.upd_self _ _ _ | assumption | refine Mem.upd_ne (by assumption) ?_) d1 d2 d3 hw hf hr).det) goes16 (ac ((by first | exact v_raw rfl | exact v_sptr rfl)) (ac (v_agg rfl) ac_nil)) rfl ?_
      refine o_q (q_as (v_raw rfl)) rfl rfl rfl ?_
      refine o_nil ?_
      refine s_seq ?_
      refine s_region ?_
      refine o_q (q_mv (v_raw rfl)) rfl rfl rfl ?_
      refine o_nil ?_
      refine s_cond rfl (fun h4 => ?_) (fun h4 => ?_)
      · have k4 := h4; try simp only [decide_eq_true_eq, decide_eq_false_iff_not, Bool.not_eq_true', Bool.not_eq_false', Bool.not_true, Bool.not_false, List.length_map, Decidable.not_not] at k4
        refine s_region ?_
        refine o_qs (q_mv_own rfl) rfl rfl rfl rfl ?_
        refine o_q (q_ldmw ag23 sz23 rfl (by repeat first | exact Mem.upd_self _ _ _ | assumption | refine Mem.upd_ne (by assumption) ?_) rfl rfl) rfl rfl rfl ?_
        refine o_q (q_bs slt35 (pc (v_agg rfl) pn) rfl (Els.cons rfl rfl Els.nil) (by decide)) rfl rfl rfl ?_
        refine o_qs (q_app slt35 rfl rfl rfl rfl elsM (by first | exact elsM | exact Els.cons rfl rfl Els.nil) (by simp; omega)) rfl rfl rfl rfl ?_
        refine o_qs (q_as_own rfl) rfl rfl rfl rfl ?_
        refine o_nil ?_
        refine s_blk_normal ?_
        refine s_region ?_
        refine o_q (q_mv (v_raw rfl)) rfl rfl rfl ?_
        refine o_q (q_add rfl rfl (wrap64 (by omega) (by omega))) rfl rfl rfl ?_
        refine o_q (q_as (v_raw rfl)) rfl rfl rfl ?_
        refine o_nil ?_
        refine s_inv ?_
        refine ⟨7 - (i + 1), by omega, _, _, i + 1, St.mkT (kp (kp (kp rfl rfl) (show _ = AVal.sl ((aliveN self f now (i + 1)).map encM) true by rw [aliveN_succ, if_pos (by rw [memAt, if_neg k2]; exact k4), List.map_append, memAt]; simp only [*, if_true, if_false]; rfl)) rfl).symm, (by repeat first | exact hle | exact Mem.none_of_le hle hB1 | refine Mem.le_upd ?_ ?_), (by repeat first | exact Mem.upd_self _ _ _ | assumption | refine Mem.upd_ne (by assumption) ?_), (by repeat first | exact Mem.upd_self _ _ _ | assumption | refine Mem.upd_ne (by assumption) ?_), (by repeat first | exact Mem.upd_self _ _ _ | assumption | refine Mem.upd_ne (by assumption) ?_), by omega, rfl⟩
      · have k4 := h4; try simp only [decide_eq_true_eq, decide_eq_false_iff_not, Bool.not_eq_true', Bool.not_eq_false', Bool.not_true, Bool.not_false, List.length_map, Decidable.not_not] at k4
        refine s_skip ?_
        refine s_blk_normal ?_
        refine s_region ?_
        refine o_q (q_mv (v_raw rfl)) rfl rfl rfl ?_
        refine o_q (q_add rfl rfl (wrap64 (by omega) (by omega))) rfl rfl rfl ?_
        refine o_q (q_as (v_raw rfl)) rfl rfl rfl ?_
        refine o_nil ?_
        refine s_inv ?_
        refine ⟨7 - (i + 1), by omega, _, _, i + 1, St.mkT (kp (kp (kp rfl rfl) (show _ = AVal.sl ((aliveN self f now (i + 1)).map encM) true by rw [aliveN_succ, if_neg (by rw [memAt, if_neg k2, k4]; decide), List.append_nil]; rfl)) rfl).symm, (by repeat first | exact hle | exact Mem.none_of_le hle hB1 | refine Mem.le_upd ?_ ?_), (by repeat first | exact Mem.upd_self _ _ _ | assumption | refine Mem.upd_ne (by assumption) ?_), (by repeat first | exact Mem.upd_self _ _ _ | assumption | refine Mem.upd_ne (by assumption) ?_), (by repeat first | exact Mem.upd_self _ _ _ | assumption | refine Mem.upd_ne (by assumption) ?_), by omega, rfl⟩
  · have k1 := h1; try simp only [decide_eq_true_eq, decide_eq_false_iff_not, Bool.not_eq_true', Bool.not_eq_false', Bool.not_true, Bool.not_false, List.length_map, Decidable.not_not] at k1
    refine s_exit ?_
    refine s_code_exit ?_
    refine s_inv_exit ?_
    refine s_blk_here ?_
    refine s_seq ?_
    refine s_region ?_
    refine o_q (q_mv (v_sl rfl)) rfl rfl rfl ?_
    refine o_q (q_as (v_sl rfl)) rfl rfl rfl ?_
    refine o_nil ?_
    refine s_ret ?_
    refine s_end ?_
    have e : i = 7 := by omega
    subst e
    exact ⟨rfl, hle⟩

def tk8 : Nat → Nat → Option Nat := fun _ _ => none
def pl8 : Nat → List PStep := fun _ => []
theorem cb8 : Try.f8.body.map (codeB Try.prog Try.f8.ntmps tk8 pl8) = some true := by kernel_rfl
theorem goes8 : goesB Try.prog 8 = true := by kernel_rfl
-- carillon/carillonref13.New params ['api.Member'] results [['t', 2]] own [] names ['0:self', '1:self', '3:ok'] calls [20] paths 7
theorem snd8 (self : Mb) (M : Mem) : SoundCall Try.prog 8 [encM self] M fun r M' => (right self = false ∧ r = .raw (.pointer none) ∧ M.le M') ∨ (right self = true ∧ ∃ x lb wb, M x = none ∧ M lb = none ∧ M wb = none ∧ x ≠ lb ∧ x ≠ wb ∧ lb ≠ wb ∧ r = ptr x ∧ M.le M' ∧ M' x = some (.cells (ref self lb wb 0)) ∧ M' lb = some (.cells (row7 fun _ => 0)) ∧ M' wb = some (.cells (row7 fun _ => 0))) := by
  refine SoundCall.go tk8 pl8 mixed Try.func8 cb8 rfl (Nat.le_of_ble_eq_true rfl) ?_
  refine s_seq ?_
  refine s_region ?_
  refine o_box (by first | exact e_raw rfl | exact e_agg rfl | exact e_sl rfl) rfl rfl (fun B1 hB1 => ?_)
  have m1 : M B1 = none := by have h := hB1; repeat (first | exact h | replace h := (Mem.upd_none h).2)
  refine o_q (q_as ((by first | exact v_raw rfl | exact v_sptr rfl))) rfl rfl rfl ?_
  refine o_nil ?_
  refine s_seq ?_
  refine s_region ?_
  refine o_q (q_ldmw ag23 sz23 rfl (by repeat first | exact Mem.upd_self _ _ _ | assumption | refine Mem.upd_ne (by assumption) ?_) rfl rfl) rfl rfl rfl ?_
  refine o_call ((snd20 self _).det) goes20 (ac (v_agg rfl) ac_nil) rfl ?_
  refine o_q (q_as (v_raw rfl)) rfl rfl rfl ?_
  refine o_nil ?_
  refine s_seq ?_
  refine s_seq ?_
  refine s_region ?_
  refine o_q (q_mv (v_raw rfl)) rfl rfl rfl ?_
  refine o_q (q_not rfl) rfl rfl rfl ?_
  refine o_nil ?_
  refine s_cond rfl (fun h1 => ?_) (fun h1 => ?_)
  · have k1 := h1; try simp only [decide_eq_true_eq, decide_eq_false_iff_not, Bool.not_eq_true', Bool.not_eq_false', Bool.not_true, Bool.not_false, List.length_map, Decidable.not_not] at k1
    refine s_seq ?_
    refine s_region ?_
    refine o_q (q_as ((by first | exact v_raw rfl | exact v_sptr rfl))) rfl rfl rfl ?_
    refine o_nil ?_
    refine s_ret ?_
    refine s_code_ret ?_
    refine s_end ?_
    exact .inl ⟨by simpa using k1, rfl, Mem.le_upd (Mem.le_refl M) hB1⟩
  · have k1 := h1; try simp only [decide_eq_true_eq, decide_eq_false_iff_not, Bool.not_eq_true', Bool.not_eq_false', Bool.not_true, Bool.not_false, List.length_map, Decidable.not_not] at k1
    refine s_skip ?_
    refine s_seq ?_
    refine s_any rfl ?_
    refine any_step (r := [0, 1, 2]) (by kernel_rfl) (by decide) ?_
    intro j hj
    simp only [List.mem_cons, List.not_mem_nil, or_false] at hj
    rcases hj with rfl | rfl | rfl
    · refine any_o rfl ?_
      refine o_q (q_ldmw ag23 sz23 rfl (by repeat first | exact Mem.upd_self _ _ _ | assumption | refine Mem.upd_ne (by assumption) ?_) rfl rfl) rfl rfl rfl ?_
      refine o_nil ?_
      refine any_step (r := [1, 2]) (by kernel_rfl) (by decide) ?_
      intro j hj
      simp only [List.mem_cons, List.not_mem_nil, or_false] at hj
      rcases hj with rfl | rfl
      · refine any_o rfl ?_
        refine o_makeSlice und38 sz3 by3 zc3 rfl (by decide) rfl rfl (by omega) (by omega) (by omega) (by omega) (fun B2 hB2 => ?_)
        have f1_2 : B1 ≠ B2 := Mem.fresh_ne hB2 (by repeat first | exact Mem.upd_self _ _ _ | assumption | refine Mem.upd_ne (by assumption) ?_)
        have g2_1 : B2 ≠ B1 := f1_2.symm
        have m2 : M B2 = none := by have h := hB2; repeat (first | exact h | replace h := (Mem.upd_none h).2)
        refine o_nil ?_
        refine any_step (r := [2]) (by kernel_rfl) (by decide) ?_
        intro j hj
        simp only [List.mem_cons, List.not_mem_nil, or_false] at hj
        rcases hj with rfl
        · refine any_o rfl ?_
          refine o_makeSlice und38 sz3 by3 zc3 rfl (by decide) rfl rfl (by omega) (by omega) (by omega) (by omega) (fun B3 hB3 => ?_)
          have f1_3 : B1 ≠ B3 := Mem.fresh_ne hB3 (by repeat first | exact Mem.upd_self _ _ _ | assumption | refine Mem.upd_ne (by assumption) ?_)
          have g3_1 : B3 ≠ B1 := f1_3.symm
          have f2_3 : B2 ≠ B3 := Mem.fresh_ne hB3 (by repeat first | exact Mem.upd_self _ _ _ | assumption | refine Mem.upd_ne (by assumption) ?_)
          have g3_2 : B3 ≠ B2 := f2_3.symm
          have m3 : M B3 = none := by have h := hB3; repeat (first | exact h | replace h := (Mem.upd_none h).2)
          refine o_nil ?_
          refine any_step (r := [3]) (by kernel_rfl) (by decide) ?_
          intro j hj
          simp only [List.mem_cons, List.not_mem_nil, or_false] at hj
          rcases hj with rfl
          · refine any_o rfl ?_
            refine o_q (q_b (cs := [_, _, _, _, .raw (.int .i64 0)]) bz49 bp49 (bf fo49_0 (e_agg rfl) rfl rfl (Nat.le_of_ble_eq_true rfl) rfl (bf fo49_1 (e_raw rfl) rfl rfl (Nat.le_of_ble_eq_true rfl) rfl (bf fo49_2 (e_raw rfl) rfl rfl (Nat.le_of_ble_eq_true rfl) rfl bf_nil)))) rfl rfl rfl ?_
            refine o_nil ?_
            refine any_step (r := [4]) (by kernel_rfl) (by decide) ?_
            intro j hj
            simp only [List.mem_cons, List.not_mem_nil, or_false] at hj
            rcases hj with rfl
            · refine any_o rfl ?_
              refine o_box (by first | exact e_raw rfl | exact e_agg rfl | exact e_sl rfl) rfl rfl (fun B4 hB4 => ?_)
              have f1_4 : B1 ≠ B4 := Mem.fresh_ne hB4 (by repeat first | exact Mem.upd_self _ _ _ | assumption | refine Mem.upd_ne (by assumption) ?_)
              have g4_1 : B4 ≠ B1 := f1_4.symm
              have f2_4 : B2 ≠ B4 := Mem.fresh_ne hB4 (by repeat first | exact Mem.upd_self _ _ _ | assumption | refine Mem.upd_ne (by assumption) ?_)
              have g4_2 : B4 ≠ B2 := f2_4.symm
              have f3_4 : B3 ≠ B4 := Mem.fresh_ne hB4 (by repeat first | exact Mem.upd_self _ _ _ | assumption | refine Mem.upd_ne (by assumption) ?_)
              have g4_3 : B4 ≠ B3 := f3_4.symm
              have m4 : M B4 = none := by have h := hB4; repeat (first | exact h | replace h := (Mem.upd_none h).2)
              refine o_nil ?_
              refine any_step (r := [5]) (by kernel_rfl) (by decide) ?_
              intro j hj
              simp only [List.mem_cons, List.not_mem_nil, or_false] at hj
              rcases hj with rfl
              · refine any_o rfl ?_
                refine o_q (q_as ((by first | exact v_raw rfl | exact v_sptr rfl))) rfl rfl rfl ?_
                refine o_nil ?_
                refine any_done (by kernel_rfl) ?_
                refine s_ret ?_
                refine s_end ?_
                exact .inr ⟨by simpa using k1, B4, B2, B3, by assumption, by assumption, by assumption, by assumption, by assumption, by assumption, rfl, (by repeat first | exact Mem.le_refl M | assumption | refine Mem.le_upd ?_ ?_), (by repeat first | exact Mem.upd_self _ _ _ | assumption | refine Mem.upd_ne (by assumption) ?_), (by repeat first | exact Mem.upd_self _ _ _ | assumption | refine Mem.upd_ne (by assumption) ?_), (by repeat first | exact Mem.upd_self _ _ _ | assumption | refine Mem.upd_ne (by assumption) ?_)⟩
      · refine any_o rfl ?_
        refine o_makeSlice und38 sz3 by3 zc3 rfl (by decide) rfl rfl (by omega) (by omega) (by omega) (by omega) (fun B5 hB5 => ?_)
        have f1_5 : B1 ≠ B5 := Mem.fresh_ne hB5 (by repeat first | exact Mem.upd_self _ _ _ | assumption | refine Mem.upd_ne (by assumption) ?_)
        have g5_1 : B5 ≠ B1 := f1_5.symm
        have m5 : M B5 = none := by have h := hB5; repeat (first | exact h | replace h := (Mem.upd_none h).2)
        refine o_nil ?_
        refine any_step (r := [1]) (by kernel_rfl) (by decide) ?_
        intro j hj
        simp only [List.mem_cons, List.not_mem_nil, or_false] at hj
        rcases hj with rfl
        · refine any_o rfl ?_
          refine o_makeSlice und38 sz3 by3 zc3 rfl (by decide) rfl rfl (by omega) (by omega) (by omega) (by omega) (fun B6 hB6 => ?_)
          have f1_6 : B1 ≠ B6 := Mem.fresh_ne hB6 (by repeat first | exact Mem.upd_self _ _ _ | assumption | refine Mem.upd_ne (by assumption) ?_)
          have g6_1 : B6 ≠ B1 := f1_6.symm
          have f5_6 : B5 ≠ B6 := Mem.fresh_ne hB6 (by repeat first | exact Mem.upd_self _ _ _ | assumption | refine Mem.upd_ne (by assumption) ?_)
          have g6_5 : B6 ≠ B5 := f5_6.symm
          have m6 : M B6 = none := by have h := hB6; repeat (first | exact h | replace h := (Mem.upd_none h).2)
          refine o_nil ?_
          refine any_step (r := [3]) (by kernel_rfl) (by decide) ?_
          intro j hj
          simp only [List.mem_cons, List.not_mem_nil, or_false] at hj
          rcases hj with rfl
          · refine any_o rfl ?_
            refine o_q (q_b (cs := [_, _, _, _, .raw (.int .i64 0)]) bz49 bp49 (bf fo49_0 (e_agg rfl) rfl rfl (Nat.le_of_ble_eq_true rfl) rfl (bf fo49_1 (e_raw rfl) rfl rfl (Nat.le_of_ble_eq_true rfl) rfl (bf fo49_2 (e_raw rfl) rfl rfl (Nat.le_of_ble_eq_true rfl) rfl bf_nil)))) rfl rfl rfl ?_
            refine o_nil ?_
            refine any_step (r := [4]) (by kernel_rfl) (by decide) ?_
            intro j hj
            simp only [List.mem_cons, List.not_mem_nil, or_false] at hj
            rcases hj with rfl
            · refine any_o rfl ?_
              refine o_box (by first | exact e_raw rfl | exact e_agg rfl | exact e_sl rfl) rfl rfl (fun B7 hB7 => ?_)
              have f1_7 : B1 ≠ B7 := Mem.fresh_ne hB7 (by repeat first | exact Mem.upd_self _ _ _ | assumption | refine Mem.upd_ne (by assumption) ?_)
              have g7_1 : B7 ≠ B1 := f1_7.symm
              have f5_7 : B5 ≠ B7 := Mem.fresh_ne hB7 (by repeat first | exact Mem.upd_self _ _ _ | assumption | refine Mem.upd_ne (by assumption) ?_)
              have g7_5 : B7 ≠ B5 := f5_7.symm
              have f6_7 : B6 ≠ B7 := Mem.fresh_ne hB7 (by repeat first | exact Mem.upd_self _ _ _ | assumption | refine Mem.upd_ne (by assumption) ?_)
              have g7_6 : B7 ≠ B6 := f6_7.symm
              have m7 : M B7 = none := by have h := hB7; repeat (first | exact h | replace h := (Mem.upd_none h).2)
              refine o_nil ?_
              refine any_step (r := [5]) (by kernel_rfl) (by decide) ?_
              intro j hj
              simp only [List.mem_cons, List.not_mem_nil, or_false] at hj
              rcases hj with rfl
              · refine any_o rfl ?_
                refine o_q (q_as ((by first | exact v_raw rfl | exact v_sptr rfl))) rfl rfl rfl ?_
                refine o_nil ?_
                refine any_done (by kernel_rfl) ?_
                refine s_ret ?_
                refine s_end ?_
                exact .inr ⟨by simpa using k1, B7, B6, B5, by assumption, by assumption, by assumption, by assumption, by assumption, by assumption, rfl, (by repeat first | exact Mem.le_refl M | assumption | refine Mem.le_upd ?_ ?_), (by repeat first | exact Mem.upd_self _ _ _ | assumption | refine Mem.upd_ne (by assumption) ?_), (by repeat first | exact Mem.upd_self _ _ _ | assumption | refine Mem.upd_ne (by assumption) ?_), (by repeat first | exact Mem.upd_self _ _ _ | assumption | refine Mem.upd_ne (by assumption) ?_)⟩
    · refine any_o rfl ?_
      refine o_makeSlice und38 sz3 by3 zc3 rfl (by decide) rfl rfl (by omega) (by omega) (by omega) (by omega) (fun B8 hB8 => ?_)
      have f1_8 : B1 ≠ B8 := Mem.fresh_ne hB8 (by repeat first | exact Mem.upd_self _ _ _ | assumption | refine Mem.upd_ne (by assumption) ?_)
      have g8_1 : B8 ≠ B1 := f1_8.symm
      have m8 : M B8 = none := by have h := hB8; repeat (first | exact h | replace h := (Mem.upd_none h).2)
      refine o_nil ?_
      refine any_step (r := [0, 2]) (by kernel_rfl) (by decide) ?_
      intro j hj
      simp only [List.mem_cons, List.not_mem_nil, or_false] at hj
      rcases hj with rfl | rfl
      · refine any_o rfl ?_
        refine o_q (q_ldmw ag23 sz23 rfl (by repeat first | exact Mem.upd_self _ _ _ | assumption | refine Mem.upd_ne (by assumption) ?_) rfl rfl) rfl rfl rfl ?_
        refine o_nil ?_
        refine any_step (r := [2]) (by kernel_rfl) (by decide) ?_
        intro j hj
        simp only [List.mem_cons, List.not_mem_nil, or_false] at hj
        rcases hj with rfl
        · refine any_o rfl ?_
          refine o_makeSlice und38 sz3 by3 zc3 rfl (by decide) rfl rfl (by omega) (by omega) (by omega) (by omega) (fun B9 hB9 => ?_)
          have f1_9 : B1 ≠ B9 := Mem.fresh_ne hB9 (by repeat first | exact Mem.upd_self _ _ _ | assumption | refine Mem.upd_ne (by assumption) ?_)
          have g9_1 : B9 ≠ B1 := f1_9.symm
          have f8_9 : B8 ≠ B9 := Mem.fresh_ne hB9 (by repeat first | exact Mem.upd_self _ _ _ | assumption | refine Mem.upd_ne (by assumption) ?_)
          have g9_8 : B9 ≠ B8 := f8_9.symm
          have m9 : M B9 = none := by have h := hB9; repeat (first | exact h | replace h := (Mem.upd_none h).2)
          refine o_nil ?_
          refine any_step (r := [3]) (by kernel_rfl) (by decide) ?_
          intro j hj
          simp only [List.mem_cons, List.not_mem_nil, or_false] at hj
          rcases hj with rfl
          · refine any_o rfl ?_
            refine o_q (q_b (cs := [_, _, _, _, .raw (.int .i64 0)]) bz49 bp49 (bf fo49_0 (e_agg rfl) rfl rfl (Nat.le_of_ble_eq_true rfl) rfl (bf fo49_1 (e_raw rfl) rfl rfl (Nat.le_of_ble_eq_true rfl) rfl (bf fo49_2 (e_raw rfl) rfl rfl (Nat.le_of_ble_eq_true rfl) rfl bf_nil)))) rfl rfl rfl ?_
            refine o_nil ?_
            refine any_step (r := [4]) (by kernel_rfl) (by decide) ?_
            intro j hj
            simp only [List.mem_cons, List.not_mem_nil, or_false] at hj
            rcases hj with rfl
            · refine any_o rfl ?_
              refine o_box (by first | exact e_raw rfl | exact e_agg rfl | exact e_sl rfl) rfl rfl (fun B10 hB10 => ?_)
              have f1_10 : B1 ≠ B10 := Mem.fresh_ne hB10 (by repeat first | exact Mem.upd_self _ _ _ | assumption | refine Mem.upd_ne (by assumption) ?_)
              have g10_1 : B10 ≠ B1 := f1_10.symm
              have f8_10 : B8 ≠ B10 := Mem.fresh_ne hB10 (by repeat first | exact Mem.upd_self _ _ _ | assumption | refine Mem.upd_ne (by assumption) ?_)
              have g10_8 : B10 ≠ B8 := f8_10.symm
              have f9_10 : B9 ≠ B10 := Mem.fresh_ne hB10 (by repeat first | exact Mem.upd_self _ _ _ | assumption | refine Mem.upd_ne (by assumption) ?_)
              have g10_9 : B10 ≠ B9 := f9_10.symm
              have m10 : M B10 = none := by have h := hB10; repeat (first | exact h | replace h := (Mem.upd_none h).2)
              refine o_nil ?_
              refine any_step (r := [5]) (by kernel_rfl) (by decide) ?_
              intro j hj
              simp only [List.mem_cons, List.not_mem_nil, or_false] at hj
              rcases hj with rfl
              · refine any_o rfl ?_
                refine o_q (q_as ((by first | exact v_raw rfl | exact v_sptr rfl))) rfl rfl rfl ?_
                refine o_nil ?_
                refine any_done (by kernel_rfl) ?_
                refine s_ret ?_
                refine s_end ?_
                exact .inr ⟨by simpa using k1, B10, B8, B9, by assumption, by assumption, by assumption, by assumption, by assumption, by assumption, rfl, (by repeat first | exact Mem.le_refl M | assumption | refine Mem.le_upd ?_ ?_), (by repeat first | exact Mem.upd_self _ _ _ | assumption | refine Mem.upd_ne (by assumption) ?_), (by repeat first | exact Mem.upd_self _ _ _ | assumption | refine Mem.upd_ne (by assumption) ?_), (by repeat first | exact Mem.upd_self _ _ _ | assumption | refine Mem.upd_ne (by assumption) ?_)⟩
      · refine any_o rfl ?_
        refine o_makeSlice und38 sz3 by3 zc3 rfl (by decide) rfl rfl (by omega) (by omega) (by omega) (by omega) (fun B11 hB11 => ?_)
        have f1_11 : B1 ≠ B11 := Mem.fresh_ne hB11 (by repeat first | exact Mem.upd_self _ _ _ | assumption | refine Mem.upd_ne (by assumption) ?_)
        have g11_1 : B11 ≠ B1 := f1_11.symm
        have f8_11 : B8 ≠ B11 := Mem.fresh_ne hB11 (by repeat first | exact Mem.upd_self _ _ _ | assumption | refine Mem.upd_ne (by assumption) ?_)
        have g11_8 : B11 ≠ B8 := f8_11.symm
        have m11 : M B11 = none := by have h := hB11; repeat (first | exact h | replace h := (Mem.upd_none h).2)
        refine o_nil ?_
        refine any_step (r := [0]) (by kernel_rfl) (by decide) ?_
        intro j hj
        simp only [List.mem_cons, List.not_mem_nil, or_false] at hj
        rcases hj with rfl
        · refine any_o rfl ?_
          refine o_q (q_ldmw ag23 sz23 rfl (by repeat first | exact Mem.upd_self _ _ _ | assumption | refine Mem.upd_ne (by assumption) ?_) rfl rfl) rfl rfl rfl ?_
          refine o_nil ?_
          refine any_step (r := [3]) (by kernel_rfl) (by decide) ?_
          intro j hj
          simp only [List.mem_cons, List.not_mem_nil, or_false] at hj
          rcases hj with rfl
          · refine any_o rfl ?_
            refine o_q (q_b (cs := [_, _, _, _, .raw (.int .i64 0)]) bz49 bp49 (bf fo49_0 (e_agg rfl) rfl rfl (Nat.le_of_ble_eq_true rfl) rfl (bf fo49_1 (e_raw rfl) rfl rfl (Nat.le_of_ble_eq_true rfl) rfl (bf fo49_2 (e_raw rfl) rfl rfl (Nat.le_of_ble_eq_true rfl) rfl bf_nil)))) rfl rfl rfl ?_
            refine o_nil ?_
            refine any_step (r := [4]) (by kernel_rfl) (by decide) ?_
            intro j hj
            simp only [List.mem_cons, List.not_mem_nil, or_false] at hj
            rcases hj with rfl
            · refine any_o rfl ?_
              refine o_box (by first | exact e_raw rfl | exact e_agg rfl | exact e_sl rfl) rfl rfl (fun B12 hB12 => ?_)
              have f1_12 : B1 ≠ B12 := Mem.fresh_ne hB12 (by repeat first | exact Mem.upd_self _ _ _ | assumption | refine Mem.upd_ne (by assumption) ?_)
              have g12_1 : B12 ≠ B1 := f1_12.symm
              have f8_12 : B8 ≠ B12 := Mem.fresh_ne hB12 (by repeat first | exact Mem.upd_self _ _ _ | assumption | refine Mem.upd_ne (by assumption) ?_)
              have g12_8 : B12 ≠ B8 := f8_12.symm
              have f11_12 : B11 ≠ B12 := Mem.fresh_ne hB12 (by repeat first | exact Mem.upd_self _ _ _ | assumption | refine Mem.upd_ne (by assumption) ?_)
              have g12_11 : B12 ≠ B11 := f11_12.symm
              have m12 : M B12 = none := by have h := hB12; repeat (first | exact h | replace h := (Mem.upd_none h).2)
              refine o_nil ?_
              refine any_step (r := [5]) (by kernel_rfl) (by decide) ?_
              intro j hj
              simp only [List.mem_cons, List.not_mem_nil, or_false] at hj
              rcases hj with rfl
              · refine any_o rfl ?_
                refine o_q (q_as ((by first | exact v_raw rfl | exact v_sptr rfl))) rfl rfl rfl ?_
                refine o_nil ?_
                refine any_done (by kernel_rfl) ?_
                refine s_ret ?_
                refine s_end ?_
                exact .inr ⟨by simpa using k1, B12, B8, B11, by assumption, by assumption, by assumption, by assumption, by assumption, by assumption, rfl, (by repeat first | exact Mem.le_refl M | assumption | refine Mem.le_upd ?_ ?_), (by repeat first | exact Mem.upd_self _ _ _ | assumption | refine Mem.upd_ne (by assumption) ?_), (by repeat first | exact Mem.upd_self _ _ _ | assumption | refine Mem.upd_ne (by assumption) ?_), (by repeat first | exact Mem.upd_self _ _ _ | assumption | refine Mem.upd_ne (by assumption) ?_)⟩
    · refine any_o rfl ?_
      refine o_makeSlice und38 sz3 by3 zc3 rfl (by decide) rfl rfl (by omega) (by omega) (by omega) (by omega) (fun B13 hB13 => ?_)
      have f1_13 : B1 ≠ B13 := Mem.fresh_ne hB13 (by repeat first | exact Mem.upd_self _ _ _ | assumption | refine Mem.upd_ne (by assumption) ?_)
      have g13_1 : B13 ≠ B1 := f1_13.symm
      have m13 : M B13 = none := by have h := hB13; repeat (first | exact h | replace h := (Mem.upd_none h).2)
      refine o_nil ?_
      refine any_step (r := [0, 1]) (by kernel_rfl) (by decide) ?_
      intro j hj
      simp only [List.mem_cons, List.not_mem_nil, or_false] at hj
      rcases hj with rfl | rfl
      · refine any_o rfl ?_
        refine o_q (q_ldmw ag23 sz23 rfl (by repeat first | exact Mem.upd_self _ _ _ | assumption | refine Mem.upd_ne (by assumption) ?_) rfl rfl) rfl rfl rfl ?_
        refine o_nil ?_
        refine any_step (r := [1]) (by kernel_rfl) (by decide) ?_
        intro j hj
        simp only [List.mem_cons, List.not_mem_nil, or_false] at hj
        rcases hj with rfl
        · refine any_o rfl ?_
          refine o_makeSlice und38 sz3 by3 zc3 rfl (by decide) rfl rfl (by omega) (by omega) (by omega) (by omega) (fun B14 hB14 => ?_)
          have f1_14 : B1 ≠ B14 := Mem.fresh_ne hB14 (by repeat first | exact Mem.upd_self _ _ _ | assumption | refine Mem.upd_ne (by assumption) ?_)
          have g14_1 : B14 ≠ B1 := f1_14.symm
          have f13_14 : B13 ≠ B14 := Mem.fresh_ne hB14 (by repeat first | exact Mem.upd_self _ _ _ | assumption | refine Mem.upd_ne (by assumption) ?_)
          have g14_13 : B14 ≠ B13 := f13_14.symm
          have m14 : M B14 = none := by have h := hB14; repeat (first | exact h | replace h := (Mem.upd_none h).2)
          refine o_nil ?_
          refine any_step (r := [3]) (by kernel_rfl) (by decide) ?_
          intro j hj
          simp only [List.mem_cons, List.not_mem_nil, or_false] at hj
          rcases hj with rfl
          · refine any_o rfl ?_
            refine o_q (q_b (cs := [_, _, _, _, .raw (.int .i64 0)]) bz49 bp49 (bf fo49_0 (e_agg rfl) rfl rfl (Nat.le_of_ble_eq_true rfl) rfl (bf fo49_1 (e_raw rfl) rfl rfl (Nat.le_of_ble_eq_true rfl) rfl (bf fo49_2 (e_raw rfl) rfl rfl (Nat.le_of_ble_eq_true rfl) rfl bf_nil)))) rfl rfl rfl ?_
            refine o_nil ?_
            refine any_step (r := [4]) (by kernel_rfl) (by decide) ?_
            intro j hj
            simp only [List.mem_cons, List.not_mem_nil, or_false] at hj
            rcases hj with rfl
            · refine any_o rfl ?_
              refine o_box (by first | exact e_raw rfl | exact e_agg rfl | exact e_sl rfl) rfl rfl (fun B15 hB15 => ?_)
              have f1_15 : B1 ≠ B15 := Mem.fresh_ne hB15 (by repeat first | exact Mem.upd_self _ _ _ | assumption | refine Mem.upd_ne (by assumption) ?_)
              have g15_1 : B15 ≠ B1 := f1_15.symm
              have f13_15 : B13 ≠ B15 := Mem.fresh_ne hB15 (by repeat first | exact Mem.upd_self _ _ _ | assumption | refine Mem.upd_ne (by assumption) ?_)
              have g15_13 : B15 ≠ B13 := f13_15.symm
              have f14_15 : B14 ≠ B15 := Mem.fresh_ne hB15 (by repeat first | exact Mem.upd_self _ _ _ | assumption | refine Mem.upd_ne (by assumption) ?_)
              have g15_14 : B15 ≠ B14 := f14_15.symm
              have m15 : M B15 = none := by have h := hB15; repeat (first | exact h | replace h := (Mem.upd_none h).2)
              refine o_nil ?_
              refine any_step (r := [5]) (by kernel_rfl) (by decide) ?_
              intro j hj
              simp only [List.mem_cons, List.not_mem_nil, or_false] at hj
              rcases hj with rfl
              · refine any_o rfl ?_
                refine o_q (q_as ((by first | exact v_raw rfl | exact v_sptr rfl))) rfl rfl rfl ?_
                refine o_nil ?_
                refine any_done (by kernel_rfl) ?_
                refine s_ret ?_
                refine s_end ?_
                exact .inr ⟨by simpa using k1, B15, B14, B13, by assumption, by assumption, by assumption, by assumption, by assumption, by assumption, rfl, (by repeat first | exact Mem.le_refl M | assumption | refine Mem.le_upd ?_ ?_), (by repeat first | exact Mem.upd_self _ _ _ | assumption | refine Mem.upd_ne (by assumption) ?_), (by repeat first | exact Mem.upd_self _ _ _ | assumption | refine Mem.upd_ne (by assumption) ?_), (by repeat first | exact Mem.upd_self _ _ _ | assumption | refine Mem.upd_ne (by assumption) ?_)⟩
      · refine any_o rfl ?_
        refine o_makeSlice und38 sz3 by3 zc3 rfl (by decide) rfl rfl (by omega) (by omega) (by omega) (by omega) (fun B16 hB16 => ?_)
        have f1_16 : B1 ≠ B16 := Mem.fresh_ne hB16 (by repeat first | exact Mem.upd_self _ _ _ | assumption | refine Mem.upd_ne (by assumption) ?_)
        have g16_1 : B16 ≠ B1 := f1_16.symm
        have f13_16 : B13 ≠ B16 := Mem.fresh_ne hB16 (by repeat first | exact Mem.upd_self _ _ _ | assumption | refine Mem.upd_ne (by assumption) ?_)
        have g16_13 : B16 ≠ B13 := f13_16.symm
        have m16 : M B16 = none := by have h := hB16; repeat (first | exact h | replace h := (Mem.upd_none h).2)
        refine o_nil ?_
        refine any_step (r := [0]) (by kernel_rfl) (by decide) ?_
        intro j hj
        simp only [List.mem_cons, List.not_mem_nil, or_false] at hj
        rcases hj with rfl
        · refine any_o rfl ?_
          refine o_q (q_ldmw ag23 sz23 rfl (by repeat first | exact Mem.upd_self _ _ _ | assumption | refine Mem.upd_ne (by assumption) ?_) rfl rfl) rfl rfl rfl ?_
          refine o_nil ?_
          refine any_step (r := [3]) (by kernel_rfl) (by decide) ?_
          intro j hj
          simp only [List.mem_cons, List.not_mem_nil, or_false] at hj
          rcases hj with rfl
          · refine any_o rfl ?_
            refine o_q (q_b (cs := [_, _, _, _, .raw (.int .i64 0)]) bz49 bp49 (bf fo49_0 (e_agg rfl) rfl rfl (Nat.le_of_ble_eq_true rfl) rfl (bf fo49_1 (e_raw rfl) rfl rfl (Nat.le_of_ble_eq_true rfl) rfl (bf fo49_2 (e_raw rfl) rfl rfl (Nat.le_of_ble_eq_true rfl) rfl bf_nil)))) rfl rfl rfl ?_
            refine o_nil ?_
            refine any_step (r := [4]) (by kernel_rfl) (by decide) ?_
            intro j hj
            simp only [List.mem_cons, List.not_mem_nil, or_false] at hj
            rcases hj with rfl
            · refine any_o rfl ?_
              refine o_box (by first | exact e_raw rfl | exact e_agg rfl | exact e_sl rfl) rfl rfl (fun B17 hB17 => ?_)
              have f1_17 : B1 ≠ B17 := Mem.fresh_ne hB17 (by repeat first | exact Mem.upd_self _ _ _ | assumption | refine Mem.upd_ne (by assumption) ?_)
              have g17_1 : B17 ≠ B1 := f1_17.symm
              have f13_17 : B13 ≠ B17 := Mem.fresh_ne hB17 (by repeat first | exact Mem.upd_self _ _ _ | assumption | refine Mem.upd_ne (by assumption) ?_)
              have g17_13 : B17 ≠ B13 := f13_17.symm
              have f16_17 : B16 ≠ B17 := Mem.fresh_ne hB17 (by repeat first | exact Mem.upd_self _ _ _ | assumption | refine Mem.upd_ne (by assumption) ?_)
              have g17_16 : B17 ≠ B16 := f16_17.symm
              have m17 : M B17 = none := by have h := hB17; repeat (first | exact h | replace h := (Mem.upd_none h).2)
              refine o_nil ?_
              refine any_step (r := [5]) (by kernel_rfl) (by decide) ?_
              intro j hj
              simp only [List.mem_cons, List.not_mem_nil, or_false] at hj
              rcases hj with rfl
              · refine any_o rfl ?_
                refine o_q (q_as ((by first | exact v_raw rfl | exact v_sptr rfl))) rfl rfl rfl ?_
                refine o_nil ?_
                refine any_done (by kernel_rfl) ?_
                refine s_ret ?_
                refine s_end ?_
                exact .inr ⟨by simpa using k1, B17, B16, B13, by assumption, by assumption, by assumption, by assumption, by assumption, by assumption, rfl, (by repeat first | exact Mem.le_refl M | assumption | refine Mem.le_upd ?_ ?_), (by repeat first | exact Mem.upd_self _ _ _ | assumption | refine Mem.upd_ne (by assumption) ?_), (by repeat first | exact Mem.upd_self _ _ _ | assumption | refine Mem.upd_ne (by assumption) ?_), (by repeat first | exact Mem.upd_self _ _ _ | assumption | refine Mem.upd_ne (by assumption) ?_)⟩

def tk6 : Nat → Nat → Option Nat := fun _ _ => none
def pl6 : Nat → List PStep
  | 12 => [.q 0, .q 1, .q 2, .q 3, .q 4, .q 5, .q 6, .q 7, .q 8, .q 9, .s 10 [9, 8, 7, 5, 4, 3, 2, 1, 0], .q 11, .q 12, .q 13, .q 14, .q 15, .q 16, .q 17, .q 18, .q 19, .q 20, .q 21, .s 22 [21, 20, 19, 17, 16, 15, 14, 13, 12, 11, 9, 8, 7, 6, 5, 4, 3, 2, 1, 0], .q 23, .q 24, .q 25, .q 26, .s 27 [26, 24, 23, 21, 20, 19, 18, 17, 16, 15, 14, 13, 12, 11, 9, 8, 7, 6, 5, 4, 3, 2, 1, 0], .s 28 [24, 23, 21, 20, 19, 18, 17, 16, 15, 14, 13, 12, 11, 9, 8, 7, 6, 5, 4, 3, 2, 1, 0], .q 29, .q 30, .q 31]
  | _ => []
theorem cb6 : Try.f6.body.map (codeB Try.prog Try.f6.ntmps tk6 pl6) = some true := by kernel_rfl
theorem goes6 : goesB Try.prog 6 = true := by kernel_rfl
-- carillon/carillonlaw13.examples params [] results [['t', 0]] own [] names ['1:s', '2:e', '3:_', '4:f', '5:a', '6:l', '7:i', '8:n'] calls [7, 9, 11, 13, 17] paths 2

def heardF (self : Mb) (f : Nat → Int × Int) (now : Int) (m : Mb) : Nat → Int × Int := if hearsB self f m then fupd f m.node (m.life, now) else f
theorem hear11 (s c : Nat) (self : Mb) (f : Nat → Int × Int) (now : Int) (m : Mb) (M : Mem) (hs : M s = some (.cells (sus self f c))) (hc : M c = some (.cells [int now])) (hsc : s ≠ c) (hw : 0 ≤ now ∧ now < 2 ^ 60) (hf : ∀ i, 0 ≤ (f i).2 ∧ (f i).2 ≤ now) : SoundCall Try.prog 11 [ptr s, encM m] M fun r M' => r = .raw (.bool (hearsB self f m)) ∧ M' = M.upd s (.cells (sus self (heardF self f now m) c)) := by
  have h := (snd11 s c self f now m M hs hc hsc hw hf).leaves
  refine h.mono fun r M' ⟨h1, h2⟩ => ⟨h1, ?_⟩
  rw [h2]
  unfold heardF
  cases hearsB self f m with
  | true => rfl
  | false => exact (Mem.upd_same hs).symm
theorem hear12 (x lb wb : Nat) (self : Mb) (f : Nat → Int × Int) (now : Int) (m : Mb) (M : Mem) (hx : M x = some (.cells (ref self lb wb now))) (hl : M lb = some (.cells (row7 fun i => (f i).1))) (hwb : M wb = some (.cells (row7 fun i => (f i).2))) (d1 : x ≠ lb) (d2 : x ≠ wb) (d3 : lb ≠ wb) (hw : 0 ≤ now ∧ now < 2 ^ 60) (hf : ∀ i, 0 ≤ (f i).2 ∧ (f i).2 ≤ now) (hr : right self = true) : SoundCall Try.prog 12 [ptr x, encM m] M fun r M' => r = .raw (.bool (hearsB self f m)) ∧ M' = (M.upd lb (.cells (row7 fun i => (heardF self f now m i).1))).upd wb (.cells (row7 fun i => (heardF self f now m i).2)) := by
  have h := (snd12 x lb wb self f now m M hx hl hwb d1 d2 d3 hw hf hr).leaves
  refine h.mono fun r M' ⟨h1, h2⟩ => ⟨h1, ?_⟩
  rw [h2]
  unfold heardF
  cases hearsB self f m with
  | true => rfl
  | false =>
    show M = _
    simp only [Bool.false_eq_true, if_false]
    rw [Mem.upd_same hl, Mem.upd_same hwb]
theorem new7 (self : Mb) (M : Mem) (hr : right self = true) : SoundCall Try.prog 7 [encM self] M fun r M' => ∃ s c, M s = none ∧ M c = none ∧ s ≠ c ∧ r = .tup [ptr s, int 0] ∧ M' = (M.upd c (.cells [int 0])).upd s (.cells (sus self (fun _ => (0, 0)) c)) := by
  refine (snd7 self M).forgets fun r M' h => ?_
  rcases h with ⟨h1, -⟩ | ⟨-, s, c, h1, h2, h3, h4, h5⟩
  · rw [hr] at h1; cases h1
  · exact ⟨_, h5, s, c, h1, h2, h3, h4, rfl⟩
theorem new7n (self : Mb) (M : Mem) (hr : right self = false) : SoundCall Try.prog 7 [encM self] M fun r M' => r = .tup [.raw (.pointer none), int 1] ∧ M' = M := by
  refine (snd7 self M).forgets fun r M' h => ?_
  rcases h with ⟨-, h1, h2⟩ | ⟨h1, -⟩
  · exact ⟨_, h2, h1, rfl⟩
  · rw [hr] at h1; cases h1
theorem new8 (self : Mb) (M : Mem) (hr : right self = true) : SoundCall Try.prog 8 [encM self] M fun r M' => ∃ x lb wb, M x = none ∧ M lb = none ∧ M wb = none ∧ x ≠ lb ∧ x ≠ wb ∧ lb ≠ wb ∧ r = ptr x ∧ M' = ((M.upd lb (.cells (row7 fun _ => 0))).upd wb (.cells (row7 fun _ => 0))).upd x (.cells (ref self lb wb 0)) := by
  refine (snd8 self M).forgets fun r M' h => ?_
  rcases h with ⟨h1, -⟩ | ⟨-, x, lb, wb, h1, h2, h3, h4, h5, h6, h7, h8, h9, h10, h11⟩
  · rw [hr] at h1; cases h1
  · refine ⟨_, ?_, x, lb, wb, h1, h2, h3, h4, h5, h6, h7, rfl⟩
    intro b o hb
    unfold Mem.upd at hb
    split at hb
    · rename_i e; subst e; rw [h9]; exact hb
    · split at hb
      · rename_i e; subst e; rw [h11]; exact hb
      · split at hb
        · rename_i e; subst e; rw [h10]; exact hb
        · exact h8 b o hb
theorem new8n (self : Mb) (M : Mem) (hr : right self = false) : SoundCall Try.prog 8 [encM self] M fun r M' => r = .raw (.pointer none) ∧ M' = M := by
  refine (snd8 self M).forgets fun r M' h => ?_
  rcases h with ⟨-, h1, h2⟩ | ⟨h1, -⟩
  · exact ⟨_, h2, h1, rfl⟩
  · rw [hr] at h1; cases h1
theorem m17 (node life : Int) (M : Mem) : SoundCall Try.prog 17 [int node, int life] M fun r M' => r = encM ⟨node, life⟩ ∧ M' = M := (snd17 node life M).det
def f1 : Nat → Int × Int := heardF ⟨0, 1⟩ (fun _ => (0, 0)) 0 ⟨1, 2⟩
def f2 : Nat → Int × Int := heardF ⟨0, 1⟩ f1 0 ⟨1, 1⟩

theorem heardF_ok {self : Mb} {f : Nat → Int × Int} {now : Int} {m : Mb} (h0 : 0 ≤ now) (hf : ∀ i, 0 ≤ (f i).2 ∧ (f i).2 ≤ now) : ∀ i, 0 ≤ (heardF self f now m i).2 ∧ (heardF self f now m i).2 ≤ now := by
  intro i
  unfold heardF
  split
  · show 0 ≤ (if i = m.node.toNat then (m.life, now) else f i).2 ∧ (if i = m.node.toNat then (m.life, now) else f i).2 ≤ now
    split
    · exact ⟨h0, Int.le_refl _⟩
    · exact hf i
  · exact hf i
theorem f0_ok (now : Int) (h : 0 ≤ now) : ∀ i : Nat, 0 ≤ ((fun _ => (0, 0) : Nat → Int × Int) i).2 ∧ ((fun _ => (0, 0) : Nat → Int × Int) i).2 ≤ now := fun _ => ⟨Int.le_refl _, h⟩
theorem f1_ok : ∀ i, 0 ≤ (f1 i).2 ∧ (f1 i).2 ≤ 0 := heardF_ok (Int.le_refl _) (f0_ok 0 (Int.le_refl _))
theorem f2_ok (now : Int) (h : 0 ≤ now) : ∀ i, 0 ≤ (f2 i).2 ∧ (f2 i).2 ≤ now := fun i => by
  have := heardF_ok (self := ⟨0, 1⟩) (m := ⟨1, 1⟩) (Int.le_refl 0) f1_ok i
  exact ⟨this.1, Int.le_trans this.2 h⟩
theorem exA (s c : Nat) (M : Mem) (hs : M s = some (.cells (sus ⟨0, 1⟩ f2 c))) (hc : M c = some (.cells [int 0])) (hsc : s ≠ c) : SoundCall Try.prog 13 [ptr s] M fun r M' => r = .sl (([⟨0, 1⟩, ⟨1, 2⟩] : List Mb).map encM) false ∧ M' = M := by
  have h := (snd13 s c ⟨0, 1⟩ f2 0 M hs hc hsc (by omega) (f2_ok 0 (by omega))).det
  rw [show aliveN ⟨0, 1⟩ f2 0 7 = [⟨0, 1⟩, ⟨1, 2⟩] from by kernel_rfl] at h
  exact h
theorem exB (s c : Nat) (M : Mem) (hs : M s = some (.cells (sus ⟨0, 1⟩ f2 c))) (hc : M c = some (.cells [int 5])) (hsc : s ≠ c) : SoundCall Try.prog 13 [ptr s] M fun r M' => r = .sl (([⟨0, 1⟩] : List Mb).map encM) false ∧ M' = M := by
  have h := (snd13 s c ⟨0, 1⟩ f2 5 M hs hc hsc (by omega) (f2_ok 5 (by omega))).det
  rw [show aliveN ⟨0, 1⟩ f2 5 7 = [⟨0, 1⟩] from by kernel_rfl] at h
  exact h
theorem snd6 (M : Mem) : SoundCall Try.prog 6 [] M fun r M' => r = .raw (.bool true) ∧ M.le M' := by
  refine SoundCall.go tk6 pl6 mixed Try.func6 cb6 rfl (Nat.le_of_ble_eq_true rfl) ?_
  refine s_seq ?_
  refine s_region ?_
  refine o_q (q_as (v_raw rfl)) rfl rfl rfl ?_
  refine o_nil ?_
  refine s_seq ?_
  refine s_region ?_
  refine o_call (m17 _ _ _) goes17 (ac (v_raw rfl) (ac (v_raw rfl) ac_nil)) rfl ?_
  refine o_callx (new7 ⟨0, 1⟩ _ rfl) goes7 (ac (v_agg rfl) ac_nil) rfl ?_
  rintro r M' ⟨s, c, hsn, hcn, hsc, rfl, rfl⟩; have hsc' := hsc.symm
  refine o_q (q_mv (v_tup rfl)) rfl rfl rfl ?_
  refine o_q (q_ext rfl rfl ((by first | exact v_raw rfl | exact v_sptr rfl))) rfl rfl rfl ?_
  refine o_q (q_ext rfl rfl (v_raw rfl)) rfl rfl rfl ?_
  refine o_q (q_as ((by first | exact v_raw rfl | exact v_sptr rfl))) rfl rfl rfl ?_
  refine o_q (q_as (v_raw rfl)) rfl rfl rfl ?_
  refine o_nil ?_
  refine s_seq ?_
  refine s_region ?_
  refine o_call (m17 _ _ _) goes17 (ac (v_raw rfl) (ac (v_raw rfl) ac_nil)) rfl ?_
  refine o_callx (new7n ⟨0, 0⟩ _ rfl) goes7 (ac (v_agg rfl) ac_nil) rfl ?_
  rintro r M' ⟨rfl, rfl⟩
  refine o_q (q_mv (v_tup rfl)) rfl rfl rfl ?_
  refine o_q (q_ext rfl rfl ((by first | exact v_raw rfl | exact v_sptr rfl))) rfl rfl rfl ?_
  refine o_q (q_ext rfl rfl (v_raw rfl)) rfl rfl rfl ?_
  refine o_q (q_as ((by first | exact v_raw rfl | exact v_sptr rfl))) rfl rfl rfl ?_
  refine o_q (q_as (v_raw rfl)) rfl rfl rfl ?_
  refine o_nil ?_
  refine s_seq ?_
  refine s_seq ?_
  refine s_region ?_
  refine o_q (q_mv ((by first | exact v_raw rfl | exact v_sptr rfl))) rfl rfl rfl ?_
  refine o_q (q_peql und26 rfl rfl) rfl rfl rfl ?_
  refine o_q (q_mv (v_raw rfl)) rfl rfl rfl ?_
  refine o_cases (want := false) (j := 2) rfl rfl (fun h1 => ?_) (fun h1 => ?_)
  · have k1 := h1; try simp only [decide_eq_true_eq, decide_eq_false_iff_not, Bool.not_eq_true', Bool.not_eq_false', Bool.not_true, Bool.not_false, List.length_map, Decidable.not_not] at k1
    refine o_yes rfl rfl rfl h1 ?_
    refine o_q (q_mv (v_raw rfl)) rfl rfl rfl ?_
    refine o_yes rfl rfl rfl h1 ?_
    refine o_q (q_neq rfl rfl) rfl rfl rfl ?_
    refine o_q (q_pick_c rfl h1 (v_raw rfl)) rfl rfl rfl ?_
    refine o_q (q_mv (v_raw rfl)) rfl rfl rfl ?_
    refine o_cases (want := false) (j := 6) rfl rfl (fun h2 => ?_) (fun h2 => ?_)
    · have k2 := h2; try simp only [decide_eq_true_eq, decide_eq_false_iff_not, Bool.not_eq_true', Bool.not_eq_false', Bool.not_true, Bool.not_false, List.length_map, Decidable.not_not] at k2
      refine o_yes rfl rfl rfl h2 ?_
      refine o_q (q_mv (v_raw rfl)) rfl rfl rfl ?_
      refine o_yes rfl rfl rfl h2 ?_
      refine o_q (q_neq rfl rfl) rfl rfl rfl ?_
      refine o_q (q_pick_c rfl h2 (v_raw rfl)) rfl rfl rfl ?_
      refine o_nil ?_
      refine s_cond rfl (fun h3 => ?_) (fun h3 => ?_)
      · have k3 := h3; try simp only [decide_eq_true_eq, decide_eq_false_iff_not, Bool.not_eq_true', Bool.not_eq_false', Bool.not_true, Bool.not_false, List.length_map, Decidable.not_not] at k3
        first | exact absurd h3 (by decide) | (simp at h3; done) | (simp at h3; omega)
      · have k3 := h3; try simp only [decide_eq_true_eq, decide_eq_false_iff_not, Bool.not_eq_true', Bool.not_eq_false', Bool.not_true, Bool.not_false, List.length_map, Decidable.not_not] at k3
        refine s_skip ?_
        refine s_seq ?_
        refine s_region ?_
        refine o_q (q_mv ((by first | exact v_raw rfl | exact v_sptr rfl))) rfl rfl rfl ?_
        refine o_call (m17 _ _ _) goes17 (ac (v_raw rfl) (ac (v_raw rfl) ac_nil)) rfl ?_
        refine o_callx (hear11 s c ⟨0, 1⟩ (fun _ => (0, 0)) 0 ⟨1, 2⟩ _ (by repeat first | exact Mem.upd_self _ _ _ | assumption | refine Mem.upd_ne (by assumption) ?_) (by repeat first | exact Mem.upd_self _ _ _ | assumption | refine Mem.upd_ne (by assumption) ?_) hsc (by omega) (f0_ok 0 (by omega))) goes11 (ac ((by first | exact v_raw rfl | exact v_sptr rfl)) (ac (v_agg rfl) ac_nil)) rfl ?_
        rintro r M' ⟨rfl, rfl⟩
        refine o_q (q_mv (v_raw rfl)) rfl rfl rfl ?_
        refine o_cases (want := true) (j := 3) rfl rfl (fun h4 => ?_) (fun h4 => ?_)
        · have k4 := h4; try simp only [decide_eq_true_eq, decide_eq_false_iff_not, Bool.not_eq_true', Bool.not_eq_false', Bool.not_true, Bool.not_false, List.length_map, Decidable.not_not] at k4
          refine o_yes rfl rfl rfl h4 ?_
          refine o_q (q_mv ((by first | exact v_raw rfl | exact v_sptr rfl))) rfl rfl rfl ?_
          refine o_yes rfl rfl rfl h4 ?_
          refine o_call (m17 _ _ _) goes17 (ac (v_raw rfl) (ac (v_raw rfl) ac_nil)) rfl ?_
          refine o_yes rfl rfl rfl h4 ?_
          refine o_callx (hear11 s c ⟨0, 1⟩ f1 0 ⟨1, 1⟩ _ (by repeat first | exact Mem.upd_self _ _ _ | assumption | refine Mem.upd_ne (by assumption) ?_) (by repeat first | exact Mem.upd_self _ _ _ | assumption | refine Mem.upd_ne (by assumption) ?_) hsc (by omega) f1_ok) goes11 (ac ((by first | exact v_raw rfl | exact v_sptr rfl)) (ac (v_agg rfl) ac_nil)) rfl ?_
          rintro r M' ⟨rfl, rfl⟩
          refine o_yes rfl rfl rfl h4 ?_
          refine o_q (q_not rfl) rfl rfl rfl ?_
          refine o_q (q_pick_c rfl h4 (v_raw rfl)) rfl rfl rfl ?_
          refine o_q (q_as (v_raw rfl)) rfl rfl rfl ?_
          refine o_nil ?_
          refine s_seq ?_
          refine s_region ?_
          refine o_q (q_mv ((by first | exact v_raw rfl | exact v_sptr rfl))) rfl rfl rfl ?_
          refine o_call (exA s c _ (by repeat first | exact Mem.upd_self _ _ _ | assumption | refine Mem.upd_ne (by assumption) ?_) (by repeat first | exact Mem.upd_self _ _ _ | assumption | refine Mem.upd_ne (by assumption) ?_) hsc) goes13 (ac ((by first | exact v_raw rfl | exact v_sptr rfl)) ac_nil) rfl ?_
          refine o_q (q_as (v_sl rfl)) rfl rfl rfl ?_
          refine o_nil ?_
          refine s_seq ?_
          refine s_seq ?_
          refine s_region ?_
          refine o_q (q_as (v_raw rfl)) rfl rfl rfl ?_
          refine o_nil ?_
          refine s_block ?_
          refine s_loop (fun m S => ∃ T, ∃ M' : Mem, ∃ i : Nat, S = ⟨setT (setT (setT (setT T 1 (ptr s)) 5 (.raw (.bool true))) 6 (.sl (([⟨0, 1⟩, ⟨1, 2⟩] : List Mb).map encM) false)) 7 (int i), M'⟩ ∧ M.le M' ∧ M' s = some (.cells (sus ⟨0, 1⟩ f2 c)) ∧ M' c = some (.cells [int i]) ∧ i ≤ 5 ∧ m = 5 - i) 5 ?_ ?_
          · exact ⟨_, _, 0, St.mkT (kp (kp (kp (kp rfl rfl) rfl) rfl) rfl).symm, (by repeat first | exact Mem.le_refl M | assumption | refine Mem.le_upd ?_ ?_), (by repeat first | exact Mem.upd_self _ _ _ | assumption | refine Mem.upd_ne (by assumption) ?_), (by repeat first | exact Mem.upd_self _ _ _ | assumption | refine Mem.upd_ne (by assumption) ?_), by omega, rfl⟩
          rintro m S ⟨T, M', i, rfl, hle, hs', hc', hi, rfl⟩
          refine s_seq ?_
          refine s_seq ?_
          refine s_region ?_
          refine o_q (q_mv (v_raw rfl)) rfl rfl rfl ?_
          refine o_q (q_lss rfl rfl) rfl rfl rfl ?_
          refine o_nil ?_
          refine s_cond rfl (fun h5 => ?_) (fun h5 => ?_)
          · have k5 := h5; try simp only [decide_eq_true_eq, decide_eq_false_iff_not, Bool.not_eq_true', Bool.not_eq_false', Bool.not_true, Bool.not_false, List.length_map, Decidable.not_not] at k5
            refine s_skip ?_
            refine s_seq ?_
            refine s_block ?_
            refine s_region ?_
            refine o_q (q_mv ((by first | exact v_raw rfl | exact v_sptr rfl))) rfl rfl rfl ?_
            refine o_callx (snd9 s c ⟨0, 1⟩ f2 i M' hs' hc' (by omega)) goes9 (ac ((by first | exact v_raw rfl | exact v_sptr rfl)) ac_nil) rfl ?_
            rintro r M' ⟨rfl, rfl⟩
            refine o_nil ?_
            refine s_blk_normal ?_
            refine s_region ?_
            refine o_q (q_mv (v_raw rfl)) rfl rfl rfl ?_
            refine o_q (q_add rfl rfl (wrap64 (by omega) (by omega))) rfl rfl rfl ?_
            refine o_q (q_as (v_raw rfl)) rfl rfl rfl ?_
            refine o_nil ?_
            refine s_inv ?_
            exact ⟨5 - (i + 1), by omega, _, _, i + 1, St.mkT (kp (kp (kp (kp rfl rfl) rfl) rfl) rfl).symm, Mem.le_upd hle hcn, Mem.upd_ne hsc hs', Mem.upd_self _ _ _, by omega, rfl⟩
          · have k5 := h5; try simp only [decide_eq_true_eq, decide_eq_false_iff_not, Bool.not_eq_true', Bool.not_eq_false', Bool.not_true, Bool.not_false, List.length_map, Decidable.not_not] at k5
            obtain rfl : i = 5 := by omega
            refine s_exit ?_
            refine s_code_exit ?_
            refine s_inv_exit ?_
            refine s_blk_here ?_
            refine s_seq ?_
            refine s_region ?_
            refine o_q (q_mv ((by first | exact v_raw rfl | exact v_sptr rfl))) rfl rfl rfl ?_
            refine o_call (exB s c _ hs' hc' hsc) goes13 (ac ((by first | exact v_raw rfl | exact v_sptr rfl)) ac_nil) rfl ?_
            refine o_q (q_as (v_sl rfl)) rfl rfl rfl ?_
            refine o_nil ?_
            refine s_seq ?_
            refine s_draw rfl ?_
            refine d_q rfl (q_mv (v_raw rfl)) rfl rfl rfl ?_
            refine d_q rfl (q_mv (v_raw rfl)) rfl rfl rfl ?_
            refine d_cases (want := true) (j := 1) rfl rfl (fun h6 => ?_) (fun h6 => ?_)
            · have k6 := h6; try simp only [decide_eq_true_eq, decide_eq_false_iff_not, Bool.not_eq_true', Bool.not_eq_false', Bool.not_true, Bool.not_false, List.length_map, Decidable.not_not] at k6
              refine d_yes rfl (q_mv (v_sl rfl)) rfl rfl rfl h6 rfl rfl ?_
              refine d_yes rfl (q_len rfl und35 rfl) rfl rfl rfl h6 rfl rfl ?_
              refine d_yes rfl (q_eql rfl rfl) rfl rfl rfl h6 rfl rfl ?_
              refine d_q rfl (q_pick_c rfl h6 (v_raw rfl)) rfl rfl rfl ?_
              refine d_q rfl (q_mv (v_raw rfl)) rfl rfl rfl ?_
              refine d_cases (want := true) (j := 6) rfl rfl (fun h7 => ?_) (fun h7 => ?_)
              · have k7 := h7; try simp only [decide_eq_true_eq, decide_eq_false_iff_not, Bool.not_eq_true', Bool.not_eq_false', Bool.not_true, Bool.not_false, List.length_map, Decidable.not_not] at k7
                refine d_yes rfl (q_mv (v_sl rfl)) rfl rfl rfl h7 rfl rfl ?_
                refine d_yes rfl (q_idx und35 sz23 rfl rfl (by omega) (gm 1 (by first | omega | simp)) rfl) rfl rfl rfl h7 rfl rfl ?_
                refine d_yes rfl (q_lde ag23 sz23 rfl (gm 1 (by first | omega | simp)) rfl rfl) rfl rfl rfl h7 rfl rfl ?_
                refine d_s rfl ?_
                refine o_yes rfl rfl rfl h7 ?_
                refine o_call (m17 _ _ _) goes17 (ac (v_raw rfl) (ac (v_raw rfl) ac_nil)) rfl ?_
                refine o_nil ⟨(by simp [Mem.upd, *]), ?_⟩
                refine d_yes rfl (q_bin' rfl rfl (binEqM _ _ _ _)) rfl rfl rfl h7 rfl rfl ?_
                refine d_q rfl (q_pick_c rfl h7 (v_raw rfl)) rfl rfl rfl ?_
                refine d_q rfl (q_mv (v_raw rfl)) rfl rfl rfl ?_
                refine d_cases (want := true) (j := 13) rfl rfl (fun h8 => ?_) (fun h8 => ?_)
                · have k8 := h8; try simp only [decide_eq_true_eq, decide_eq_false_iff_not, Bool.not_eq_true', Bool.not_eq_false', Bool.not_true, Bool.not_false, List.length_map, Decidable.not_not] at k8
                  refine d_yes rfl (q_mv (v_sl rfl)) rfl rfl rfl h8 rfl rfl ?_
                  refine d_yes rfl (q_len rfl und35 rfl) rfl rfl rfl h8 rfl rfl ?_
                  refine d_yes rfl (q_eql rfl rfl) rfl rfl rfl h8 rfl rfl ?_
                  refine d_q rfl (q_pick_c rfl h8 (v_raw rfl)) rfl rfl rfl ?_
                  refine d_q rfl (q_mv (v_raw rfl)) rfl rfl rfl ?_
                  refine d_cases (want := true) (j := 18) rfl rfl (fun h9 => ?_) (fun h9 => ?_)
                  · have k9 := h9; try simp only [decide_eq_true_eq, decide_eq_false_iff_not, Bool.not_eq_true', Bool.not_eq_false', Bool.not_true, Bool.not_false, List.length_map, Decidable.not_not] at k9
                    refine d_yes rfl (q_mv (v_sl rfl)) rfl rfl rfl h9 rfl rfl ?_
                    refine d_yes rfl (q_idx und35 sz23 rfl rfl (by omega) (gm 0 (by first | omega | simp)) rfl) rfl rfl rfl h9 rfl rfl ?_
                    refine d_yes rfl (q_lde ag23 sz23 rfl (gm 0 (by first | omega | simp)) rfl rfl) rfl rfl rfl h9 rfl rfl ?_
                    refine d_s rfl ?_
                    refine o_yes rfl rfl rfl h9 ?_
                    refine o_call (m17 _ _ _) goes17 (ac (v_raw rfl) (ac (v_raw rfl) ac_nil)) rfl ?_
                    refine o_nil ⟨(by simp [Mem.upd, *]), ?_⟩
                    refine d_yes rfl (q_bin' rfl rfl (binEqM _ _ _ _)) rfl rfl rfl h9 rfl rfl ?_
                    refine d_q rfl (q_pick_c rfl h9 (v_raw rfl)) rfl rfl rfl ?_
                    refine d_q rfl (q_mv (v_raw rfl)) rfl rfl rfl ?_
                    refine d_cases (want := true) (j := 25) rfl rfl (fun h10 => ?_) (fun h10 => ?_)
                    · have k10 := h10; try simp only [decide_eq_true_eq, decide_eq_false_iff_not, Bool.not_eq_true', Bool.not_eq_false', Bool.not_true, Bool.not_false, List.length_map, Decidable.not_not] at k10
                      refine d_yes rfl (q_mv ((by first | exact v_raw rfl | exact v_sptr rfl))) rfl rfl rfl h10 rfl rfl ?_
                      refine d_s rfl ?_
                      refine o_yes rfl rfl rfl h10 ?_
                      refine o_call (m17 _ _ _) goes17 (ac (v_raw rfl) (ac (v_raw rfl) ac_nil)) rfl ?_
                      refine o_nil ⟨(by simp [Mem.upd, *]), ?_⟩
                      refine d_s rfl ?_
                      refine o_yes rfl rfl rfl h10 ?_
                      refine o_callx (hear11 s c ⟨0, 1⟩ f2 5 ⟨1, 1⟩ _ hs' hc' hsc (by omega) (f2_ok 5 (by omega))) goes11 (ac ((by first | exact v_raw rfl | exact v_sptr rfl)) (ac (v_agg rfl) ac_nil)) rfl ?_
                      rintro r M' ⟨rfl, rfl⟩
                      refine o_nil ⟨(by simp [Mem.upd, *]), ?_⟩
                      refine d_yes rfl (q_not rfl) rfl rfl rfl h10 rfl rfl ?_
                      refine d_q rfl (q_pick_c rfl h10 (v_raw rfl)) rfl rfl rfl ?_
                      refine d_q rfl (q_as (v_raw rfl)) rfl rfl rfl ?_
                      refine d_nil ?_
                      refine s_ret ?_
                      refine s_end ?_
                      exact ⟨congrArg (fun b => AVal.raw (.bool b)) (by decide), Mem.le_upd hle hsn⟩
                    · have k10 := h10; try simp only [decide_eq_true_eq, decide_eq_false_iff_not, Bool.not_eq_true', Bool.not_eq_false', Bool.not_true, Bool.not_false, List.length_map, Decidable.not_not] at k10
                      first | exact absurd h10 (by decide) | (simp at h10; done) | (simp at h10; omega)
                  · have k9 := h9; try simp only [decide_eq_true_eq, decide_eq_false_iff_not, Bool.not_eq_true', Bool.not_eq_false', Bool.not_true, Bool.not_false, List.length_map, Decidable.not_not] at k9
                    first | exact absurd h9 (by decide) | (simp at h9; done) | (simp at h9; omega)
                · have k8 := h8; try simp only [decide_eq_true_eq, decide_eq_false_iff_not, Bool.not_eq_true', Bool.not_eq_false', Bool.not_true, Bool.not_false, List.length_map, Decidable.not_not] at k8
                  first | exact absurd h8 (by decide) | (simp at h8; done) | (simp at h8; omega)
              · have k7 := h7; try simp only [decide_eq_true_eq, decide_eq_false_iff_not, Bool.not_eq_true', Bool.not_eq_false', Bool.not_true, Bool.not_false, List.length_map, Decidable.not_not] at k7
                first | exact absurd h7 (by decide) | (simp at h7; done) | (simp at h7; omega)
            · have k6 := h6; try simp only [decide_eq_true_eq, decide_eq_false_iff_not, Bool.not_eq_true', Bool.not_eq_false', Bool.not_true, Bool.not_false, List.length_map, Decidable.not_not] at k6
              first | exact absurd h6 (by decide) | (simp at h6; done) | (simp at h6; omega)
        · have k4 := h4; try simp only [decide_eq_true_eq, decide_eq_false_iff_not, Bool.not_eq_true', Bool.not_eq_false', Bool.not_true, Bool.not_false, List.length_map, Decidable.not_not] at k4
          first | exact absurd h4 (by decide) | (simp at h4; done) | (simp at h4; omega)
    · have k2 := h2; try simp only [decide_eq_true_eq, decide_eq_false_iff_not, Bool.not_eq_true', Bool.not_eq_false', Bool.not_true, Bool.not_false, List.length_map, Decidable.not_not] at k2
      first | exact absurd h2 (by decide) | (simp at h2; done) | (simp at h2; omega)
  · have k1 := h1; try simp only [decide_eq_true_eq, decide_eq_false_iff_not, Bool.not_eq_true', Bool.not_eq_false', Bool.not_true, Bool.not_false, List.length_map, Decidable.not_not] at k1
    first | exact absurd h1 (by decide) | (simp at h1; done) | (simp at h1; omega)

def tk3 : Nat → Nat → Option Nat := fun _ _ => none
def pl3 : Nat → List PStep
  | 15 => [.q 0, .q 1, .q 2, .q 4, .q 5, .q 6, .s 3 [6, 5, 4, 1], .s 7 [5, 2, 1, 0], .q 8]
  | 19 => [.q 0, .q 1, .q 2, .q 3, .q 4, .q 5, .q 6, .q 7, .q 8, .q 10, .q 11, .q 12, .s 9 [12, 11, 10, 7, 4, 3, 2, 1, 0], .s 13 [11, 8, 7, 6, 4, 3, 2, 1, 0], .q 14, .q 15]
  | 24 => [.q 0, .q 1, .q 2, .q 3, .q 4, .q 5, .q 6, .q 7, .q 8]
  | _ => []
theorem cb3 : Try.f3.body.map (codeB Try.prog Try.f3.ntmps tk3 pl3) = some true := by kernel_rfl
theorem goes3 : goesB Try.prog 3 = true := by kernel_rfl
-- carillon/carillonlaw13.SuspectPlays params ['api.Member', '[]carillonlaw13.Deed'] results [['t', 4]] own [] names ['0:self', '1:deeds', '2:self', '3:deeds', '5:head', '6:s', '7:e', '8:x', '9:i', '10:d', '11:a', '12:b', '13:k'] calls [6, 7, 8] paths 1

structure Dd where
  tick : Bool
  m : Mb
  deriving Inhabited
def encD (d : Dd) : AVal := .agg [.raw (.bool d.tick), int d.m.node, int d.m.life]
/-- All that both have in memory. -/
structure Both (me : Mb) (s c x lb wb : Nat) (f : Nat → Int × Int) (now : Int) (M : Mem) : Prop where
  at_s : M s = some (.cells (sus me f c))
  at_c : M c = some (.cells [int now])
  at_x : M x = some (.cells (ref me lb wb now))
  at_lb : M lb = some (.cells (row7 fun i => (f i).1))
  at_wb : M wb = some (.cells (row7 fun i => (f i).2))
  ok : ∀ i, 0 ≤ (f i).2 ∧ (f i).2 ≤ now
  pos : 0 ≤ now
theorem snd3a (self : Mb) (deeds : List Dd) (o : Bool) (M : Mem) (hr : right self = false) : SoundCall Try.prog 3 [encM self, .sl (deeds.map encD) o] M fun r M' => r = .raw (.bool true) ∧ M.le M' := by
  refine SoundCall.go tk3 pl3 mixed Try.func3 cb3 rfl (Nat.le_of_ble_eq_true rfl) ?_
  refine s_seq ?_
  refine s_region ?_
  refine o_box (by first | exact e_raw rfl | exact e_agg rfl | exact e_sl rfl) rfl rfl (fun B1 hB1 => ?_)
  refine o_q (q_as (v_raw rfl)) rfl rfl rfl ?_
  refine o_nil ?_
  refine s_seq ?_
  refine s_region ?_
  refine o_call ((snd6 _).det) goes6 ac_nil rfl ?_
  refine o_q (q_as (v_raw rfl)) rfl rfl rfl ?_
  refine o_nil ?_
  refine s_seq ?_
  refine s_region ?_
  refine o_q (q_ldmw ag23 sz23 rfl (by repeat first | exact Mem.upd_self _ _ _ | assumption | refine Mem.upd_ne (by assumption) ?_) rfl rfl) rfl rfl rfl ?_
  refine o_call (new7n self _ hr) goes7 (ac (v_agg rfl) ac_nil) rfl ?_
  refine o_q (q_mv (v_tup rfl)) rfl rfl rfl ?_
  refine o_q (q_ext rfl rfl ((by first | exact v_raw rfl | exact v_sptr rfl))) rfl rfl rfl ?_
  refine o_q (q_ext rfl rfl (v_raw rfl)) rfl rfl rfl ?_
  refine o_q (q_as ((by first | exact v_raw rfl | exact v_sptr rfl))) rfl rfl rfl ?_
  refine o_q (q_as (v_raw rfl)) rfl rfl rfl ?_
  refine o_nil ?_
  refine s_seq ?_
  refine s_region ?_
  refine o_q (q_ldmw ag23 sz23 rfl (by repeat first | exact Mem.upd_self _ _ _ | assumption | refine Mem.upd_ne (by assumption) ?_) rfl rfl) rfl rfl rfl ?_
  refine o_call (new8n self _ hr) goes8 (ac (v_agg rfl) ac_nil) rfl ?_
  refine o_q (q_as ((by first | exact v_raw rfl | exact v_sptr rfl))) rfl rfl rfl ?_
  refine o_nil ?_
  refine s_seq ?_
  refine s_seq ?_
  refine s_region ?_
  refine o_q (q_mv ((by first | exact v_raw rfl | exact v_sptr rfl))) rfl rfl rfl ?_
  refine o_q (q_peql und30 rfl rfl) rfl rfl rfl ?_
  refine o_nil ?_
  refine s_cond rfl (fun h1 => ?_) (fun h1 => ?_)
  · have k1 := h1; try simp only [decide_eq_true_eq, decide_eq_false_iff_not, Bool.not_eq_true', Bool.not_eq_false', Bool.not_true, Bool.not_false, List.length_map, Decidable.not_not] at k1
    refine s_seq ?_
    refine s_region ?_
    refine o_q (q_mv (v_raw rfl)) rfl rfl rfl ?_
    refine o_q (q_mv (v_raw rfl)) rfl rfl rfl ?_
    refine o_cases (want := true) (j := 1) rfl rfl (fun h2 => ?_) (fun h2 => ?_)
    · have k2 := h2; try simp only [decide_eq_true_eq, decide_eq_false_iff_not, Bool.not_eq_true', Bool.not_eq_false', Bool.not_true, Bool.not_false, List.length_map, Decidable.not_not] at k2
      refine o_yes rfl rfl rfl h2 ?_
      refine o_q (q_mv ((by first | exact v_raw rfl | exact v_sptr rfl))) rfl rfl rfl ?_
      refine o_yes rfl rfl rfl h2 ?_
      refine o_q (q_peql und26 rfl rfl) rfl rfl rfl ?_
      refine o_q (q_pick_c rfl h2 (v_raw rfl)) rfl rfl rfl ?_
      refine o_q (q_mv (v_raw rfl)) rfl rfl rfl ?_
      refine o_cases (want := true) (j := 5) rfl rfl (fun h3 => ?_) (fun h3 => ?_)
      · have k3 := h3; try simp only [decide_eq_true_eq, decide_eq_false_iff_not, Bool.not_eq_true', Bool.not_eq_false', Bool.not_true, Bool.not_false, List.length_map, Decidable.not_not] at k3
        refine o_yes rfl rfl rfl h3 ?_
        refine o_q (q_mv (v_raw rfl)) rfl rfl rfl ?_
        refine o_yes rfl rfl rfl h3 ?_
        refine o_q (q_eql rfl rfl) rfl rfl rfl ?_
        refine o_q (q_pick_c rfl h3 (v_raw rfl)) rfl rfl rfl ?_
        refine o_q (q_as (v_raw rfl)) rfl rfl rfl ?_
        refine o_nil ?_
        refine s_ret ?_
        refine s_code_ret ?_
        refine s_end ?_
        exact ⟨rfl, Mem.le_upd (Mem.le_refl M) hB1⟩
      · have k3 := h3; try simp only [decide_eq_true_eq, decide_eq_false_iff_not, Bool.not_eq_true', Bool.not_eq_false', Bool.not_true, Bool.not_false, List.length_map, Decidable.not_not] at k3
        first | exact absurd h3 (by decide) | (simp at h3; done) | (simp at h3; omega)
    · have k2 := h2; try simp only [decide_eq_true_eq, decide_eq_false_iff_not, Bool.not_eq_true', Bool.not_eq_false', Bool.not_true, Bool.not_false, List.length_map, Decidable.not_not] at k2
      first | exact absurd h2 (by decide) | (simp at h2; done) | (simp at h2; omega)
  · have k1 := h1; try simp only [decide_eq_true_eq, decide_eq_false_iff_not, Bool.not_eq_true', Bool.not_eq_false', Bool.not_true, Bool.not_false, List.length_map, Decidable.not_not] at k1
    first | exact absurd h1 (by decide) | (simp at h1; done) | (simp at h1; omega)

-- carillon/carillonlaw13.SuspectPlays params ['api.Member', '[]carillonlaw13.Deed'] results [['t', 4]] own [] names ['0:self', '1:deeds', '2:self', '3:deeds', '5:head', '6:s', '7:e', '8:x', '9:i', '10:d', '11:a', '12:b', '13:k'] calls [6, 7, 8, 9, 10, 11, 12, 13, 14, 15, 16] paths 6
set_option maxRecDepth 20000 in
theorem snd3b (self : Mb) (deeds : List Dd) (o : Bool) (M : Mem) (hr : right self = true) (hl : deeds.length < 2 ^ 47) : SoundCall Try.prog 3 [encM self, .sl (deeds.map encD) o] M fun r M' => r = .raw (.bool true) ∧ M.le M' := by
  refine SoundCall.go tk3 pl3 mixed Try.func3 cb3 rfl (Nat.le_of_ble_eq_true rfl) ?_
  refine s_seq ?_
  refine s_region ?_
  refine o_box (by first | exact e_raw rfl | exact e_agg rfl | exact e_sl rfl) rfl rfl (fun B1 hB1 => ?_)
  refine o_q (q_as (v_raw rfl)) rfl rfl rfl ?_
  refine o_nil ?_
  refine s_seq ?_
  refine s_region ?_
  refine o_call ((snd6 _).det) goes6 ac_nil rfl ?_
  refine o_q (q_as (v_raw rfl)) rfl rfl rfl ?_
  refine o_nil ?_
  refine s_seq ?_
  refine s_region ?_
  refine o_q (q_ldmw ag23 sz23 rfl (by repeat first | exact Mem.upd_self _ _ _ | assumption | refine Mem.upd_ne (by assumption) ?_) rfl rfl) rfl rfl rfl ?_
  refine o_callx (new7 self _ hr) goes7 (ac (v_agg rfl) ac_nil) rfl ?_
  rintro r M' ⟨s, c, hsn, hcn, sc, rfl, rfl⟩
  have f1s : B1 ≠ s := Mem.fresh_ne hsn (Mem.upd_self _ _ _)
  have f1c : B1 ≠ c := Mem.fresh_ne hcn (Mem.upd_self _ _ _)
  have ms := (Mem.upd_none hsn).2
  have mc := (Mem.upd_none hcn).2
  refine o_q (q_mv (v_tup rfl)) rfl rfl rfl ?_
  refine o_q (q_ext rfl rfl ((by first | exact v_raw rfl | exact v_sptr rfl))) rfl rfl rfl ?_
  refine o_q (q_ext rfl rfl (v_raw rfl)) rfl rfl rfl ?_
  refine o_q (q_as ((by first | exact v_raw rfl | exact v_sptr rfl))) rfl rfl rfl ?_
  refine o_q (q_as (v_raw rfl)) rfl rfl rfl ?_
  refine o_nil ?_
  refine s_seq ?_
  refine s_region ?_
  refine o_q (q_ldmw ag23 sz23 rfl (by repeat first | exact Mem.upd_self _ _ _ | assumption | refine Mem.upd_ne (by assumption) ?_) rfl rfl) rfl rfl rfl ?_
  refine o_callx (new8 self _ hr) goes8 (ac (v_agg rfl) ac_nil) rfl ?_
  rintro r M' ⟨x, lb, wb, hxn, hln, hwn, d1, d2, d3, rfl, rfl⟩
  have xs := (Mem.upd_none hxn).1
  have xc := (Mem.upd_none (Mem.upd_none hxn).2).1
  have ls := (Mem.upd_none hln).1
  have lc := (Mem.upd_none (Mem.upd_none hln).2).1
  have ws := (Mem.upd_none hwn).1
  have wc := (Mem.upd_none (Mem.upd_none hwn).2).1
  have mx := (Mem.upd_none (Mem.upd_none (Mem.upd_none hxn).2).2).2
  have ml := (Mem.upd_none (Mem.upd_none (Mem.upd_none hln).2).2).2
  have mw := (Mem.upd_none (Mem.upd_none (Mem.upd_none hwn).2).2).2
  have sc' := sc.symm
  have xs' := xs.symm
  have xc' := xc.symm
  have ls' := ls.symm
  have lc' := lc.symm
  have ws' := ws.symm
  have wc' := wc.symm
  have d1' := d1.symm
  have d2' := d2.symm
  have d3' := d3.symm
  refine o_q (q_as ((by first | exact v_raw rfl | exact v_sptr rfl))) rfl rfl rfl ?_
  refine o_nil ?_
  refine s_seq ?_
  refine s_seq ?_
  refine s_region ?_
  refine o_q (q_mv ((by first | exact v_raw rfl | exact v_sptr rfl))) rfl rfl rfl ?_
  refine o_q (q_peql und30 rfl rfl) rfl rfl rfl ?_
  refine o_nil ?_
  refine s_cond rfl (fun h1 => ?_) (fun h1 => ?_)
  · have k1 := h1; try simp only [decide_eq_true_eq, decide_eq_false_iff_not, Bool.not_eq_true', Bool.not_eq_false', Bool.not_true, Bool.not_false, List.length_map, Decidable.not_not] at k1
    first | exact absurd h1 (by decide) | (simp at h1; done) | (simp at h1; omega)
  · have k1 := h1; try simp only [decide_eq_true_eq, decide_eq_false_iff_not, Bool.not_eq_true', Bool.not_eq_false', Bool.not_true, Bool.not_false, List.length_map, Decidable.not_not] at k1
    refine s_skip ?_
    refine s_seq ?_
    refine s_seq ?_
    refine s_region ?_
    refine o_q (q_mv ((by first | exact v_raw rfl | exact v_sptr rfl))) rfl rfl rfl ?_
    refine o_q (q_peql und26 rfl rfl) rfl rfl rfl ?_
    refine o_q (q_mv (v_raw rfl)) rfl rfl rfl ?_
    refine o_cases (want := false) (j := 2) rfl rfl (fun h2 => ?_) (fun h2 => ?_)
    · have k2 := h2; try simp only [decide_eq_true_eq, decide_eq_false_iff_not, Bool.not_eq_true', Bool.not_eq_false', Bool.not_true, Bool.not_false, List.length_map, Decidable.not_not] at k2
      refine o_yes rfl rfl rfl h2 ?_
      refine o_q (q_mv (v_raw rfl)) rfl rfl rfl ?_
      refine o_yes rfl rfl rfl h2 ?_
      refine o_q (q_neq rfl rfl) rfl rfl rfl ?_
      refine o_q (q_pick_c rfl h2 (v_raw rfl)) rfl rfl rfl ?_
      refine o_nil ?_
      refine s_cond rfl (fun h3 => ?_) (fun h3 => ?_)
      · have k3 := h3; try simp only [decide_eq_true_eq, decide_eq_false_iff_not, Bool.not_eq_true', Bool.not_eq_false', Bool.not_true, Bool.not_false, List.length_map, Decidable.not_not] at k3
        first | exact absurd h3 (by decide) | (simp at h3; done) | (simp at h3; omega)
      · have k3 := h3; try simp only [decide_eq_true_eq, decide_eq_false_iff_not, Bool.not_eq_true', Bool.not_eq_false', Bool.not_true, Bool.not_false, List.length_map, Decidable.not_not] at k3
        refine s_skip ?_
        refine s_seq ?_
        refine s_seq ?_
        refine s_region ?_
        refine o_q (q_as (v_raw rfl)) rfl rfl rfl ?_
        refine o_nil ?_
        refine s_block ?_
        refine s_loop (fun m S => ∃ T, ∃ M' : Mem, ∃ f now, ∃ i : Nat, S = ⟨setT (setT (setT (setT (setT T 1 (.sl (deeds.map encD) o)) 5 (.raw (.bool true))) 6 (ptr s)) 8 (ptr x)) 9 (int i), M'⟩ ∧ M.le M' ∧ Both self s c x lb wb f now M' ∧ now ≤ i ∧ i ≤ deeds.length ∧ m = deeds.length - i) deeds.length ?_ ?_
        · exact ⟨_, _, fun _ => (0, 0), 0, 0, St.mkT (kp (kp (kp (kp (kp rfl rfl) rfl) rfl) rfl) rfl).symm, (by repeat first | exact Mem.le_refl M | assumption | refine Mem.le_upd ?_ ?_), ⟨(by repeat first | exact Mem.upd_self _ _ _ | assumption | refine Mem.upd_ne (by assumption) ?_), (by repeat first | exact Mem.upd_self _ _ _ | assumption | refine Mem.upd_ne (by assumption) ?_), (by repeat first | exact Mem.upd_self _ _ _ | assumption | refine Mem.upd_ne (by assumption) ?_), (by repeat first | exact Mem.upd_self _ _ _ | assumption | refine Mem.upd_ne (by assumption) ?_), (by repeat first | exact Mem.upd_self _ _ _ | assumption | refine Mem.upd_ne (by assumption) ?_), f0_ok 0 (Int.le_refl _), Int.le_refl _⟩, by omega, by omega, rfl⟩
        rintro m S ⟨T, M', f, now, i, rfl, hle, hb, hni, hi, rfl⟩
        have bs := hb.at_s
        have bc := hb.at_c
        have bx := hb.at_x
        have bl := hb.at_lb
        have bw := hb.at_wb
        have bn := hb.pos
        refine s_seq ?_
        refine s_seq ?_
        refine s_region ?_
        refine o_q (q_mv (v_raw rfl)) rfl rfl rfl ?_
        refine o_q (q_mv (v_sl rfl)) rfl rfl rfl ?_
        refine o_q (q_len rfl und24 rfl) rfl rfl rfl ?_
        refine o_q (q_lss rfl rfl) rfl rfl rfl ?_
        refine o_q (q_mv (v_raw rfl)) rfl rfl rfl ?_
        refine o_cases (want := true) (j := 4) rfl rfl (fun h4 => ?_) (fun h4 => ?_)
        · have k4 := h4; try simp only [decide_eq_true_eq, decide_eq_false_iff_not, Bool.not_eq_true', Bool.not_eq_false', Bool.not_true, Bool.not_false, List.length_map, Decidable.not_not] at k4
          refine o_yes rfl rfl rfl h4 ?_
          refine o_q (q_mv (v_raw rfl)) rfl rfl rfl ?_
          refine o_yes rfl rfl rfl h4 ?_
          refine o_q (q_lss rfl rfl) rfl rfl rfl ?_
          refine o_q (q_pick_c rfl h4 (v_raw rfl)) rfl rfl rfl ?_
          refine o_nil ?_
          refine s_cond rfl (fun h5 => ?_) (fun h5 => ?_)
          · have k5 := h5; try simp only [decide_eq_true_eq, decide_eq_false_iff_not, Bool.not_eq_true', Bool.not_eq_false', Bool.not_true, Bool.not_false, List.length_map, Decidable.not_not] at k5
            refine s_skip ?_
            refine s_seq ?_
            refine s_block ?_
            refine s_seq ?_
            refine s_region ?_
            refine o_q (q_mv (v_sl rfl)) rfl rfl rfl ?_
            refine o_q (q_mv (v_raw rfl)) rfl rfl rfl ?_
            refine o_q (q_idx und24 sz33 rfl rfl (by omega) (gm i (by first | omega | simp)) rfl) rfl rfl rfl ?_
            refine o_q (q_lde ag33 sz33 rfl (gm i (by first | omega | simp)) rfl rfl) rfl rfl rfl ?_
            refine o_alloc zc33 (fun B2 hB2 => ?_)
            have ns : s ≠ B2 := Mem.fresh_ne hB2 bs
            have ns' := ns.symm
            have nc : c ≠ B2 := Mem.fresh_ne hB2 bc
            have nc' := nc.symm
            have nx : x ≠ B2 := Mem.fresh_ne hB2 bx
            have nx' := nx.symm
            have nlb : lb ≠ B2 := Mem.fresh_ne hB2 bl
            have nlb' := nlb.symm
            have nwb : wb ≠ B2 := Mem.fresh_ne hB2 bw
            have nwb' := nwb.symm
            refine o_storew rfl (by repeat first | exact Mem.upd_self _ _ _ | assumption | refine Mem.upd_ne (by assumption) ?_) (by first | exact e_agg rfl | rfl) rfl sz33 rfl rfl rfl rfl ?_
            refine o_nil ?_
            refine s_seq ?_
            refine s_seq ?_
            refine s_region ?_
            refine o_q (q_fr fo33_0 rfl) rfl rfl rfl ?_
            refine o_q (q_ldm ag4 sz4 rfl (by repeat first | exact Mem.upd_self _ _ _ | assumption | refine Mem.upd_ne (by assumption) ?_) rfl (v_raw rfl)) rfl rfl rfl ?_
            refine o_nil ?_
            refine s_cut (fun S => ∃ T, ∃ M'' : Mem, ∃ f now, ∃ h : i < deeds.length, S = ⟨setT (setT (setT (setT (setT (setT T 1 (.sl (deeds.map encD) o)) 5 (.raw (.bool true))) 6 (ptr s)) 8 (ptr x)) 9 (int i)) 10 (ptr B2), M''⟩ ∧ M.le M'' ∧ Both self s c x lb wb f now M'' ∧ M'' B2 = some (.cells (encD deeds[i]).cells) ∧ now ≤ i + 1) ?_ ?_
            · skip
              refine s_cond rfl (fun h6 => ?_) (fun h6 => ?_)
              · have k6 := h6; try simp only [decide_eq_true_eq, decide_eq_false_iff_not, Bool.not_eq_true', Bool.not_eq_false', Bool.not_true, Bool.not_false, List.length_map, Decidable.not_not] at k6
                refine s_seq ?_
                refine s_region ?_
                refine o_q (q_mv ((by first | exact v_raw rfl | exact v_sptr rfl))) rfl rfl rfl ?_
                refine o_callx (snd9 s c self f now _ (by repeat first | exact Mem.upd_self _ _ _ | assumption | refine Mem.upd_ne (by assumption) ?_) (by repeat first | exact Mem.upd_self _ _ _ | assumption | refine Mem.upd_ne (by assumption) ?_) (by omega)) goes9 (ac ((by first | exact v_raw rfl | exact v_sptr rfl)) ac_nil) rfl ?_
                rintro r M' ⟨rfl, rfl⟩
                refine o_nil ?_
                refine s_region ?_
                refine o_q (q_mv ((by first | exact v_raw rfl | exact v_sptr rfl))) rfl rfl rfl ?_
                refine o_callx (snd10 x lb wb self now _ (by repeat first | exact Mem.upd_self _ _ _ | assumption | refine Mem.upd_ne (by assumption) ?_) (by omega)) goes10 (ac ((by first | exact v_raw rfl | exact v_sptr rfl)) ac_nil) rfl ?_
                rintro r M' ⟨rfl, rfl⟩
                refine o_nil ?_
                refine s_inv ?_
                exact ⟨_, _, f, now + 1, by omega, St.mkT (kp (kp (kp (kp (kp (kp rfl rfl) rfl) rfl) rfl) rfl) rfl).symm, (by repeat first | exact hle | assumption | exact Mem.none_of_le hle hB2 | refine Mem.le_upd ?_ ?_), ⟨(by repeat first | exact Mem.upd_self _ _ _ | assumption | refine Mem.upd_ne (by assumption) ?_), (by repeat first | exact Mem.upd_self _ _ _ | assumption | refine Mem.upd_ne (by assumption) ?_), (by repeat first | exact Mem.upd_self _ _ _ | assumption | refine Mem.upd_ne (by assumption) ?_), (by repeat first | exact Mem.upd_self _ _ _ | assumption | refine Mem.upd_ne (by assumption) ?_), (by repeat first | exact Mem.upd_self _ _ _ | assumption | refine Mem.upd_ne (by assumption) ?_), fun i => ⟨(hb.ok i).1, by have := (hb.ok i).2; omega⟩, by omega⟩, (by repeat first | exact Mem.upd_self _ _ _ | assumption | refine Mem.upd_ne (by assumption) ?_), by omega⟩
              · have k6 := h6; try simp only [decide_eq_true_eq, decide_eq_false_iff_not, Bool.not_eq_true', Bool.not_eq_false', Bool.not_true, Bool.not_false, List.length_map, Decidable.not_not] at k6
                refine s_seq ?_
                refine s_draw rfl ?_
                refine d_q rfl (q_mv ((by first | exact v_raw rfl | exact v_sptr rfl))) rfl rfl rfl ?_
                refine d_q rfl (q_fr fo33_1 rfl) rfl rfl rfl ?_
                refine d_q rfl (q_ldm ag23 sz23 rfl (by repeat first | exact Mem.upd_self _ _ _ | assumption | refine Mem.upd_ne (by assumption) ?_) rfl (v_agg rfl)) rfl rfl rfl ?_
                refine d_q rfl (q_mv ((by first | exact v_raw rfl | exact v_sptr rfl))) rfl rfl rfl ?_
                refine d_q rfl (q_fr fo33_1 rfl) rfl rfl rfl ?_
                refine d_q rfl (q_ldm ag23 sz23 rfl (by repeat first | exact Mem.upd_self _ _ _ | assumption | refine Mem.upd_ne (by assumption) ?_) rfl (v_agg rfl)) rfl rfl rfl ?_
                refine d_s rfl ?_
                refine o_callx (hear11 s c self f now deeds[i].m _ (by repeat first | exact Mem.upd_self _ _ _ | assumption | refine Mem.upd_ne (by assumption) ?_) (by repeat first | exact Mem.upd_self _ _ _ | assumption | refine Mem.upd_ne (by assumption) ?_) sc (by omega) hb.ok) goes11 (ac ((by first | exact v_raw rfl | exact v_sptr rfl)) (ac (v_agg rfl) ac_nil)) rfl ?_
                rintro r M' ⟨rfl, rfl⟩
                refine o_nil ⟨(by simp [Mem.upd, *]), ?_⟩
                refine d_s rfl ?_
                refine o_callx (hear12 x lb wb self f now deeds[i].m _ (by repeat first | exact Mem.upd_self _ _ _ | assumption | refine Mem.upd_ne (by assumption) ?_) (by repeat first | exact Mem.upd_self _ _ _ | assumption | refine Mem.upd_ne (by assumption) ?_) (by repeat first | exact Mem.upd_self _ _ _ | assumption | refine Mem.upd_ne (by assumption) ?_) d1 d2 d3 (by omega) hb.ok hr) goes12 (ac ((by first | exact v_raw rfl | exact v_sptr rfl)) (ac (v_agg rfl) ac_nil)) rfl ?_
                rintro r M' ⟨rfl, rfl⟩
                refine o_nil ⟨(by simp [Mem.upd, *]), ?_⟩
                refine d_q rfl (q_bneq und4 rfl rfl) rfl rfl rfl ?_
                refine d_nil ?_
                refine s_cond rfl (fun h7 => ?_) (fun h7 => ?_)
                · have k7 := h7; try simp only [decide_eq_true_eq, decide_eq_false_iff_not, Bool.not_eq_true', Bool.not_eq_false', Bool.not_true, Bool.not_false, List.length_map, Decidable.not_not] at k7
                  first | exact absurd h7 (by decide) | (simp at h7; done) | (simp at h7; omega)
                · have k7 := h7; try simp only [decide_eq_true_eq, decide_eq_false_iff_not, Bool.not_eq_true', Bool.not_eq_false', Bool.not_true, Bool.not_false, List.length_map, Decidable.not_not] at k7
                  refine s_skip ?_
                  refine s_inv ?_
                  exact ⟨_, _, heardF self f now deeds[i].m, now, by omega, St.mkT (kp (kp (kp (kp (kp (kp rfl rfl) rfl) rfl) rfl) rfl) rfl).symm, (by repeat first | exact hle | assumption | exact Mem.none_of_le hle hB2 | refine Mem.le_upd ?_ ?_), ⟨(by repeat first | exact Mem.upd_self _ _ _ | assumption | refine Mem.upd_ne (by assumption) ?_), (by repeat first | exact Mem.upd_self _ _ _ | assumption | refine Mem.upd_ne (by assumption) ?_), (by repeat first | exact Mem.upd_self _ _ _ | assumption | refine Mem.upd_ne (by assumption) ?_), (by repeat first | exact Mem.upd_self _ _ _ | assumption | refine Mem.upd_ne (by assumption) ?_), (by repeat first | exact Mem.upd_self _ _ _ | assumption | refine Mem.upd_ne (by assumption) ?_), heardF_ok hb.pos hb.ok, hb.pos⟩, (by repeat first | exact Mem.upd_self _ _ _ | assumption | refine Mem.upd_ne (by assumption) ?_), by omega⟩
            rintro S ⟨T, M'', f, now, hil, rfl, hle', hb', hB, hni'⟩
            have bs' := hb'.at_s
            have bc' := hb'.at_c
            have bx' := hb'.at_x
            have bl' := hb'.at_lb
            have bw' := hb'.at_wb
            have bn' := hb'.pos
            refine s_seq ?_
            refine s_region ?_
            refine o_q (q_mv ((by first | exact v_raw rfl | exact v_sptr rfl))) rfl rfl rfl ?_
            refine o_call ((snd13 s c self f now _ bs' bc' sc (by omega) hb'.ok).det) goes13 (ac ((by first | exact v_raw rfl | exact v_sptr rfl)) ac_nil) rfl ?_
            refine o_q (q_as (v_sl rfl)) rfl rfl rfl ?_
            refine o_nil ?_
            refine s_seq ?_
            refine s_region ?_
            refine o_q (q_mv ((by first | exact v_raw rfl | exact v_sptr rfl))) rfl rfl rfl ?_
            refine o_call ((snd14 x lb wb self f now _ bx' bl' bw' d1 d2 d3 (by omega) hb'.ok hr).det) goes14 (ac ((by first | exact v_raw rfl | exact v_sptr rfl)) ac_nil) rfl ?_
            refine o_q (q_as (v_sl rfl)) rfl rfl rfl ?_
            refine o_nil ?_
            refine s_seq ?_
            refine s_seq ?_
            refine s_draw rfl ?_
            refine d_q rfl (q_mv (v_sl rfl)) rfl rfl rfl ?_
            refine d_q rfl (q_len rfl und35 rfl) rfl rfl rfl ?_
            refine d_q rfl (q_mv (v_sl rfl)) rfl rfl rfl ?_
            refine d_q rfl (q_len rfl und35 rfl) rfl rfl rfl ?_
            refine d_q rfl (q_neq rfl rfl) rfl rfl rfl ?_
            refine d_q rfl (q_mv (v_raw rfl)) rfl rfl rfl ?_
            refine d_cases (want := false) (j := 5) rfl rfl (fun h8 => ?_) (fun h8 => ?_)
            · have k8 := h8; try simp only [decide_eq_true_eq, decide_eq_false_iff_not, Bool.not_eq_true', Bool.not_eq_false', Bool.not_true, Bool.not_false, List.length_map, Decidable.not_not] at k8
              refine d_yes rfl (q_mv ((by first | exact v_raw rfl | exact v_sptr rfl))) rfl rfl rfl h8 rfl rfl ?_
              refine d_yes rfl (q_fr fo33_1 rfl) rfl rfl rfl h8 rfl rfl ?_
              refine d_yes rfl (q_ldm ag23 sz23 rfl (by repeat first | exact Mem.upd_self _ _ _ | assumption | refine Mem.upd_ne (by assumption) ?_) rfl (v_agg rfl)) rfl rfl rfl h8 rfl rfl ?_
              refine d_yes rfl (q_mv ((by first | exact v_raw rfl | exact v_sptr rfl))) rfl rfl rfl h8 rfl rfl ?_
              refine d_yes rfl (q_fr fo33_1 rfl) rfl rfl rfl h8 rfl rfl ?_
              refine d_yes rfl (q_ldm ag23 sz23 rfl (by repeat first | exact Mem.upd_self _ _ _ | assumption | refine Mem.upd_ne (by assumption) ?_) rfl (v_agg rfl)) rfl rfl rfl h8 rfl rfl ?_
              refine d_s rfl ?_
              refine o_yes rfl rfl rfl h8 ?_
              refine o_call ((snd15 s c self f now deeds[i].m _ bs' bc' sc (by omega) hb'.ok).det) goes15 (ac ((by first | exact v_raw rfl | exact v_sptr rfl)) (ac (v_agg rfl) ac_nil)) rfl ?_
              refine o_nil ⟨(by simp [Mem.upd, *]), ?_⟩
              refine d_s rfl ?_
              refine o_yes rfl rfl rfl h8 ?_
              refine o_call ((snd16 x lb wb self f now deeds[i].m _ bx' bl' bw' d1 d2 d3 (by omega) hb'.ok hr).det) goes16 (ac ((by first | exact v_raw rfl | exact v_sptr rfl)) (ac (v_agg rfl) ac_nil)) rfl ?_
              refine o_nil ⟨(by simp [Mem.upd, *]), ?_⟩
              refine d_yes rfl (q_bneq und4 rfl rfl) rfl rfl rfl h8 rfl rfl ?_
              refine d_q rfl (q_pick_c rfl h8 (v_raw rfl)) rfl rfl rfl ?_
              refine d_nil ?_
              refine s_cond rfl (fun h9 => ?_) (fun h9 => ?_)
              · have k9 := h9; try simp only [decide_eq_true_eq, decide_eq_false_iff_not, Bool.not_eq_true', Bool.not_eq_false', Bool.not_true, Bool.not_false, List.length_map, Decidable.not_not] at k9
                first | exact absurd h9 (by decide) | (simp at h9; done) | (simp at h9; omega)
              · have k9 := h9; try simp only [decide_eq_true_eq, decide_eq_false_iff_not, Bool.not_eq_true', Bool.not_eq_false', Bool.not_true, Bool.not_false, List.length_map, Decidable.not_not] at k9
                refine s_skip ?_
                refine s_seq ?_
                refine s_region ?_
                refine o_q (q_as (v_raw rfl)) rfl rfl rfl ?_
                refine o_nil ?_
                refine s_block ?_
                refine s_loop (fun m S => ∃ T, ∃ k : Nat, S = ⟨setT (setT (setT (setT (setT (setT (setT (setT (setT T 1 (.sl (deeds.map encD) o)) 5 (.raw (.bool true))) 6 (ptr s)) 8 (ptr x)) 9 (int i)) 10 (ptr B2)) 11 (.sl ((aliveN self f now 7).map encM) false)) 12 (.sl ((aliveN self f now 7).map encM) false)) 13 (int k), M''⟩ ∧ k ≤ (aliveN self f now 7).length ∧ m = (aliveN self f now 7).length - k) (aliveN self f now 7).length ?_ ?_
                · exact ⟨_, 0, St.mkT (kp (kp (kp (kp (kp (kp (kp (kp (kp rfl rfl) rfl) rfl) rfl) rfl) rfl) rfl) rfl) rfl).symm, by omega, rfl⟩
                rintro m S ⟨T, k, rfl, hk, rfl⟩
                have hal := aliveN_len self f now 7
                refine s_seq ?_
                refine s_seq ?_
                refine s_region ?_
                refine o_q (q_mv (v_raw rfl)) rfl rfl rfl ?_
                refine o_q (q_mv (v_sl rfl)) rfl rfl rfl ?_
                refine o_q (q_len rfl und35 rfl) rfl rfl rfl ?_
                refine o_q (q_lss rfl rfl) rfl rfl rfl ?_
                refine o_nil ?_
                refine s_cond rfl (fun h10 => ?_) (fun h10 => ?_)
                · have k10 := h10; try simp only [decide_eq_true_eq, decide_eq_false_iff_not, Bool.not_eq_true', Bool.not_eq_false', Bool.not_true, Bool.not_false, List.length_map, Decidable.not_not] at k10
                  refine s_skip ?_
                  refine s_seq ?_
                  refine s_block ?_
                  refine s_seq ?_
                  refine s_draw rfl ?_
                  refine d_q rfl (q_mv (v_sl rfl)) rfl rfl rfl ?_
                  refine d_q rfl (q_mv (v_raw rfl)) rfl rfl rfl ?_
                  refine d_q rfl (q_idx und35 sz23 rfl rfl (by omega) (gm k (by first | omega | simp)) rfl) rfl rfl rfl ?_
                  refine d_q rfl (q_lde ag23 sz23 rfl (gm k (by first | omega | simp)) rfl rfl) rfl rfl rfl ?_
                  refine d_q rfl (q_mv (v_sl rfl)) rfl rfl rfl ?_
                  refine d_q rfl (q_mv (v_raw rfl)) rfl rfl rfl ?_
                  refine d_q rfl (q_idx und35 sz23 rfl rfl (by omega) (gm k (by first | omega | simp)) rfl) rfl rfl rfl ?_
                  refine d_q rfl (q_lde ag23 sz23 rfl (gm k (by first | omega | simp)) rfl rfl) rfl rfl rfl ?_
                  refine d_q rfl (q_bin' rfl rfl (binNeM _ _ _ _)) rfl rfl rfl ?_
                  refine d_nil ?_
                  refine s_cond rfl (fun h11 => ?_) (fun h11 => ?_)
                  · have k11 := h11; try simp only [decide_eq_true_eq, decide_eq_false_iff_not, Bool.not_eq_true', Bool.not_eq_false', Bool.not_true, Bool.not_false, List.length_map, Decidable.not_not] at k11
                    first | exact absurd h11 (by decide) | (simp at h11; done) | (simp at h11; omega)
                  · have k11 := h11; try simp only [decide_eq_true_eq, decide_eq_false_iff_not, Bool.not_eq_true', Bool.not_eq_false', Bool.not_true, Bool.not_false, List.length_map, Decidable.not_not] at k11
                    refine s_skip ?_
                    refine s_blk_normal ?_
                    refine s_region ?_
                    refine o_q (q_mv (v_raw rfl)) rfl rfl rfl ?_
                    refine o_q (q_add rfl rfl (wrap64 (by omega) (by omega))) rfl rfl rfl ?_
                    refine o_q (q_as (v_raw rfl)) rfl rfl rfl ?_
                    refine o_nil ?_
                    refine s_inv ?_
                    exact ⟨(aliveN self f now 7).length - (k + 1), by omega, _, k + 1, St.mkT (kp (kp (kp (kp (kp (kp (kp (kp (kp rfl rfl) rfl) rfl) rfl) rfl) rfl) rfl) rfl) rfl).symm, by omega, rfl⟩
                · have k10 := h10; try simp only [decide_eq_true_eq, decide_eq_false_iff_not, Bool.not_eq_true', Bool.not_eq_false', Bool.not_true, Bool.not_false, List.length_map, Decidable.not_not] at k10
                  refine s_exit ?_
                  refine s_code_exit ?_
                  refine s_inv_exit ?_
                  refine s_blk_here ?_
                  refine s_blk_normal ?_
                  refine s_region ?_
                  refine o_q (q_mv (v_raw rfl)) rfl rfl rfl ?_
                  refine o_q (q_add rfl rfl (wrap64 (by omega) (by omega))) rfl rfl rfl ?_
                  refine o_q (q_as (v_raw rfl)) rfl rfl rfl ?_
                  refine o_nil ?_
                  refine s_inv ?_
                  exact ⟨deeds.length - (i + 1), by omega, _, _, f, now, i + 1, St.mkT (kp (kp (kp (kp (kp rfl rfl) rfl) rfl) rfl) rfl).symm, hle', hb', by omega, by omega, rfl⟩
            · have k8 := h8; try simp only [decide_eq_true_eq, decide_eq_false_iff_not, Bool.not_eq_true', Bool.not_eq_false', Bool.not_true, Bool.not_false, List.length_map, Decidable.not_not] at k8
              first | exact absurd h8 (by decide) | (simp at h8; done) | (simp at h8; omega)
          · have k5 := h5; try simp only [decide_eq_true_eq, decide_eq_false_iff_not, Bool.not_eq_true', Bool.not_eq_false', Bool.not_true, Bool.not_false, List.length_map, Decidable.not_not] at k5
            refine s_exit ?_
            refine s_code_exit ?_
            refine s_inv_exit ?_
            refine s_blk_here ?_
            refine s_seq ?_
            refine s_region ?_
            refine o_q (q_mv (v_raw rfl)) rfl rfl rfl ?_
            refine o_q (q_as (v_raw rfl)) rfl rfl rfl ?_
            refine o_nil ?_
            refine s_ret ?_
            refine s_end ?_
            exact ⟨rfl, hle⟩
        · have k4 := h4; try simp only [decide_eq_true_eq, decide_eq_false_iff_not, Bool.not_eq_true', Bool.not_eq_false', Bool.not_true, Bool.not_false, List.length_map, Decidable.not_not] at k4
          refine o_no rfl rfl rfl rfl h4 ?_
          refine o_no rfl rfl rfl rfl h4 ?_
          refine o_q (q_pick_c rfl h4 (v_raw rfl)) rfl rfl rfl ?_
          refine o_nil ?_
          refine s_else rfl rfl ?_
          refine s_exit ?_
          refine s_code_exit ?_
          refine s_inv_exit ?_
          refine s_blk_here ?_
          refine s_seq ?_
          refine s_region ?_
          refine o_q (q_mv (v_raw rfl)) rfl rfl rfl ?_
          refine o_q (q_as (v_raw rfl)) rfl rfl rfl ?_
          refine o_nil ?_
          refine s_ret ?_
          refine s_end ?_
          exact ⟨rfl, hle⟩
    · have k2 := h2; try simp only [decide_eq_true_eq, decide_eq_false_iff_not, Bool.not_eq_true', Bool.not_eq_false', Bool.not_true, Bool.not_false, List.length_map, Decidable.not_not] at k2
      first | exact absurd h2 (by decide) | (simp at h2; done) | (simp at h2; omega)

def tk5 : Nat → Nat → Option Nat := fun _ _ => none
def pl5 : Nat → List PStep
  | 16 => [.q 0, .q 1, .q 2, .q 3, .q 4, .q 5, .q 6, .q 7, .q 8, .q 9]
  | 17 => [.q 0, .q 1, .q 2, .q 3, .q 4, .q 5, .q 6, .q 7, .q 8, .q 9, .q 10, .q 11, .q 12, .q 13, .q 14, .q 15, .q 16, .q 17, .q 18, .q 19, .q 20, .q 21, .s 22 [20, 19, 18, 15, 14, 13, 12, 11, 10, 9, 8, 7, 6, 5, 4, 3, 2, 1, 0], .q 23, .q 24]
  | _ => []
theorem cb5 : Try.f5.body.map (codeB Try.prog Try.f5.ntmps tk5 pl5) = some true := by kernel_rfl
theorem goes5 : goesB Try.prog 5 = true := by kernel_rfl
-- carillon/carillonlaw13.SuspectOne params ['api.Member', '[]carillonlaw13.Deed'] results [['t', 4]] own [] names ['0:self', '1:deeds', '2:self', '3:deeds', '5:head', '6:s', '7:e', '8:i', '9:l', '10:me', '11:k'] calls [6, 7] paths 1

theorem alive_mem {self : Mb} {f : Nat → Int × Int} {now : Int} : ∀ (n : Nat) (m : Mb), m ∈ aliveN self f now n → 0 ≤ m.node ∧ m.node < n ∧ isB self f now m = true
  | 0, m, h => by cases h
  | n + 1, m, h => by
    rw [aliveN_succ] at h
    rcases List.mem_append.1 h with h | h
    · obtain ⟨h1, h2, h3⟩ := alive_mem n m h
      exact ⟨h1, by omega, h3⟩
    · split at h
      · rename_i hb
        obtain rfl := List.mem_singleton.1 h
        have e : (memAt self f n).node = n := by unfold memAt; split <;> simp_all
        exact ⟨by omega, by omega, hb⟩
      · cases h
theorem alive_sorted {self : Mb} {f : Nat → Int × Int} {now : Int} : ∀ n : Nat, (aliveN self f now n).Pairwise fun a b => a.node < b.node
  | 0 => List.Pairwise.nil
  | n + 1 => by
    rw [aliveN_succ, List.pairwise_append]
    refine ⟨alive_sorted n, by split <;> simp, fun a ha b hb => ?_⟩
    obtain ⟨-, h2, -⟩ := alive_mem n a ha
    split at hb
    · obtain rfl := List.mem_singleton.1 hb
      have e : (memAt self f n).node = n := by unfold memAt; split <;> simp_all
      omega
    · cases hb
theorem alive_self {self : Mb} {f : Nat → Int × Int} {now : Int} (h0 : 0 ≤ self.node) : ∀ n : Nat, self.node < n → self ∈ aliveN self f now n
  | 0, h => by omega
  | n + 1, h => by
    rw [aliveN_succ, List.mem_append]
    by_cases e : (n : Int) = self.node
    · right
      have em : memAt self f n = self := by unfold memAt; rw [if_pos e]
      rw [em, if_pos (by simp [isB])]
      exact List.mem_singleton.2 rfl
    · exact .inl (alive_self h0 n (by omega))
theorem alive_lt {self : Mb} {f : Nat → Int × Int} {now : Int} {j k : Nat} (hjk : j < k) (hk : k < (aliveN self f now 7).length) : ((aliveN self f now 7)[j]'(by omega)).node < (aliveN self f now 7)[k].node :=
  List.pairwise_iff_getElem.1 (alive_sorted 7) j k _ hk hjk
theorem alive_is {self : Mb} {f : Nat → Int × Int} {now : Int} {k : Nat} (hk : k < (aliveN self f now 7).length) : isB self f now (aliveN self f now 7)[k] = true := (alive_mem 7 _ (List.getElem_mem hk)).2.2
def meB (l : List Mb) (self : Mb) (k : Nat) : Bool := decide (self ∈ l.take k)
theorem meB_succ {l : List Mb} {self : Mb} {k : Nat} (h : k < l.length) : meB l self (k + 1) = (meB l self k || decide (l[k] = self)) := by
  unfold meB
  rw [List.take_succ_eq_append_getElem h]
  rw [Bool.eq_iff_iff]
  simp only [decide_eq_true_eq, Bool.or_eq_true, List.mem_append, List.mem_singleton]
  exact ⟨fun h => h.imp id Eq.symm, fun h => h.imp id Eq.symm⟩
theorem snd5a (self : Mb) (deeds : List Dd) (o : Bool) (M : Mem) (hr : right self = false) : SoundCall Try.prog 5 [encM self, .sl (deeds.map encD) o] M fun r M' => r = .raw (.bool true) ∧ M.le M' := by
  refine SoundCall.go tk5 pl5 mixed Try.func5 cb5 rfl (Nat.le_of_ble_eq_true rfl) ?_
  refine s_seq ?_
  refine s_region ?_
  refine o_box (by first | exact e_raw rfl | exact e_agg rfl | exact e_sl rfl) rfl rfl (fun B1 hB1 => ?_)
  refine o_q (q_as (v_raw rfl)) rfl rfl rfl ?_
  refine o_nil ?_
  refine s_seq ?_
  refine s_region ?_
  refine o_call ((snd6 _).det) goes6 ac_nil rfl ?_
  refine o_q (q_as (v_raw rfl)) rfl rfl rfl ?_
  refine o_nil ?_
  refine s_seq ?_
  refine s_region ?_
  refine o_q (q_ldmw ag23 sz23 rfl (by repeat first | exact Mem.upd_self _ _ _ | assumption | refine Mem.upd_ne (by assumption) ?_) rfl rfl) rfl rfl rfl ?_
  refine o_call (new7n self _ hr) goes7 (ac (v_agg rfl) ac_nil) rfl ?_
  refine o_q (q_mv (v_tup rfl)) rfl rfl rfl ?_
  refine o_q (q_ext rfl rfl ((by first | exact v_raw rfl | exact v_sptr rfl))) rfl rfl rfl ?_
  refine o_q (q_ext rfl rfl (v_raw rfl)) rfl rfl rfl ?_
  refine o_q (q_as ((by first | exact v_raw rfl | exact v_sptr rfl))) rfl rfl rfl ?_
  refine o_q (q_as (v_raw rfl)) rfl rfl rfl ?_
  refine o_nil ?_
  refine s_seq ?_
  refine s_seq ?_
  refine s_region ?_
  refine o_q (q_mv (v_raw rfl)) rfl rfl rfl ?_
  refine o_q (q_neq rfl rfl) rfl rfl rfl ?_
  refine o_q (q_mv (v_raw rfl)) rfl rfl rfl ?_
  refine o_cases (want := false) (j := 2) rfl rfl (fun h1 => ?_) (fun h1 => ?_)
  · have k1 := h1; try simp only [decide_eq_true_eq, decide_eq_false_iff_not, Bool.not_eq_true', Bool.not_eq_false', Bool.not_true, Bool.not_false, List.length_map, Decidable.not_not] at k1
    first | exact absurd h1 (by decide) | (simp at h1; done) | (simp at h1; omega)
  · have k1 := h1; try simp only [decide_eq_true_eq, decide_eq_false_iff_not, Bool.not_eq_true', Bool.not_eq_false', Bool.not_true, Bool.not_false, List.length_map, Decidable.not_not] at k1
    refine o_no rfl rfl rfl rfl h1 ?_
    refine o_no rfl rfl rfl rfl h1 ?_
    refine o_q (q_pick_c rfl h1 (v_raw rfl)) rfl rfl rfl ?_
    refine o_nil ?_
    refine s_then rfl rfl ?_
    refine s_seq ?_
    refine s_region ?_
    refine o_q (q_mv (v_raw rfl)) rfl rfl rfl ?_
    refine o_q (q_mv (v_raw rfl)) rfl rfl rfl ?_
    refine o_cases (want := true) (j := 1) rfl rfl (fun h2 => ?_) (fun h2 => ?_)
    · have k2 := h2; try simp only [decide_eq_true_eq, decide_eq_false_iff_not, Bool.not_eq_true', Bool.not_eq_false', Bool.not_true, Bool.not_false, List.length_map, Decidable.not_not] at k2
      refine o_yes rfl rfl rfl h2 ?_
      refine o_q (q_mv ((by first | exact v_raw rfl | exact v_sptr rfl))) rfl rfl rfl ?_
      refine o_yes rfl rfl rfl h2 ?_
      refine o_q (q_peql und26 rfl rfl) rfl rfl rfl ?_
      refine o_q (q_pick_c rfl h2 (v_raw rfl)) rfl rfl rfl ?_
      refine o_q (q_as (v_raw rfl)) rfl rfl rfl ?_
      refine o_nil ?_
      refine s_ret ?_
      refine s_code_ret ?_
      refine s_end ?_
      exact ⟨rfl, Mem.le_upd (Mem.le_refl M) hB1⟩
    · have k2 := h2; try simp only [decide_eq_true_eq, decide_eq_false_iff_not, Bool.not_eq_true', Bool.not_eq_false', Bool.not_true, Bool.not_false, List.length_map, Decidable.not_not] at k2
      first | exact absurd h2 (by decide) | (simp at h2; done) | (simp at h2; omega)

-- carillon/carillonlaw13.SuspectOne params ['api.Member', '[]carillonlaw13.Deed'] results [['t', 4]] own [] names ['0:self', '1:deeds', '2:self', '3:deeds', '5:head', '6:s', '7:e', '8:i', '9:l', '10:me', '11:k'] calls [6, 7, 9, 11, 13, 15] paths 9
set_option maxRecDepth 20000 in
theorem snd5b (self : Mb) (deeds : List Dd) (o : Bool) (M : Mem) (hr : right self = true) (hl : deeds.length < 2 ^ 47) : SoundCall Try.prog 5 [encM self, .sl (deeds.map encD) o] M fun r M' => r = .raw (.bool true) ∧ M.le M' := by
  have rr := right_spec.1 hr
  refine SoundCall.go tk5 pl5 mixed Try.func5 cb5 rfl (Nat.le_of_ble_eq_true rfl) ?_
  refine s_seq ?_
  refine s_region ?_
  refine o_box (by first | exact e_raw rfl | exact e_agg rfl | exact e_sl rfl) rfl rfl (fun B1 hB1 => ?_)
  refine o_q (q_as (v_raw rfl)) rfl rfl rfl ?_
  refine o_nil ?_
  refine s_seq ?_
  refine s_region ?_
  refine o_call ((snd6 _).det) goes6 ac_nil rfl ?_
  refine o_q (q_as (v_raw rfl)) rfl rfl rfl ?_
  refine o_nil ?_
  refine s_seq ?_
  refine s_region ?_
  refine o_q (q_ldmw ag23 sz23 rfl (by repeat first | exact Mem.upd_self _ _ _ | assumption | refine Mem.upd_ne (by assumption) ?_) rfl rfl) rfl rfl rfl ?_
  refine o_callx (new7 self _ hr) goes7 (ac (v_agg rfl) ac_nil) rfl ?_
  rintro r M' ⟨s, c, hsn, hcn, sc, rfl, rfl⟩
  have f1s : B1 ≠ s := Mem.fresh_ne hsn (Mem.upd_self _ _ _)
  have f1c : B1 ≠ c := Mem.fresh_ne hcn (Mem.upd_self _ _ _)
  have ms := (Mem.upd_none hsn).2
  have mc := (Mem.upd_none hcn).2
  have sc' := sc.symm
  have f1s' := f1s.symm
  have f1c' := f1c.symm
  refine o_q (q_mv (v_tup rfl)) rfl rfl rfl ?_
  refine o_q (q_ext rfl rfl ((by first | exact v_raw rfl | exact v_sptr rfl))) rfl rfl rfl ?_
  refine o_q (q_ext rfl rfl (v_raw rfl)) rfl rfl rfl ?_
  refine o_q (q_as ((by first | exact v_raw rfl | exact v_sptr rfl))) rfl rfl rfl ?_
  refine o_q (q_as (v_raw rfl)) rfl rfl rfl ?_
  refine o_nil ?_
  refine s_seq ?_
  refine s_seq ?_
  refine s_region ?_
  refine o_q (q_mv (v_raw rfl)) rfl rfl rfl ?_
  refine o_q (q_neq rfl rfl) rfl rfl rfl ?_
  refine o_q (q_mv (v_raw rfl)) rfl rfl rfl ?_
  refine o_cases (want := false) (j := 2) rfl rfl (fun h1 => ?_) (fun h1 => ?_)
  · have k1 := h1; try simp only [decide_eq_true_eq, decide_eq_false_iff_not, Bool.not_eq_true', Bool.not_eq_false', Bool.not_true, Bool.not_false, List.length_map, Decidable.not_not] at k1
    refine o_yes rfl rfl rfl h1 ?_
    refine o_q (q_mv ((by first | exact v_raw rfl | exact v_sptr rfl))) rfl rfl rfl ?_
    refine o_yes rfl rfl rfl h1 ?_
    refine o_q (q_peql und26 rfl rfl) rfl rfl rfl ?_
    refine o_q (q_pick_c rfl h1 (v_raw rfl)) rfl rfl rfl ?_
    refine o_nil ?_
    refine s_cond rfl (fun h2 => ?_) (fun h2 => ?_)
    · have k2 := h2; try simp only [decide_eq_true_eq, decide_eq_false_iff_not, Bool.not_eq_true', Bool.not_eq_false', Bool.not_true, Bool.not_false, List.length_map, Decidable.not_not] at k2
      first | exact absurd h2 (by decide) | (simp at h2; done) | (simp at h2; omega)
    · have k2 := h2; try simp only [decide_eq_true_eq, decide_eq_false_iff_not, Bool.not_eq_true', Bool.not_eq_false', Bool.not_true, Bool.not_false, List.length_map, Decidable.not_not] at k2
      refine s_skip ?_
      refine s_seq ?_
      refine s_seq ?_
      refine s_region ?_
      refine o_q (q_as (v_raw rfl)) rfl rfl rfl ?_
      refine o_nil ?_
      refine s_block ?_
      refine s_loop (fun m S => ∃ T, ∃ M' : Mem, ∃ f now, ∃ i : Nat, S = ⟨setT (setT (setT (setT (setT T 1 (.sl (deeds.map encD) o)) 2 (ptr B1)) 5 (.raw (.bool true))) 6 (ptr s)) 8 (int i), M'⟩ ∧ M.le M' ∧ (M' s = some (.cells (sus self f c)) ∧ M' c = some (.cells [int now]) ∧ M' B1 = some (.cells (encM self).cells) ∧ (∀ i, 0 ≤ (f i).2 ∧ (f i).2 ≤ now) ∧ 0 ≤ now) ∧ now ≤ i ∧ i ≤ deeds.length ∧ m = deeds.length - i) deeds.length ?_ ?_
      · exact ⟨_, _, fun _ => (0, 0), 0, 0, St.mkT (kp (kp (kp (kp (kp rfl rfl) rfl) rfl) rfl) rfl).symm, (by repeat first | exact hle | exact Mem.le_refl M | assumption | refine Mem.le_upd ?_ ?_), ⟨(by repeat first | exact Mem.upd_self _ _ _ | assumption | refine Mem.upd_ne (by assumption) ?_), (by repeat first | exact Mem.upd_self _ _ _ | assumption | refine Mem.upd_ne (by assumption) ?_), (by repeat first | exact Mem.upd_self _ _ _ | assumption | refine Mem.upd_ne (by assumption) ?_), f0_ok 0 (Int.le_refl _), Int.le_refl _⟩, by omega, by omega, rfl⟩
      rintro m S ⟨T, M', f, now, i, rfl, hle, ⟨bs, bc, bB, bok, bn⟩, hni, hi, rfl⟩
      refine s_seq ?_
      refine s_seq ?_
      refine s_region ?_
      refine o_q (q_mv (v_raw rfl)) rfl rfl rfl ?_
      refine o_q (q_mv (v_sl rfl)) rfl rfl rfl ?_
      refine o_q (q_len rfl und24 rfl) rfl rfl rfl ?_
      refine o_q (q_lss rfl rfl) rfl rfl rfl ?_
      refine o_q (q_mv (v_raw rfl)) rfl rfl rfl ?_
      refine o_cases (want := true) (j := 4) rfl rfl (fun h3 => ?_) (fun h3 => ?_)
      · have k3 := h3; try simp only [decide_eq_true_eq, decide_eq_false_iff_not, Bool.not_eq_true', Bool.not_eq_false', Bool.not_true, Bool.not_false, List.length_map, Decidable.not_not] at k3
        refine o_yes rfl rfl rfl h3 ?_
        refine o_q (q_mv (v_raw rfl)) rfl rfl rfl ?_
        refine o_yes rfl rfl rfl h3 ?_
        refine o_q (q_lss rfl rfl) rfl rfl rfl ?_
        refine o_q (q_pick_c rfl h3 (v_raw rfl)) rfl rfl rfl ?_
        refine o_nil ?_
        refine s_cond rfl (fun h4 => ?_) (fun h4 => ?_)
        · have k4 := h4; try simp only [decide_eq_true_eq, decide_eq_false_iff_not, Bool.not_eq_true', Bool.not_eq_false', Bool.not_true, Bool.not_false, List.length_map, Decidable.not_not] at k4
          refine s_skip ?_
          refine s_seq ?_
          refine s_block ?_
          refine s_seq ?_
          refine s_seq ?_
          refine s_region ?_
          refine o_q (q_mv (v_sl rfl)) rfl rfl rfl ?_
          refine o_q (q_mv (v_raw rfl)) rfl rfl rfl ?_
          refine o_q (q_idx und24 sz33 rfl rfl (by omega) (gm i (by first | omega | simp)) rfl) rfl rfl rfl ?_
          refine o_q (q_f fo33_0 rfl) rfl rfl rfl ?_
          refine o_q (q_ld ag4 sz4 rfl (gm i (by first | omega | simp)) rfl (v_raw rfl)) rfl rfl rfl ?_
          refine o_nil ?_
          refine s_cut (fun S => ∃ T, ∃ M' : Mem, ∃ f now, S = ⟨setT (setT (setT (setT (setT T 1 (.sl (deeds.map encD) o)) 2 (ptr B1)) 5 (.raw (.bool true))) 6 (ptr s)) 8 (int i), M'⟩ ∧ M.le M' ∧ (M' s = some (.cells (sus self f c)) ∧ M' c = some (.cells [int now]) ∧ M' B1 = some (.cells (encM self).cells) ∧ (∀ i, 0 ≤ (f i).2 ∧ (f i).2 ≤ now) ∧ 0 ≤ now) ∧ now ≤ i + 1) ?_ ?_
          · skip
            refine s_cond rfl (fun h5 => ?_) (fun h5 => ?_)
            · have k5 := h5; try simp only [decide_eq_true_eq, decide_eq_false_iff_not, Bool.not_eq_true', Bool.not_eq_false', Bool.not_true, Bool.not_false, List.length_map, Decidable.not_not] at k5
              refine s_region ?_
              refine o_q (q_mv ((by first | exact v_raw rfl | exact v_sptr rfl))) rfl rfl rfl ?_
              refine o_callx (snd9 s c self f now _ bs bc (by omega)) goes9 (ac ((by first | exact v_raw rfl | exact v_sptr rfl)) ac_nil) rfl ?_
              rintro r M' ⟨rfl, rfl⟩
              refine o_nil ?_
              refine s_inv ?_
              exact ⟨_, _, f, now + 1, St.mkT (kp (kp (kp (kp (kp rfl rfl) rfl) rfl) rfl) rfl).symm, (by repeat first | exact hle | exact Mem.le_refl M | assumption | refine Mem.le_upd ?_ ?_), ⟨(by repeat first | exact Mem.upd_self _ _ _ | assumption | refine Mem.upd_ne (by assumption) ?_), (by repeat first | exact Mem.upd_self _ _ _ | assumption | refine Mem.upd_ne (by assumption) ?_), (by repeat first | exact Mem.upd_self _ _ _ | assumption | refine Mem.upd_ne (by assumption) ?_), fun i => ⟨(bok i).1, by have := (bok i).2; omega⟩, by omega⟩, by omega⟩
            · have k5 := h5; try simp only [decide_eq_true_eq, decide_eq_false_iff_not, Bool.not_eq_true', Bool.not_eq_false', Bool.not_true, Bool.not_false, List.length_map, Decidable.not_not] at k5
              refine s_region ?_
              refine o_q (q_mv ((by first | exact v_raw rfl | exact v_sptr rfl))) rfl rfl rfl ?_
              refine o_q (q_mv (v_sl rfl)) rfl rfl rfl ?_
              refine o_q (q_mv (v_raw rfl)) rfl rfl rfl ?_
              refine o_q (q_idx und24 sz33 rfl rfl (by omega) (gm i (by first | omega | simp)) rfl) rfl rfl rfl ?_
              refine o_q (q_f fo33_1 rfl) rfl rfl rfl ?_
              refine o_q (q_ld ag23 sz23 rfl (gm i (by first | omega | simp)) rfl (v_agg rfl)) rfl rfl rfl ?_
              refine o_callx (hear11 s c self f now deeds[i].m _ bs bc sc (by omega) bok) goes11 (ac ((by first | exact v_raw rfl | exact v_sptr rfl)) (ac (v_agg rfl) ac_nil)) rfl ?_
              rintro r M' ⟨rfl, rfl⟩
              refine o_nil ?_
              refine s_inv ?_
              exact ⟨_, _, heardF self f now deeds[i].m, now, St.mkT (kp (kp (kp (kp (kp rfl rfl) rfl) rfl) rfl) rfl).symm, (by repeat first | exact hle | exact Mem.le_refl M | assumption | refine Mem.le_upd ?_ ?_), ⟨(by repeat first | exact Mem.upd_self _ _ _ | assumption | refine Mem.upd_ne (by assumption) ?_), (by repeat first | exact Mem.upd_self _ _ _ | assumption | refine Mem.upd_ne (by assumption) ?_), (by repeat first | exact Mem.upd_self _ _ _ | assumption | refine Mem.upd_ne (by assumption) ?_), heardF_ok bn bok, bn⟩, by omega⟩
          rintro S ⟨T, M', f, now, rfl, hle', ⟨bs', bc', bB', bok', bn'⟩, hni'⟩
          refine s_seq ?_
          refine s_region ?_
          refine o_q (q_mv ((by first | exact v_raw rfl | exact v_sptr rfl))) rfl rfl rfl ?_
          refine o_call ((snd13 s c self f now _ bs' bc' sc (by omega) bok').det) goes13 (ac ((by first | exact v_raw rfl | exact v_sptr rfl)) ac_nil) rfl ?_
          refine o_q (q_as (v_sl rfl)) rfl rfl rfl ?_
          refine o_nil ?_
          refine s_seq ?_
          refine s_region ?_
          refine o_q (q_as (v_raw rfl)) rfl rfl rfl ?_
          refine o_nil ?_
          refine s_seq ?_
          refine s_seq ?_
          refine s_region ?_
          refine o_q (q_as (v_raw rfl)) rfl rfl rfl ?_
          refine o_nil ?_
          refine s_block ?_
          refine s_loop (fun m S => ∃ T, ∃ k : Nat, S = ⟨setT (setT (setT (setT (setT (setT (setT (setT T 1 (.sl (deeds.map encD) o)) 2 (ptr B1)) 5 (.raw (.bool true))) 6 (ptr s)) 8 (int i)) 9 (.sl ((aliveN self f now 7).map encM) false)) 10 (.raw (.bool (meB (aliveN self f now 7) self k)))) 11 (int k), M'⟩ ∧ k ≤ (aliveN self f now 7).length ∧ m = (aliveN self f now 7).length - k) (aliveN self f now 7).length ?_ ?_
          · exact ⟨_, 0, St.mkT (kp (kp (kp (kp (kp (kp (kp (kp rfl rfl) rfl) rfl) rfl) rfl) rfl) rfl) rfl).symm, by omega, rfl⟩
          rintro m S ⟨T, k, rfl, hk, rfl⟩
          have hal := aliveN_len self f now 7
          refine s_seq ?_
          refine s_seq ?_
          refine s_region ?_
          refine o_q (q_mv (v_raw rfl)) rfl rfl rfl ?_
          refine o_q (q_mv (v_sl rfl)) rfl rfl rfl ?_
          refine o_q (q_len rfl und35 rfl) rfl rfl rfl ?_
          refine o_q (q_lss rfl rfl) rfl rfl rfl ?_
          refine o_nil ?_
          refine s_cond rfl (fun h6 => ?_) (fun h6 => ?_)
          · have k6 := h6; try simp only [decide_eq_true_eq, decide_eq_false_iff_not, Bool.not_eq_true', Bool.not_eq_false', Bool.not_true, Bool.not_false, List.length_map, Decidable.not_not] at k6
            refine s_skip ?_
            refine s_seq ?_
            refine s_block ?_
            refine s_seq ?_
            refine s_draw rfl ?_
            refine d_q rfl (q_mv (v_raw rfl)) rfl rfl rfl ?_
            refine d_q rfl (q_mv (v_raw rfl)) rfl rfl rfl ?_
            refine d_cases (want := false) (j := 1) rfl rfl (fun h7 => ?_) (fun h7 => ?_)
            · have k7 := h7; try simp only [decide_eq_true_eq, decide_eq_false_iff_not, Bool.not_eq_true', Bool.not_eq_false', Bool.not_true, Bool.not_false, List.length_map, Decidable.not_not] at k7
              refine d_yes rfl (q_mv (v_sl rfl)) rfl rfl rfl h7 rfl rfl ?_
              refine d_yes rfl (q_mv (v_raw rfl)) rfl rfl rfl h7 rfl rfl ?_
              refine d_yes rfl (q_idx und35 sz23 rfl rfl (by omega) (gm k (by first | omega | simp)) rfl) rfl rfl rfl h7 rfl rfl ?_
              refine d_yes rfl (q_lde ag23 sz23 rfl (gm k (by first | omega | simp)) rfl rfl) rfl rfl rfl h7 rfl rfl ?_
              refine d_yes rfl (q_ldm ag23 sz23 rfl (by repeat first | exact Mem.upd_self _ _ _ | assumption | refine Mem.upd_ne (by assumption) ?_) rfl (v_agg rfl)) rfl rfl rfl h7 rfl rfl ?_
              refine d_yes rfl (q_bin' rfl rfl (binEqM _ _ _ self)) rfl rfl rfl h7 rfl rfl ?_
              refine d_q rfl (q_pick_c rfl h7 (v_raw rfl)) rfl rfl rfl ?_
              refine d_q rfl (q_as (v_raw rfl)) rfl rfl rfl ?_
              refine d_nil ?_
              refine s_seq ?_
              refine s_draw rfl ?_
              refine d_q rfl (q_mv (v_raw rfl)) rfl rfl rfl ?_
              refine d_q rfl (q_gtr rfl rfl) rfl rfl rfl ?_
              refine d_q rfl (q_mv (v_raw rfl)) rfl rfl rfl ?_
              refine d_cases (want := true) (j := 2) rfl rfl (fun h8 => ?_) (fun h8 => ?_)
              · have k8 := h8; try simp only [decide_eq_true_eq, decide_eq_false_iff_not, Bool.not_eq_true', Bool.not_eq_false', Bool.not_true, Bool.not_false, List.length_map, Decidable.not_not] at k8
                refine d_yes rfl (q_mv (v_sl rfl)) rfl rfl rfl h8 rfl rfl ?_
                refine d_yes rfl (q_mv (v_raw rfl)) rfl rfl rfl h8 rfl rfl ?_
                refine d_yes rfl (q_idx und35 sz23 rfl rfl (by omega) (gm k (by first | omega | simp)) rfl) rfl rfl rfl h8 rfl rfl ?_
                refine d_yes rfl (q_f fo23_0 rfl) rfl rfl rfl h8 rfl rfl ?_
                refine d_yes rfl (q_ld ag3 sz3 rfl (gm k (by first | omega | simp)) rfl (v_raw rfl)) rfl rfl rfl h8 rfl rfl ?_
                refine d_yes rfl (q_mv (v_sl rfl)) rfl rfl rfl h8 rfl rfl ?_
                refine d_yes rfl (q_mv (v_raw rfl)) rfl rfl rfl h8 rfl rfl ?_
                refine d_yes rfl (q_sub rfl rfl (wrap64 (by omega) (by omega))) rfl rfl rfl h8 rfl rfl ?_
                refine d_yes rfl (q_idx und35 sz23 rfl rfl (by omega) (gm (((k : Int) - 1).toNat) (by first | omega | simp)) rfl) rfl rfl rfl h8 rfl rfl ?_
                refine d_yes rfl (q_f fo23_0 rfl) rfl rfl rfl h8 rfl rfl ?_
                refine d_yes rfl (q_ld ag3 sz3 rfl (gm (((k : Int) - 1).toNat) (by first | omega | simp)) rfl (v_raw rfl)) rfl rfl rfl h8 rfl rfl ?_
                refine d_yes rfl (q_leq rfl rfl) rfl rfl rfl h8 rfl rfl ?_
                refine d_q rfl (q_pick_c rfl h8 (v_raw rfl)) rfl rfl rfl ?_
                refine d_q rfl (q_mv (v_raw rfl)) rfl rfl rfl ?_
                refine d_cases (want := false) (j := 16) rfl rfl (fun h9 => ?_) (fun h9 => ?_)
                · have k9 := h9; try simp only [decide_eq_true_eq, decide_eq_false_iff_not, Bool.not_eq_true', Bool.not_eq_false', Bool.not_true, Bool.not_false, List.length_map, Decidable.not_not] at k9
                  refine d_yes rfl (q_mv ((by first | exact v_raw rfl | exact v_sptr rfl))) rfl rfl rfl h9 rfl rfl ?_
                  refine d_yes rfl (q_mv (v_sl rfl)) rfl rfl rfl h9 rfl rfl ?_
                  refine d_yes rfl (q_mv (v_raw rfl)) rfl rfl rfl h9 rfl rfl ?_
                  refine d_yes rfl (q_idx und35 sz23 rfl rfl (by omega) (gm k (by first | omega | simp)) rfl) rfl rfl rfl h9 rfl rfl ?_
                  refine d_yes rfl (q_lde ag23 sz23 rfl (gm k (by first | omega | simp)) rfl rfl) rfl rfl rfl h9 rfl rfl ?_
                  refine d_s rfl ?_
                  refine o_yes rfl rfl rfl h9 ?_
                  refine o_call ((snd15 s c self f now (aliveN self f now 7)[k] _ bs' bc' sc (by omega) bok').det) goes15 (ac ((by first | exact v_raw rfl | exact v_sptr rfl)) (ac (v_agg rfl) ac_nil)) rfl ?_
                  refine o_nil ⟨(by simp [Mem.upd, *]), ?_⟩
                  refine d_yes rfl (q_not rfl) rfl rfl rfl h9 rfl rfl ?_
                  refine d_q rfl (q_pick_c rfl h9 (v_raw rfl)) rfl rfl rfl ?_
                  refine d_nil ?_
                  refine s_cond rfl (fun h10 => ?_) (fun h10 => ?_)
                  · have k10 := h10; try simp only [decide_eq_true_eq, decide_eq_false_iff_not, Bool.not_eq_true', Bool.not_eq_false', Bool.not_true, Bool.not_false, List.length_map, Decidable.not_not] at k10
                    rw [alive_is (by omega)] at h10; exact absurd h10 (by decide)
                  · have k10 := h10; try simp only [decide_eq_true_eq, decide_eq_false_iff_not, Bool.not_eq_true', Bool.not_eq_false', Bool.not_true, Bool.not_false, List.length_map, Decidable.not_not] at k10
                    refine s_skip ?_
                    refine s_blk_normal ?_
                    refine s_region ?_
                    refine o_q (q_mv (v_raw rfl)) rfl rfl rfl ?_
                    refine o_q (q_add rfl rfl (wrap64 (by omega) (by omega))) rfl rfl rfl ?_
                    refine o_q (q_as (v_raw rfl)) rfl rfl rfl ?_
                    refine o_nil ?_
                    refine s_inv ?_
                    exact ⟨(aliveN self f now 7).length - (k + 1), by omega, _, k + 1, St.mkT (kp (kp (kp (kp (kp (kp (kp (kp rfl rfl) rfl) rfl) rfl) rfl) rfl) (show _ = AVal.raw (.bool (meB _ self (k + 1))) by rw [meB_succ (by omega), h7, Bool.false_or]; rfl)) rfl).symm, by omega, rfl⟩
                · have k9 := h9; try simp only [decide_eq_true_eq, decide_eq_false_iff_not, Bool.not_eq_true', Bool.not_eq_false', Bool.not_true, Bool.not_false, List.length_map, Decidable.not_not] at k9
                  exact absurd (of_decide_eq_true h9) (by have := alive_lt (self := self) (f := f) (now := now) (j := ((k : Int) - 1).toNat) (k := k) (by omega) (by omega); omega)
              · have k8 := h8; try simp only [decide_eq_true_eq, decide_eq_false_iff_not, Bool.not_eq_true', Bool.not_eq_false', Bool.not_true, Bool.not_false, List.length_map, Decidable.not_not] at k8
                refine d_no rfl rfl rfl rfl h8 rfl ?_
                refine d_no rfl rfl rfl rfl h8 rfl ?_
                refine d_no rfl rfl rfl rfl h8 rfl ?_
                refine d_no rfl rfl rfl rfl h8 rfl ?_
                refine d_no rfl rfl rfl rfl h8 rfl ?_
                refine d_no rfl rfl rfl rfl h8 rfl ?_
                refine d_no rfl rfl rfl rfl h8 rfl ?_
                refine d_no rfl rfl rfl rfl h8 rfl ?_
                refine d_no rfl rfl rfl rfl h8 rfl ?_
                refine d_no rfl rfl rfl rfl h8 rfl ?_
                refine d_no rfl rfl rfl rfl h8 rfl ?_
                refine d_no rfl rfl rfl rfl h8 rfl ?_
                refine d_q rfl (q_pick_c rfl h8 (v_raw rfl)) rfl rfl rfl ?_
                refine d_q rfl (q_mv (v_raw rfl)) rfl rfl rfl ?_
                refine d_yes rfl (q_mv ((by first | exact v_raw rfl | exact v_sptr rfl))) rfl rfl rfl rfl rfl rfl ?_
                refine d_yes rfl (q_mv (v_sl rfl)) rfl rfl rfl rfl rfl rfl ?_
                refine d_yes rfl (q_mv (v_raw rfl)) rfl rfl rfl rfl rfl rfl ?_
                refine d_yes rfl (q_idx und35 sz23 rfl rfl (by omega) (gm k (by first | omega | simp)) rfl) rfl rfl rfl rfl rfl rfl ?_
                refine d_yes rfl (q_lde ag23 sz23 rfl (gm k (by first | omega | simp)) rfl rfl) rfl rfl rfl rfl rfl rfl ?_
                refine d_s rfl ?_
                refine o_yes rfl rfl rfl rfl ?_
                refine o_call ((snd15 s c self f now (aliveN self f now 7)[k] _ bs' bc' sc (by omega) bok').det) goes15 (ac ((by first | exact v_raw rfl | exact v_sptr rfl)) (ac (v_agg rfl) ac_nil)) rfl ?_
                refine o_nil ⟨(by simp [Mem.upd, *]), ?_⟩
                refine d_yes rfl (q_not rfl) rfl rfl rfl rfl rfl rfl ?_
                refine d_q rfl (q_pick_c rfl rfl (v_raw rfl)) rfl rfl rfl ?_
                refine d_nil ?_
                refine s_cond rfl (fun h11 => ?_) (fun h11 => ?_)
                · have k11 := h11; try simp only [decide_eq_true_eq, decide_eq_false_iff_not, Bool.not_eq_true', Bool.not_eq_false', Bool.not_true, Bool.not_false, List.length_map, Decidable.not_not] at k11
                  rw [alive_is (by omega)] at h11; exact absurd h11 (by decide)
                · have k11 := h11; try simp only [decide_eq_true_eq, decide_eq_false_iff_not, Bool.not_eq_true', Bool.not_eq_false', Bool.not_true, Bool.not_false, List.length_map, Decidable.not_not] at k11
                  refine s_skip ?_
                  refine s_blk_normal ?_
                  refine s_region ?_
                  refine o_q (q_mv (v_raw rfl)) rfl rfl rfl ?_
                  refine o_q (q_add rfl rfl (wrap64 (by omega) (by omega))) rfl rfl rfl ?_
                  refine o_q (q_as (v_raw rfl)) rfl rfl rfl ?_
                  refine o_nil ?_
                  refine s_inv ?_
                  exact ⟨(aliveN self f now 7).length - (k + 1), by omega, _, k + 1, St.mkT (kp (kp (kp (kp (kp (kp (kp (kp rfl rfl) rfl) rfl) rfl) rfl) rfl) (show _ = AVal.raw (.bool (meB _ self (k + 1))) by rw [meB_succ (by omega), h7, Bool.false_or]; rfl)) rfl).symm, by omega, rfl⟩
            · have k7 := h7; try simp only [decide_eq_true_eq, decide_eq_false_iff_not, Bool.not_eq_true', Bool.not_eq_false', Bool.not_true, Bool.not_false, List.length_map, Decidable.not_not] at k7
              refine d_no rfl rfl rfl rfl h7 rfl ?_
              refine d_no rfl rfl rfl rfl h7 rfl ?_
              refine d_no rfl rfl rfl rfl h7 rfl ?_
              refine d_no rfl rfl rfl rfl h7 rfl ?_
              refine d_no rfl rfl rfl rfl h7 rfl ?_
              refine d_no rfl rfl rfl rfl h7 rfl ?_
              refine d_q rfl (q_pick_c rfl h7 (v_raw rfl)) rfl rfl rfl ?_
              refine d_q rfl (q_as (v_raw rfl)) rfl rfl rfl ?_
              refine d_nil ?_
              refine s_seq ?_
              refine s_draw rfl ?_
              refine d_q rfl (q_mv (v_raw rfl)) rfl rfl rfl ?_
              refine d_q rfl (q_gtr rfl rfl) rfl rfl rfl ?_
              refine d_q rfl (q_mv (v_raw rfl)) rfl rfl rfl ?_
              refine d_cases (want := true) (j := 2) rfl rfl (fun h12 => ?_) (fun h12 => ?_)
              · have k12 := h12; try simp only [decide_eq_true_eq, decide_eq_false_iff_not, Bool.not_eq_true', Bool.not_eq_false', Bool.not_true, Bool.not_false, List.length_map, Decidable.not_not] at k12
                refine d_yes rfl (q_mv (v_sl rfl)) rfl rfl rfl h12 rfl rfl ?_
                refine d_yes rfl (q_mv (v_raw rfl)) rfl rfl rfl h12 rfl rfl ?_
                refine d_yes rfl (q_idx und35 sz23 rfl rfl (by omega) (gm k (by first | omega | simp)) rfl) rfl rfl rfl h12 rfl rfl ?_
                refine d_yes rfl (q_f fo23_0 rfl) rfl rfl rfl h12 rfl rfl ?_
                refine d_yes rfl (q_ld ag3 sz3 rfl (gm k (by first | omega | simp)) rfl (v_raw rfl)) rfl rfl rfl h12 rfl rfl ?_
                refine d_yes rfl (q_mv (v_sl rfl)) rfl rfl rfl h12 rfl rfl ?_
                refine d_yes rfl (q_mv (v_raw rfl)) rfl rfl rfl h12 rfl rfl ?_
                refine d_yes rfl (q_sub rfl rfl (wrap64 (by omega) (by omega))) rfl rfl rfl h12 rfl rfl ?_
                refine d_yes rfl (q_idx und35 sz23 rfl rfl (by omega) (gm (((k : Int) - 1).toNat) (by first | omega | simp)) rfl) rfl rfl rfl h12 rfl rfl ?_
                refine d_yes rfl (q_f fo23_0 rfl) rfl rfl rfl h12 rfl rfl ?_
                refine d_yes rfl (q_ld ag3 sz3 rfl (gm (((k : Int) - 1).toNat) (by first | omega | simp)) rfl (v_raw rfl)) rfl rfl rfl h12 rfl rfl ?_
                refine d_yes rfl (q_leq rfl rfl) rfl rfl rfl h12 rfl rfl ?_
                refine d_q rfl (q_pick_c rfl h12 (v_raw rfl)) rfl rfl rfl ?_
                refine d_q rfl (q_mv (v_raw rfl)) rfl rfl rfl ?_
                refine d_cases (want := false) (j := 16) rfl rfl (fun h13 => ?_) (fun h13 => ?_)
                · have k13 := h13; try simp only [decide_eq_true_eq, decide_eq_false_iff_not, Bool.not_eq_true', Bool.not_eq_false', Bool.not_true, Bool.not_false, List.length_map, Decidable.not_not] at k13
                  refine d_yes rfl (q_mv ((by first | exact v_raw rfl | exact v_sptr rfl))) rfl rfl rfl h13 rfl rfl ?_
                  refine d_yes rfl (q_mv (v_sl rfl)) rfl rfl rfl h13 rfl rfl ?_
                  refine d_yes rfl (q_mv (v_raw rfl)) rfl rfl rfl h13 rfl rfl ?_
                  refine d_yes rfl (q_idx und35 sz23 rfl rfl (by omega) (gm k (by first | omega | simp)) rfl) rfl rfl rfl h13 rfl rfl ?_
                  refine d_yes rfl (q_lde ag23 sz23 rfl (gm k (by first | omega | simp)) rfl rfl) rfl rfl rfl h13 rfl rfl ?_
                  refine d_s rfl ?_
                  refine o_yes rfl rfl rfl h13 ?_
                  refine o_call ((snd15 s c self f now (aliveN self f now 7)[k] _ bs' bc' sc (by omega) bok').det) goes15 (ac ((by first | exact v_raw rfl | exact v_sptr rfl)) (ac (v_agg rfl) ac_nil)) rfl ?_
                  refine o_nil ⟨(by simp [Mem.upd, *]), ?_⟩
                  refine d_yes rfl (q_not rfl) rfl rfl rfl h13 rfl rfl ?_
                  refine d_q rfl (q_pick_c rfl h13 (v_raw rfl)) rfl rfl rfl ?_
                  refine d_nil ?_
                  refine s_cond rfl (fun h14 => ?_) (fun h14 => ?_)
                  · have k14 := h14; try simp only [decide_eq_true_eq, decide_eq_false_iff_not, Bool.not_eq_true', Bool.not_eq_false', Bool.not_true, Bool.not_false, List.length_map, Decidable.not_not] at k14
                    rw [alive_is (by omega)] at h14; exact absurd h14 (by decide)
                  · have k14 := h14; try simp only [decide_eq_true_eq, decide_eq_false_iff_not, Bool.not_eq_true', Bool.not_eq_false', Bool.not_true, Bool.not_false, List.length_map, Decidable.not_not] at k14
                    refine s_skip ?_
                    refine s_blk_normal ?_
                    refine s_region ?_
                    refine o_q (q_mv (v_raw rfl)) rfl rfl rfl ?_
                    refine o_q (q_add rfl rfl (wrap64 (by omega) (by omega))) rfl rfl rfl ?_
                    refine o_q (q_as (v_raw rfl)) rfl rfl rfl ?_
                    refine o_nil ?_
                    refine s_inv ?_
                    exact ⟨(aliveN self f now 7).length - (k + 1), by omega, _, k + 1, St.mkT (kp (kp (kp (kp (kp (kp (kp (kp rfl rfl) rfl) rfl) rfl) rfl) rfl) (show _ = AVal.raw (.bool (meB _ self (k + 1))) by rw [meB_succ (by omega), k7, Bool.true_or]; rfl)) rfl).symm, by omega, rfl⟩
                · have k13 := h13; try simp only [decide_eq_true_eq, decide_eq_false_iff_not, Bool.not_eq_true', Bool.not_eq_false', Bool.not_true, Bool.not_false, List.length_map, Decidable.not_not] at k13
                  exact absurd (of_decide_eq_true h13) (by have := alive_lt (self := self) (f := f) (now := now) (j := ((k : Int) - 1).toNat) (k := k) (by omega) (by omega); omega)
              · have k12 := h12; try simp only [decide_eq_true_eq, decide_eq_false_iff_not, Bool.not_eq_true', Bool.not_eq_false', Bool.not_true, Bool.not_false, List.length_map, Decidable.not_not] at k12
                refine d_no rfl rfl rfl rfl h12 rfl ?_
                refine d_no rfl rfl rfl rfl h12 rfl ?_
                refine d_no rfl rfl rfl rfl h12 rfl ?_
                refine d_no rfl rfl rfl rfl h12 rfl ?_
                refine d_no rfl rfl rfl rfl h12 rfl ?_
                refine d_no rfl rfl rfl rfl h12 rfl ?_
                refine d_no rfl rfl rfl rfl h12 rfl ?_
                refine d_no rfl rfl rfl rfl h12 rfl ?_
                refine d_no rfl rfl rfl rfl h12 rfl ?_
                refine d_no rfl rfl rfl rfl h12 rfl ?_
                refine d_no rfl rfl rfl rfl h12 rfl ?_
                refine d_no rfl rfl rfl rfl h12 rfl ?_
                refine d_q rfl (q_pick_c rfl h12 (v_raw rfl)) rfl rfl rfl ?_
                refine d_q rfl (q_mv (v_raw rfl)) rfl rfl rfl ?_
                refine d_yes rfl (q_mv ((by first | exact v_raw rfl | exact v_sptr rfl))) rfl rfl rfl rfl rfl rfl ?_
                refine d_yes rfl (q_mv (v_sl rfl)) rfl rfl rfl rfl rfl rfl ?_
                refine d_yes rfl (q_mv (v_raw rfl)) rfl rfl rfl rfl rfl rfl ?_
                refine d_yes rfl (q_idx und35 sz23 rfl rfl (by omega) (gm k (by first | omega | simp)) rfl) rfl rfl rfl rfl rfl rfl ?_
                refine d_yes rfl (q_lde ag23 sz23 rfl (gm k (by first | omega | simp)) rfl rfl) rfl rfl rfl rfl rfl rfl ?_
                refine d_s rfl ?_
                refine o_yes rfl rfl rfl rfl ?_
                refine o_call ((snd15 s c self f now (aliveN self f now 7)[k] _ bs' bc' sc (by omega) bok').det) goes15 (ac ((by first | exact v_raw rfl | exact v_sptr rfl)) (ac (v_agg rfl) ac_nil)) rfl ?_
                refine o_nil ⟨(by simp [Mem.upd, *]), ?_⟩
                refine d_yes rfl (q_not rfl) rfl rfl rfl rfl rfl rfl ?_
                refine d_q rfl (q_pick_c rfl rfl (v_raw rfl)) rfl rfl rfl ?_
                refine d_nil ?_
                refine s_cond rfl (fun h15 => ?_) (fun h15 => ?_)
                · have k15 := h15; try simp only [decide_eq_true_eq, decide_eq_false_iff_not, Bool.not_eq_true', Bool.not_eq_false', Bool.not_true, Bool.not_false, List.length_map, Decidable.not_not] at k15
                  rw [alive_is (by omega)] at h15; exact absurd h15 (by decide)
                · have k15 := h15; try simp only [decide_eq_true_eq, decide_eq_false_iff_not, Bool.not_eq_true', Bool.not_eq_false', Bool.not_true, Bool.not_false, List.length_map, Decidable.not_not] at k15
                  refine s_skip ?_
                  refine s_blk_normal ?_
                  refine s_region ?_
                  refine o_q (q_mv (v_raw rfl)) rfl rfl rfl ?_
                  refine o_q (q_add rfl rfl (wrap64 (by omega) (by omega))) rfl rfl rfl ?_
                  refine o_q (q_as (v_raw rfl)) rfl rfl rfl ?_
                  refine o_nil ?_
                  refine s_inv ?_
                  exact ⟨(aliveN self f now 7).length - (k + 1), by omega, _, k + 1, St.mkT (kp (kp (kp (kp (kp (kp (kp (kp rfl rfl) rfl) rfl) rfl) rfl) rfl) (show _ = AVal.raw (.bool (meB _ self (k + 1))) by rw [meB_succ (by omega), k7, Bool.true_or]; rfl)) rfl).symm, by omega, rfl⟩
          · have k6 := h6; try simp only [decide_eq_true_eq, decide_eq_false_iff_not, Bool.not_eq_true', Bool.not_eq_false', Bool.not_true, Bool.not_false, List.length_map, Decidable.not_not] at k6
            refine s_exit ?_
            refine s_code_exit ?_
            refine s_inv_exit ?_
            refine s_blk_here ?_
            refine s_seq ?_
            refine s_region ?_
            refine o_q (q_mv (v_raw rfl)) rfl rfl rfl ?_
            refine o_q (q_not rfl) rfl rfl rfl ?_
            refine o_nil ?_
            refine s_cond rfl (fun h16 => ?_) (fun h16 => ?_)
            · have k16 := h16; try simp only [decide_eq_true_eq, decide_eq_false_iff_not, Bool.not_eq_true', Bool.not_eq_false', Bool.not_true, Bool.not_false, List.length_map, Decidable.not_not] at k16
              obtain rfl : k = (aliveN self f now 7).length := by omega
              simp [meB, alive_self rr.1 7 (by omega)] at h16
            · have k16 := h16; try simp only [decide_eq_true_eq, decide_eq_false_iff_not, Bool.not_eq_true', Bool.not_eq_false', Bool.not_true, Bool.not_false, List.length_map, Decidable.not_not] at k16
              refine s_skip ?_
              refine s_blk_normal ?_
              refine s_region ?_
              refine o_q (q_mv (v_raw rfl)) rfl rfl rfl ?_
              refine o_q (q_add rfl rfl (wrap64 (by omega) (by omega))) rfl rfl rfl ?_
              refine o_q (q_as (v_raw rfl)) rfl rfl rfl ?_
              refine o_nil ?_
              refine s_inv ?_
              exact ⟨deeds.length - (i + 1), by omega, _, _, f, now, i + 1, St.mkT (kp (kp (kp (kp (kp rfl rfl) rfl) rfl) rfl) rfl).symm, hle', ⟨bs', bc', bB', bok', bn'⟩, by omega, by omega, rfl⟩
        · have k4 := h4; try simp only [decide_eq_true_eq, decide_eq_false_iff_not, Bool.not_eq_true', Bool.not_eq_false', Bool.not_true, Bool.not_false, List.length_map, Decidable.not_not] at k4
          refine s_exit ?_
          refine s_code_exit ?_
          refine s_inv_exit ?_
          refine s_blk_here ?_
          refine s_seq ?_
          refine s_region ?_
          refine o_q (q_mv (v_raw rfl)) rfl rfl rfl ?_
          refine o_q (q_as (v_raw rfl)) rfl rfl rfl ?_
          refine o_nil ?_
          refine s_ret ?_
          refine s_end ?_
          exact ⟨rfl, hle⟩
      · have k3 := h3; try simp only [decide_eq_true_eq, decide_eq_false_iff_not, Bool.not_eq_true', Bool.not_eq_false', Bool.not_true, Bool.not_false, List.length_map, Decidable.not_not] at k3
        refine o_no rfl rfl rfl rfl h3 ?_
        refine o_no rfl rfl rfl rfl h3 ?_
        refine o_q (q_pick_c rfl h3 (v_raw rfl)) rfl rfl rfl ?_
        refine o_nil ?_
        refine s_else rfl rfl ?_
        refine s_exit ?_
        refine s_code_exit ?_
        refine s_inv_exit ?_
        refine s_blk_here ?_
        refine s_seq ?_
        refine s_region ?_
        refine o_q (q_mv (v_raw rfl)) rfl rfl rfl ?_
        refine o_q (q_as (v_raw rfl)) rfl rfl rfl ?_
        refine o_nil ?_
        refine s_ret ?_
        refine s_end ?_
        exact ⟨rfl, hle⟩
  · have k1 := h1; try simp only [decide_eq_true_eq, decide_eq_false_iff_not, Bool.not_eq_true', Bool.not_eq_false', Bool.not_true, Bool.not_false, List.length_map, Decidable.not_not] at k1
    first | exact absurd h1 (by decide) | (simp at h1; done) | (simp at h1; omega)

def tk4 : Nat → Nat → Option Nat := fun _ _ => none
def pl4 : Nat → List PStep := fun _ => []
theorem cb4 : Try.f4.body.map (codeB Try.prog Try.f4.ntmps tk4 pl4) = some true := by kernel_rfl
theorem goes4 : goesB Try.prog 4 = true := by kernel_rfl
-- carillon/carillonlaw13.SuspectHears params ['api.Member', 'api.Member', '[]int'] results [['t', 6]] own [] names ['0:self', '1:other', '2:gaps', '3:self', '4:other', '5:gaps', '7:head', '8:s', '9:e', '10:i', '11:n', '12:k'] calls [6, 7] paths 1
theorem snd4a (self other : Mb) (gaps : List Int) (o : Bool) (M : Mem) (hr : right self = false) : SoundCall Try.prog 4 [encM self, encM other, .sl (gaps.map int) o] M fun r M' => r = .raw (.bool true) ∧ M.le M' := by
  refine SoundCall.go tk4 pl4 mixed Try.func4 cb4 rfl (Nat.le_of_ble_eq_true rfl) ?_
  refine s_seq ?_
  refine s_region ?_
  refine o_box (by first | exact e_raw rfl | exact e_agg rfl | exact e_sl rfl) rfl rfl (fun B1 hB1 => ?_)
  have m1 : M B1 = none := by have h := hB1; repeat (first | exact h | replace h := (Mem.upd_none h).2)
  refine o_box (by first | exact e_raw rfl | exact e_agg rfl | exact e_sl rfl) rfl rfl (fun B2 hB2 => ?_)
  have f1_2 : B1 ≠ B2 := Mem.fresh_ne hB2 (by repeat first | exact Mem.upd_self _ _ _ | assumption | refine Mem.upd_ne (by assumption) ?_)
  have g2_1 : B2 ≠ B1 := f1_2.symm
  have m2 : M B2 = none := by have h := hB2; repeat (first | exact h | replace h := (Mem.upd_none h).2)
  refine o_q (q_as (v_raw rfl)) rfl rfl rfl ?_
  refine o_nil ?_
  refine s_seq ?_
  refine s_region ?_
  refine o_call ((snd6 _).det) goes6 ac_nil rfl ?_
  refine o_q (q_as (v_raw rfl)) rfl rfl rfl ?_
  refine o_nil ?_
  refine s_seq ?_
  refine s_region ?_
  refine o_q (q_ldmw ag23 sz23 rfl (by repeat first | exact Mem.upd_self _ _ _ | assumption | refine Mem.upd_ne (by assumption) ?_) rfl rfl) rfl rfl rfl ?_
  refine o_call (new7n self _ hr) goes7 (ac (v_agg rfl) ac_nil) rfl ?_
  refine o_q (q_mv (v_tup rfl)) rfl rfl rfl ?_
  refine o_q (q_ext rfl rfl ((by first | exact v_raw rfl | exact v_sptr rfl))) rfl rfl rfl ?_
  refine o_q (q_ext rfl rfl (v_raw rfl)) rfl rfl rfl ?_
  refine o_q (q_as ((by first | exact v_raw rfl | exact v_sptr rfl))) rfl rfl rfl ?_
  refine o_q (q_as (v_raw rfl)) rfl rfl rfl ?_
  refine o_nil ?_
  refine s_seq ?_
  refine s_seq ?_
  refine s_region ?_
  refine o_q (q_mv (v_raw rfl)) rfl rfl rfl ?_
  refine o_q (q_neq rfl rfl) rfl rfl rfl ?_
  refine o_q (q_mv (v_raw rfl)) rfl rfl rfl ?_
  refine o_cases (want := false) (j := 2) rfl rfl (fun h1 => ?_) (fun h1 => ?_)
  · have k1 := h1; try simp only [decide_eq_true_eq, decide_eq_false_iff_not, Bool.not_eq_true', Bool.not_eq_false', Bool.not_true, Bool.not_false, List.length_map, Decidable.not_not] at k1
    first | exact absurd h1 (by decide) | (simp at h1; done) | (simp at h1; omega)
  · have k1 := h1; try simp only [decide_eq_true_eq, decide_eq_false_iff_not, Bool.not_eq_true', Bool.not_eq_false', Bool.not_true, Bool.not_false, List.length_map, Decidable.not_not] at k1
    refine o_no rfl rfl rfl rfl h1 ?_
    refine o_no rfl rfl rfl rfl h1 ?_
    refine o_q (q_pick_c rfl h1 (v_raw rfl)) rfl rfl rfl ?_
    refine o_nil ?_
    refine s_then rfl rfl ?_
    refine s_seq ?_
    refine s_region ?_
    refine o_q (q_mv (v_raw rfl)) rfl rfl rfl ?_
    refine o_q (q_mv (v_raw rfl)) rfl rfl rfl ?_
    refine o_cases (want := true) (j := 1) rfl rfl (fun h2 => ?_) (fun h2 => ?_)
    · have k2 := h2; try simp only [decide_eq_true_eq, decide_eq_false_iff_not, Bool.not_eq_true', Bool.not_eq_false', Bool.not_true, Bool.not_false, List.length_map, Decidable.not_not] at k2
      refine o_yes rfl rfl rfl h2 ?_
      refine o_q (q_mv ((by first | exact v_raw rfl | exact v_sptr rfl))) rfl rfl rfl ?_
      refine o_yes rfl rfl rfl h2 ?_
      refine o_q (q_peql und26 rfl rfl) rfl rfl rfl ?_
      refine o_q (q_pick_c rfl h2 (v_raw rfl)) rfl rfl rfl ?_
      refine o_q (q_as (v_raw rfl)) rfl rfl rfl ?_
      refine o_nil ?_
      refine s_ret ?_
      refine s_code_ret ?_
      refine s_end ?_
      exact ⟨rfl, Mem.le_upd (Mem.le_upd (Mem.le_refl M) hB1) (Mem.upd_none hB2).2⟩
    · have k2 := h2; try simp only [decide_eq_true_eq, decide_eq_false_iff_not, Bool.not_eq_true', Bool.not_eq_false', Bool.not_true, Bool.not_false, List.length_map, Decidable.not_not] at k2
      first | exact absurd h2 (by decide) | (simp at h2; done) | (simp at h2; omega)

-- carillon/carillonlaw13.SuspectHears params ['api.Member', 'api.Member', '[]int'] results [['t', 6]] own [] names ['0:self', '1:other', '2:gaps', '3:self', '4:other', '5:gaps', '7:head', '8:s', '9:e', '10:i', '11:n', '12:k'] calls [6, 7, 11, 15] paths 2

theorem not_heard {self other : Mb} (hh : hearsB self (fun _ => (0, 0)) other = false) (hi : isB self (heardF self (fun _ => (0, 0)) 0 other) 0 other = true) : other.node = self.node := by
  have e : heardF self (fun _ => (0, 0)) 0 other = fun _ => (0, 0) := by unfold heardF; rw [hh]; rfl
  rw [e] at hi
  unfold isB at hi
  unfold hearsB at hh
  by_cases h : other.node = self.node
  · exact h
  · have hne : other ≠ self := fun h' => h (by rw [h'])
    cases hrr : right other with
    | false => simp [hne, hrr] at hi
    | true =>
      have := right_spec.1 hrr
      simp [hrr, h] at hh
      omega
theorem snd4b (self other : Mb) (gaps : List Int) (o : Bool) (M : Mem) (hr : right self = true) (hh : hearsB self (fun _ => (0, 0)) other = false) : SoundCall Try.prog 4 [encM self, encM other, .sl (gaps.map int) o] M fun r M' => r = .raw (.bool true) ∧ M.le M' := by
  refine SoundCall.go tk4 pl4 mixed Try.func4 cb4 rfl (Nat.le_of_ble_eq_true rfl) ?_
  refine s_seq ?_
  refine s_region ?_
  refine o_box (by first | exact e_raw rfl | exact e_agg rfl | exact e_sl rfl) rfl rfl (fun B1 hB1 => ?_)
  have m1 : M B1 = none := by have h := hB1; repeat (first | exact h | replace h := (Mem.upd_none h).2)
  refine o_box (by first | exact e_raw rfl | exact e_agg rfl | exact e_sl rfl) rfl rfl (fun B2 hB2 => ?_)
  have f1_2 : B1 ≠ B2 := Mem.fresh_ne hB2 (by repeat first | exact Mem.upd_self _ _ _ | assumption | refine Mem.upd_ne (by assumption) ?_)
  have g2_1 : B2 ≠ B1 := f1_2.symm
  have m2 : M B2 = none := by have h := hB2; repeat (first | exact h | replace h := (Mem.upd_none h).2)
  refine o_q (q_as (v_raw rfl)) rfl rfl rfl ?_
  refine o_nil ?_
  refine s_seq ?_
  refine s_region ?_
  refine o_call ((snd6 _).det) goes6 ac_nil rfl ?_
  refine o_q (q_as (v_raw rfl)) rfl rfl rfl ?_
  refine o_nil ?_
  refine s_seq ?_
  refine s_region ?_
  refine o_q (q_ldmw ag23 sz23 rfl (by repeat first | exact Mem.upd_self _ _ _ | assumption | refine Mem.upd_ne (by assumption) ?_) rfl rfl) rfl rfl rfl ?_
  refine o_callx (new7 self _ hr) goes7 (ac (v_agg rfl) ac_nil) rfl ?_
  rintro r M' ⟨s, c, hsn, hcn, sc, rfl, rfl⟩
  have sc' := sc.symm
  have a1 : B1 ≠ s := Mem.fresh_ne hsn (Mem.upd_ne f1_2 (Mem.upd_self _ _ _))
  have a2 : B2 ≠ s := Mem.fresh_ne hsn (Mem.upd_self _ _ _)
  have a3 : B1 ≠ c := Mem.fresh_ne hcn (Mem.upd_ne f1_2 (Mem.upd_self _ _ _))
  have a4 : B2 ≠ c := Mem.fresh_ne hcn (Mem.upd_self _ _ _)
  have ms := (Mem.upd_none (Mem.upd_none hsn).2).2
  have mc := (Mem.upd_none (Mem.upd_none hcn).2).2
  refine o_q (q_mv (v_tup rfl)) rfl rfl rfl ?_
  refine o_q (q_ext rfl rfl ((by first | exact v_raw rfl | exact v_sptr rfl))) rfl rfl rfl ?_
  refine o_q (q_ext rfl rfl (v_raw rfl)) rfl rfl rfl ?_
  refine o_q (q_as ((by first | exact v_raw rfl | exact v_sptr rfl))) rfl rfl rfl ?_
  refine o_q (q_as (v_raw rfl)) rfl rfl rfl ?_
  refine o_nil ?_
  refine s_seq ?_
  refine s_seq ?_
  refine s_region ?_
  refine o_q (q_mv (v_raw rfl)) rfl rfl rfl ?_
  refine o_q (q_neq rfl rfl) rfl rfl rfl ?_
  refine o_q (q_mv (v_raw rfl)) rfl rfl rfl ?_
  refine o_cases (want := false) (j := 2) rfl rfl (fun h1 => ?_) (fun h1 => ?_)
  · have k1 := h1; try simp only [decide_eq_true_eq, decide_eq_false_iff_not, Bool.not_eq_true', Bool.not_eq_false', Bool.not_true, Bool.not_false, List.length_map, Decidable.not_not] at k1
    refine o_yes rfl rfl rfl h1 ?_
    refine o_q (q_mv ((by first | exact v_raw rfl | exact v_sptr rfl))) rfl rfl rfl ?_
    refine o_yes rfl rfl rfl h1 ?_
    refine o_q (q_peql und26 rfl rfl) rfl rfl rfl ?_
    refine o_q (q_pick_c rfl h1 (v_raw rfl)) rfl rfl rfl ?_
    refine o_nil ?_
    refine s_cond rfl (fun h2 => ?_) (fun h2 => ?_)
    · have k2 := h2; try simp only [decide_eq_true_eq, decide_eq_false_iff_not, Bool.not_eq_true', Bool.not_eq_false', Bool.not_true, Bool.not_false, List.length_map, Decidable.not_not] at k2
      first | exact absurd h2 (by decide) | (simp at h2; done) | (simp at h2; omega)
    · have k2 := h2; try simp only [decide_eq_true_eq, decide_eq_false_iff_not, Bool.not_eq_true', Bool.not_eq_false', Bool.not_true, Bool.not_false, List.length_map, Decidable.not_not] at k2
      refine s_skip ?_
      refine s_seq ?_
      refine s_seq ?_
      refine s_region ?_
      refine o_q (q_mv ((by first | exact v_raw rfl | exact v_sptr rfl))) rfl rfl rfl ?_
      refine o_q (q_ldmw ag23 sz23 rfl (by repeat first | exact Mem.upd_self _ _ _ | assumption | refine Mem.upd_ne (by assumption) ?_) rfl rfl) rfl rfl rfl ?_
      refine o_callx (hear11 s c self (fun _ => (0, 0)) 0 other _ (by repeat first | exact Mem.upd_self _ _ _ | assumption | refine Mem.upd_ne (by assumption) ?_) (by repeat first | exact Mem.upd_self _ _ _ | assumption | refine Mem.upd_ne (by assumption) ?_) sc (by omega) (f0_ok 0 (Int.le_refl _))) goes11 (ac ((by first | exact v_raw rfl | exact v_sptr rfl)) (ac (v_agg rfl) ac_nil)) rfl ?_
      rw [hh]
      rintro r M' ⟨rfl, rfl⟩
      refine o_q (q_not rfl) rfl rfl rfl ?_
      refine o_nil ?_
      refine s_cond rfl (fun h3 => ?_) (fun h3 => ?_)
      · have k3 := h3; try simp only [decide_eq_true_eq, decide_eq_false_iff_not, Bool.not_eq_true', Bool.not_eq_false', Bool.not_true, Bool.not_false, List.length_map, Decidable.not_not] at k3
        refine s_seq ?_
        refine s_region ?_
        refine o_q (q_mv (v_raw rfl)) rfl rfl rfl ?_
        refine o_q (q_mv (v_raw rfl)) rfl rfl rfl ?_
        refine o_cases (want := true) (j := 1) rfl rfl (fun h4 => ?_) (fun h4 => ?_)
        · have k4 := h4; try simp only [decide_eq_true_eq, decide_eq_false_iff_not, Bool.not_eq_true', Bool.not_eq_false', Bool.not_true, Bool.not_false, List.length_map, Decidable.not_not] at k4
          refine o_yes rfl rfl rfl h4 ?_
          refine o_q (q_mv ((by first | exact v_raw rfl | exact v_sptr rfl))) rfl rfl rfl ?_
          refine o_yes rfl rfl rfl h4 ?_
          refine o_q (q_ldmw ag23 sz23 rfl (by repeat first | exact Mem.upd_self _ _ _ | assumption | refine Mem.upd_ne (by assumption) ?_) rfl rfl) rfl rfl rfl ?_
          refine o_yes rfl rfl rfl h4 ?_
          refine o_call ((snd15 s c self (heardF self (fun _ => (0, 0)) 0 other) 0 other _ (by repeat first | exact Mem.upd_self _ _ _ | assumption | refine Mem.upd_ne (by assumption) ?_) (by repeat first | exact Mem.upd_self _ _ _ | assumption | refine Mem.upd_ne (by assumption) ?_) sc (by omega) (heardF_ok (Int.le_refl _) (f0_ok 0 (Int.le_refl _)))).det) goes15 (ac ((by first | exact v_raw rfl | exact v_sptr rfl)) (ac (v_agg rfl) ac_nil)) rfl ?_
          refine o_yes rfl rfl rfl h4 ?_
          refine o_q (q_not rfl) rfl rfl rfl ?_
          refine o_q (q_pick_c rfl h4 (v_raw rfl)) rfl rfl rfl ?_
          refine o_q (q_mv (v_raw rfl)) rfl rfl rfl ?_
          refine o_cases (want := false) (j := 7) rfl rfl (fun h5 => ?_) (fun h5 => ?_)
          · have k5 := h5; try simp only [decide_eq_true_eq, decide_eq_false_iff_not, Bool.not_eq_true', Bool.not_eq_false', Bool.not_true, Bool.not_false, List.length_map, Decidable.not_not] at k5
            refine o_yes rfl rfl rfl h5 ?_
            refine o_q (q_mv (v_raw rfl)) rfl rfl rfl ?_
            refine o_yes rfl rfl rfl h5 ?_
            refine o_q (q_mv (v_raw rfl)) rfl rfl rfl ?_
            refine o_cases (want := true) (j := 9) rfl rfl (fun h6 => ?_) (fun h6 => ?_)
            · have k6 := h6; try simp only [decide_eq_true_eq, decide_eq_false_iff_not, Bool.not_eq_true', Bool.not_eq_false', Bool.not_true, Bool.not_false, List.length_map, Decidable.not_not] at k6
              refine o_yes rfl rfl rfl h6 ?_
              refine o_q (q_fr fo23_0 rfl) rfl rfl rfl ?_
              refine o_yes rfl rfl rfl h6 ?_
              refine o_q (q_ldm ag3 sz3 rfl (by repeat first | exact Mem.upd_self _ _ _ | assumption | refine Mem.upd_ne (by assumption) ?_) rfl (v_raw rfl)) rfl rfl rfl ?_
              refine o_yes rfl rfl rfl h6 ?_
              refine o_q (q_fr fo23_0 rfl) rfl rfl rfl ?_
              refine o_yes rfl rfl rfl h6 ?_
              refine o_q (q_ldm ag3 sz3 rfl (by repeat first | exact Mem.upd_self _ _ _ | assumption | refine Mem.upd_ne (by assumption) ?_) rfl (v_raw rfl)) rfl rfl rfl ?_
              refine o_yes rfl rfl rfl h6 ?_
              refine o_q (q_eql rfl rfl) rfl rfl rfl ?_
              refine o_yes rfl rfl rfl h5 ?_
              refine o_q (q_pick_c rfl h6 (v_raw rfl)) rfl rfl rfl ?_
              refine o_q (q_pick_c rfl h5 (v_raw rfl)) rfl rfl rfl ?_
              refine o_q (q_as (v_raw rfl)) rfl rfl rfl ?_
              refine o_nil ?_
              refine s_ret ?_
              refine s_code_ret ?_
              refine s_end ?_
              first | exact ⟨rfl, (by repeat first | exact Mem.le_refl M | assumption | refine Mem.le_upd ?_ ?_)⟩ | exact ⟨congrArg (fun b => AVal.raw (.bool b)) (decide_eq_true (not_heard hh (by simpa using h5))), (by repeat first | exact Mem.le_refl M | assumption | refine Mem.le_upd ?_ ?_)⟩ | (refine ⟨?_, (by repeat first | exact Mem.le_refl M | assumption | refine Mem.le_upd ?_ ?_)⟩; simp_all; done)
            · have k6 := h6; try simp only [decide_eq_true_eq, decide_eq_false_iff_not, Bool.not_eq_true', Bool.not_eq_false', Bool.not_true, Bool.not_false, List.length_map, Decidable.not_not] at k6
              first | exact absurd h6 (by decide) | (simp at h6; done) | (simp at h6; omega)
          · have k5 := h5; try simp only [decide_eq_true_eq, decide_eq_false_iff_not, Bool.not_eq_true', Bool.not_eq_false', Bool.not_true, Bool.not_false, List.length_map, Decidable.not_not] at k5
            refine o_no rfl rfl rfl rfl h5 ?_
            refine o_no rfl rfl rfl rfl h5 ?_
            refine o_skip rfl rfl rfl rfl ?_
            refine o_skip rfl rfl rfl rfl ?_
            refine o_skip rfl rfl rfl rfl ?_
            refine o_skip rfl rfl rfl rfl ?_
            refine o_skip rfl rfl rfl rfl ?_
            refine o_no rfl rfl rfl rfl h5 ?_
            refine o_q (q_pick_c rfl h5 (v_raw rfl)) rfl rfl rfl ?_
            refine o_q (q_as (v_raw rfl)) rfl rfl rfl ?_
            refine o_nil ?_
            refine s_ret ?_
            refine s_code_ret ?_
            refine s_end ?_
            first | exact ⟨rfl, (by repeat first | exact Mem.le_refl M | assumption | refine Mem.le_upd ?_ ?_)⟩ | exact ⟨congrArg (fun b => AVal.raw (.bool b)) (decide_eq_true (not_heard hh (by simpa using h5))), (by repeat first | exact Mem.le_refl M | assumption | refine Mem.le_upd ?_ ?_)⟩ | (refine ⟨?_, (by repeat first | exact Mem.le_refl M | assumption | refine Mem.le_upd ?_ ?_)⟩; simp_all; done)
        · have k4 := h4; try simp only [decide_eq_true_eq, decide_eq_false_iff_not, Bool.not_eq_true', Bool.not_eq_false', Bool.not_true, Bool.not_false, List.length_map, Decidable.not_not] at k4
          first | exact absurd h4 (by decide) | (simp at h4; done) | (simp at h4; omega)
      · have k3 := h3; try simp only [decide_eq_true_eq, decide_eq_false_iff_not, Bool.not_eq_true', Bool.not_eq_false', Bool.not_true, Bool.not_false, List.length_map, Decidable.not_not] at k3
        first | exact absurd h3 (by decide) | (simp at h3; done) | (simp at h3; omega)
  · have k1 := h1; try simp only [decide_eq_true_eq, decide_eq_false_iff_not, Bool.not_eq_true', Bool.not_eq_false', Bool.not_true, Bool.not_false, List.length_map, Decidable.not_not] at k1
    first | exact absurd h1 (by decide) | (simp at h1; done) | (simp at h1; omega)

-- carillon/carillonlaw13.SuspectHears params ['api.Member', 'api.Member', '[]int'] results [['t', 6]] own [] names ['0:self', '1:other', '2:gaps', '3:self', '4:other', '5:gaps', '7:head', '8:s', '9:e', '10:i', '11:n', '12:k'] calls [6, 7, 9, 11, 15] paths 8

theorem heard_of (self other : Mb) (f f' : Nat → Int × Int) (h : hearsB self f other = true) (hf : (f' other.node.toNat).1 ≤ other.life) : hearsB self f' other = true := by
  simp only [hearsB, Bool.and_eq_true, Bool.not_eq_true', decide_eq_false_iff_not] at h ⊢
  exact ⟨h.1, by omega⟩
theorem is_other (self other : Mb) (f f' : Nat → Int × Int) (wn k : Int) (h : hearsB self f other = true) (hf : f' other.node.toNat = (other.life, wn)) : isB self f' (wn + k) other = decide (k < 5) := by
  simp only [hearsB, Bool.and_eq_true, Bool.not_eq_true', decide_eq_false_iff_not] at h
  have hne : other ≠ self := fun e => h.1.2 (by rw [e])
  have e : (wn + k - wn < 5) = (k < 5) := propext ⟨fun _ => by omega, fun _ => by omega⟩
  simp [isB, hne, h.1.1, h.1.2, hf, e]
theorem is15_other (s c : Nat) (self : Mb) (f : Nat → Int × Int) (now : Int) (m : Mb) (M : Mem) (hs : M s = some (.cells (sus self f c))) (hc : M c = some (.cells [int now])) (hsc : s ≠ c) (hw : 0 ≤ now ∧ now < 2 ^ 60) (hf : ∀ i, 0 ≤ (f i).2 ∧ (f i).2 ≤ now)
    (wn k : Int) (e : now = wn + k) {f' : Nat → Int × Int} (h : hearsB self f' m = true) (hfo : f m.node.toNat = (m.life, wn)) : SoundCall Try.prog 15 [ptr s, encM m] M fun r M' => r = .raw (.bool (decide (k < 5))) ∧ M' = M := by
  have h1 := (snd15 s c self f now m M hs hc hsc hw hf).det
  rw [e, is_other self m f' f wn k h hfo] at h1
  exact h1
theorem is_self (self : Mb) (f : Nat → Int × Int) (now : Int) : isB self f now self = true := by simp [isB]
theorem is15_self (s c : Nat) (self : Mb) (f : Nat → Int × Int) (now : Int) (M : Mem) (hs : M s = some (.cells (sus self f c))) (hc : M c = some (.cells [int now])) (hsc : s ≠ c) (hw : 0 ≤ now ∧ now < 2 ^ 60) (hf : ∀ i, 0 ≤ (f i).2 ∧ (f i).2 ≤ now) :
    SoundCall Try.prog 15 [ptr s, encM self] M fun r M' => r = .raw (.bool true) ∧ M' = M := by
  have h1 := (snd15 s c self f now self M hs hc hsc hw hf).det
  rw [is_self] at h1
  exact h1
theorem not_elder (self other : Mb) (f : Nat → Int × Int) (wn : Int) (hf : f other.node.toNat = (other.life, wn)) : hearsB self f ⟨other.node, other.life - 1⟩ = false := by
  have : other.life - 1 < other.life := by omega
  simp [hearsB, hf, this]
theorem heardF_eq (self other : Mb) (f f' : Nat → Int × Int) (now : Int) (h : hearsB self f other = true) (hf : (f' other.node.toNat).1 ≤ other.life) : heardF self f' now other other.node.toNat = (other.life, now) := by
  unfold heardF; rw [heard_of self other f f' h hf]; simp [fupd]
set_option maxRecDepth 20000 in
theorem snd4c (self other : Mb) (gaps : List Int) (o : Bool) (M : Mem) (hr : right self = true) (hh : hearsB self (fun _ => (0, 0)) other = true) (hl : gaps.length < 2 ^ 47) (hgs : ∀ n ∈ gaps, -2 ^ 63 ≤ n ∧ n < 2 ^ 63) : SoundCall Try.prog 4 [encM self, encM other, .sl (gaps.map int) o] M fun r M' => r = .raw (.bool true) ∧ M.le M' := by
  have hro : right other = true := by simp only [hearsB, Bool.and_eq_true] at hh; exact hh.1.1
  have rro := right_spec.1 hro
  refine SoundCall.go tk4 pl4 mixed Try.func4 cb4 rfl (Nat.le_of_ble_eq_true rfl) ?_
  refine s_seq ?_
  refine s_region ?_
  refine o_box (by first | exact e_raw rfl | exact e_agg rfl | exact e_sl rfl) rfl rfl (fun B1 hB1 => ?_)
  have m1 : M B1 = none := by have h := hB1; repeat (first | exact h | replace h := (Mem.upd_none h).2)
  refine o_box (by first | exact e_raw rfl | exact e_agg rfl | exact e_sl rfl) rfl rfl (fun B2 hB2 => ?_)
  have f1_2 : B1 ≠ B2 := Mem.fresh_ne hB2 (by repeat first | exact Mem.upd_self _ _ _ | assumption | refine Mem.upd_ne (by assumption) ?_)
  have g2_1 : B2 ≠ B1 := f1_2.symm
  have m2 : M B2 = none := by have h := hB2; repeat (first | exact h | replace h := (Mem.upd_none h).2)
  refine o_q (q_as (v_raw rfl)) rfl rfl rfl ?_
  refine o_nil ?_
  refine s_seq ?_
  refine s_region ?_
  refine o_call ((snd6 _).det) goes6 ac_nil rfl ?_
  refine o_q (q_as (v_raw rfl)) rfl rfl rfl ?_
  refine o_nil ?_
  refine s_seq ?_
  refine s_region ?_
  refine o_q (q_ldmw ag23 sz23 rfl (by repeat first | exact Mem.upd_self _ _ _ | assumption | refine Mem.upd_ne (by assumption) ?_) rfl rfl) rfl rfl rfl ?_
  refine o_callx (new7 self _ hr) goes7 (ac (v_agg rfl) ac_nil) rfl ?_
  rintro r M' ⟨s, c, hsn, hcn, sc, rfl, rfl⟩
  have sc' := sc.symm
  have a1 : B1 ≠ s := Mem.fresh_ne hsn (Mem.upd_ne f1_2 (Mem.upd_self _ _ _))
  have a2 : B2 ≠ s := Mem.fresh_ne hsn (Mem.upd_self _ _ _)
  have a3 : B1 ≠ c := Mem.fresh_ne hcn (Mem.upd_ne f1_2 (Mem.upd_self _ _ _))
  have a4 : B2 ≠ c := Mem.fresh_ne hcn (Mem.upd_self _ _ _)
  have ms := (Mem.upd_none (Mem.upd_none hsn).2).2
  have mc := (Mem.upd_none (Mem.upd_none hcn).2).2
  refine o_q (q_mv (v_tup rfl)) rfl rfl rfl ?_
  refine o_q (q_ext rfl rfl ((by first | exact v_raw rfl | exact v_sptr rfl))) rfl rfl rfl ?_
  refine o_q (q_ext rfl rfl (v_raw rfl)) rfl rfl rfl ?_
  refine o_q (q_as ((by first | exact v_raw rfl | exact v_sptr rfl))) rfl rfl rfl ?_
  refine o_q (q_as (v_raw rfl)) rfl rfl rfl ?_
  refine o_nil ?_
  refine s_seq ?_
  refine s_seq ?_
  refine s_region ?_
  refine o_q (q_mv (v_raw rfl)) rfl rfl rfl ?_
  refine o_q (q_neq rfl rfl) rfl rfl rfl ?_
  refine o_q (q_mv (v_raw rfl)) rfl rfl rfl ?_
  refine o_cases (want := false) (j := 2) rfl rfl (fun h1 => ?_) (fun h1 => ?_)
  · have k1 := h1; try simp only [decide_eq_true_eq, decide_eq_false_iff_not, Bool.not_eq_true', Bool.not_eq_false', Bool.not_true, Bool.not_false, List.length_map, Decidable.not_not] at k1
    refine o_yes rfl rfl rfl h1 ?_
    refine o_q (q_mv ((by first | exact v_raw rfl | exact v_sptr rfl))) rfl rfl rfl ?_
    refine o_yes rfl rfl rfl h1 ?_
    refine o_q (q_peql und26 rfl rfl) rfl rfl rfl ?_
    refine o_q (q_pick_c rfl h1 (v_raw rfl)) rfl rfl rfl ?_
    refine o_nil ?_
    refine s_cond rfl (fun h2 => ?_) (fun h2 => ?_)
    · have k2 := h2; try simp only [decide_eq_true_eq, decide_eq_false_iff_not, Bool.not_eq_true', Bool.not_eq_false', Bool.not_true, Bool.not_false, List.length_map, Decidable.not_not] at k2
      first | exact absurd h2 (by decide) | (simp at h2; done) | (simp at h2; omega)
    · have k2 := h2; try simp only [decide_eq_true_eq, decide_eq_false_iff_not, Bool.not_eq_true', Bool.not_eq_false', Bool.not_true, Bool.not_false, List.length_map, Decidable.not_not] at k2
      refine s_skip ?_
      refine s_seq ?_
      refine s_seq ?_
      refine s_region ?_
      refine o_q (q_mv ((by first | exact v_raw rfl | exact v_sptr rfl))) rfl rfl rfl ?_
      refine o_q (q_ldmw ag23 sz23 rfl (by repeat first | exact Mem.upd_self _ _ _ | assumption | refine Mem.upd_ne (by assumption) ?_) rfl rfl) rfl rfl rfl ?_
      refine o_callx (hear11 s c self (fun _ => (0, 0)) 0 other _ (by repeat first | exact Mem.upd_self _ _ _ | assumption | refine Mem.upd_ne (by assumption) ?_) (by repeat first | exact Mem.upd_self _ _ _ | assumption | refine Mem.upd_ne (by assumption) ?_) sc (by omega) (f0_ok 0 (Int.le_refl _))) goes11 (ac ((by first | exact v_raw rfl | exact v_sptr rfl)) (ac (v_agg rfl) ac_nil)) rfl ?_
      rw [hh]
      rintro r M' ⟨rfl, rfl⟩
      refine o_q (q_not rfl) rfl rfl rfl ?_
      refine o_nil ?_
      refine s_cond rfl (fun h3 => ?_) (fun h3 => ?_)
      · have k3 := h3; try simp only [decide_eq_true_eq, decide_eq_false_iff_not, Bool.not_eq_true', Bool.not_eq_false', Bool.not_true, Bool.not_false, List.length_map, Decidable.not_not] at k3
        first | exact absurd h3 (by decide) | (simp at h3; done) | (simp at h3; omega)
      · have k3 := h3; try simp only [decide_eq_true_eq, decide_eq_false_iff_not, Bool.not_eq_true', Bool.not_eq_false', Bool.not_true, Bool.not_false, List.length_map, Decidable.not_not] at k3
        refine s_skip ?_
        refine s_seq ?_
        refine s_seq ?_
        refine s_region ?_
        refine o_q (q_as (v_raw rfl)) rfl rfl rfl ?_
        refine o_nil ?_
        refine s_cut (fun S => ∃ T, ∃ M' : Mem, ∃ f wn, ∃ i : Nat, S = ⟨setT (setT (setT (setT (setT (setT T 3 (ptr B1)) 4 (ptr B2)) 2 (.sl (gaps.map int) o)) 7 (.raw (.bool true))) 8 (ptr s)) 10 (int i), M'⟩ ∧ M.le M' ∧ (M' s = some (.cells (sus self f c)) ∧ M' c = some (.cells [int wn]) ∧ M' B1 = some (.cells (encM self).cells) ∧ M' B2 = some (.cells (encM other).cells) ∧ (∀ i, 0 ≤ (f i).2 ∧ (f i).2 ≤ wn) ∧ f other.node.toNat = (other.life, wn) ∧ 0 ≤ wn) ∧ wn ≤ 6 * i ∧ i ≤ gaps.length) ?_ ?_
        · skip
          refine s_block ?_
          refine s_loop (fun m S => ∃ T, ∃ M' : Mem, ∃ f wn, ∃ i : Nat, S = ⟨setT (setT (setT (setT (setT (setT T 3 (ptr B1)) 4 (ptr B2)) 2 (.sl (gaps.map int) o)) 7 (.raw (.bool true))) 8 (ptr s)) 10 (int i), M'⟩ ∧ M.le M' ∧ (M' s = some (.cells (sus self f c)) ∧ M' c = some (.cells [int wn]) ∧ M' B1 = some (.cells (encM self).cells) ∧ M' B2 = some (.cells (encM other).cells) ∧ (∀ i, 0 ≤ (f i).2 ∧ (f i).2 ≤ wn) ∧ f other.node.toNat = (other.life, wn) ∧ 0 ≤ wn) ∧ wn ≤ 6 * i ∧ i ≤ gaps.length ∧ m = gaps.length - i) gaps.length ?_ ?_
          · exact ⟨_, _, heardF self (fun _ => (0, 0)) 0 other, 0, 0, St.mkT (kp (kp (kp (kp (kp (kp rfl rfl) rfl) rfl) rfl) rfl) rfl).symm, (by repeat first | exact hle | exact Mem.le_refl M | assumption | refine Mem.le_upd ?_ ?_), ⟨(by repeat first | exact Mem.upd_self _ _ _ | assumption | refine Mem.upd_ne (by assumption) ?_), (by repeat first | exact Mem.upd_self _ _ _ | assumption | refine Mem.upd_ne (by assumption) ?_), (by repeat first | exact Mem.upd_self _ _ _ | assumption | refine Mem.upd_ne (by assumption) ?_), (by repeat first | exact Mem.upd_self _ _ _ | assumption | refine Mem.upd_ne (by assumption) ?_), heardF_ok (Int.le_refl _) (f0_ok 0 (Int.le_refl _)), heardF_eq self other _ _ 0 hh (by show (0 : Int) ≤ _; have := right_spec.1 hro; omega), Int.le_refl _⟩, by omega, by omega, rfl⟩
          rintro m S ⟨T, M', f, wn, i, rfl, hle, ⟨bs, bc, bB, bB2, hok, hfo, hwn⟩, hni, hi, rfl⟩
          have hears : hearsB self f other = true := heard_of self other _ f hh (by rw [hfo]; exact Int.le_refl _)
          refine s_seq ?_
          refine s_seq ?_
          refine s_region ?_
          refine o_q (q_mv (v_raw rfl)) rfl rfl rfl ?_
          refine o_q (q_mv (v_sl rfl)) rfl rfl rfl ?_
          refine o_q (q_len rfl und38 rfl) rfl rfl rfl ?_
          refine o_q (q_lss rfl rfl) rfl rfl rfl ?_
          refine o_q (q_mv (v_raw rfl)) rfl rfl rfl ?_
          refine o_cases (want := true) (j := 4) rfl rfl (fun h4 => ?_) (fun h4 => ?_)
          · have k4 := h4; try simp only [decide_eq_true_eq, decide_eq_false_iff_not, Bool.not_eq_true', Bool.not_eq_false', Bool.not_true, Bool.not_false, List.length_map, Decidable.not_not] at k4
            refine o_yes rfl rfl rfl h4 ?_
            refine o_q (q_mv (v_raw rfl)) rfl rfl rfl ?_
            refine o_yes rfl rfl rfl h4 ?_
            refine o_q (q_lss rfl rfl) rfl rfl rfl ?_
            refine o_q (q_pick_c rfl h4 (v_raw rfl)) rfl rfl rfl ?_
            refine o_nil ?_
            refine s_cond rfl (fun h5 => ?_) (fun h5 => ?_)
            · have k5 := h5; try simp only [decide_eq_true_eq, decide_eq_false_iff_not, Bool.not_eq_true', Bool.not_eq_false', Bool.not_true, Bool.not_false, List.length_map, Decidable.not_not] at k5
              have hgi := hgs gaps[i] (List.getElem_mem _)
              refine s_skip ?_
              refine s_seq ?_
              refine s_block ?_
              refine s_seq ?_
              refine s_region ?_
              refine o_q (q_mv (v_sl rfl)) rfl rfl rfl ?_
              refine o_q (q_mv (v_raw rfl)) rfl rfl rfl ?_
              refine o_q (q_idx und38 sz3 rfl rfl (by omega) (gm i (by first | omega | simp)) rfl) rfl rfl rfl ?_
              refine o_q (q_ld ag3 sz3 rfl (gm i (by first | omega | simp)) rfl (v_raw rfl)) rfl rfl rfl ?_
              refine o_q (q_as (v_raw rfl)) rfl rfl rfl ?_
              refine o_nil ?_
              refine s_seq ?_
              refine s_seq ?_
              refine s_region ?_
              refine o_q (q_mv (v_raw rfl)) rfl rfl rfl ?_
              refine o_q (q_lss rfl rfl) rfl rfl rfl ?_
              refine o_nil ?_
              refine s_cut (fun S => ∃ T, ∃ n : Int, S = ⟨setT (setT (setT (setT (setT (setT (setT T 3 (ptr B1)) 4 (ptr B2)) 2 (.sl (gaps.map int) o)) 7 (.raw (.bool true))) 8 (ptr s)) 10 (int i)) 11 (int n), M'⟩ ∧ 0 ≤ n ∧ n < 2 ^ 63) ?_ ?_
              · skip
                refine s_cond rfl (fun h6 => ?_) (fun h6 => ?_)
                · have k6 := h6; try simp only [decide_eq_true_eq, decide_eq_false_iff_not, Bool.not_eq_true', Bool.not_eq_false', Bool.not_true, Bool.not_false, List.length_map, Decidable.not_not] at k6
                  refine s_region ?_
                  refine o_q (q_mv (v_raw rfl)) rfl rfl rfl ?_
                  refine o_q (q_add rfl rfl (wrap64 (by omega) (by omega))) rfl rfl rfl ?_
                  refine o_q (q_neg rfl (wrap64 (by omega) (by omega))) rfl rfl rfl ?_
                  refine o_q (q_as (v_raw rfl)) rfl rfl rfl ?_
                  refine o_nil ?_
                  refine s_inv ?_
                  exact ⟨_, -(gaps[i] + 1), St.mkT (kp (kp (kp (kp (kp (kp (kp rfl rfl) rfl) rfl) rfl) rfl) rfl) rfl).symm, by omega, by omega⟩
                · have k6 := h6; try simp only [decide_eq_true_eq, decide_eq_false_iff_not, Bool.not_eq_true', Bool.not_eq_false', Bool.not_true, Bool.not_false, List.length_map, Decidable.not_not] at k6
                  refine s_skip ?_
                  refine s_inv ?_
                  exact ⟨_, gaps[i], St.mkT (kp (kp (kp (kp (kp (kp (kp rfl rfl) rfl) rfl) rfl) rfl) rfl) rfl).symm, by omega, by omega⟩
              rintro S ⟨T, n, rfl, hn0, hn1⟩
              have n70 : 0 ≤ n.tmod 7 := Int.tmod_nonneg _ hn0
              have n77 : n.tmod 7 < 7 := Int.tmod_lt_of_pos _ (by omega)
              refine s_seq ?_
              refine s_region ?_
              refine o_q (q_mv (v_raw rfl)) rfl rfl rfl ?_
              refine o_q (q_rem rfl rfl (by decide)) rfl rfl rfl ?_
              refine o_q (q_as (v_raw rfl)) rfl rfl rfl ?_
              refine o_nil ?_
              refine s_seq ?_
              refine s_seq ?_
              refine s_region ?_
              refine o_q (q_as (v_raw rfl)) rfl rfl rfl ?_
              refine o_nil ?_
              refine s_block ?_
              refine s_loop (fun m S => ∃ T, ∃ M' : Mem, ∃ k : Nat, S = ⟨setT (setT (setT (setT (setT (setT (setT (setT T 3 (ptr B1)) 4 (ptr B2)) 2 (.sl (gaps.map int) o)) 7 (.raw (.bool true))) 8 (ptr s)) 10 (int i)) 11 (int (n.tmod 7))) 12 (int k), M'⟩ ∧ M.le M' ∧ (M' s = some (.cells (sus self f c)) ∧ M' c = some (.cells [int (wn + k)]) ∧ M' B1 = some (.cells (encM self).cells) ∧ M' B2 = some (.cells (encM other).cells) ∧ (∀ i, 0 ≤ (f i).2 ∧ (f i).2 ≤ (wn + k)) ∧ f other.node.toNat = (other.life, wn) ∧ 0 ≤ wn) ∧ (k : Int) ≤ n.tmod 7 ∧ m = (n.tmod 7).toNat - k) (n.tmod 7).toNat ?_ ?_
              · exact ⟨_, _, 0, St.mkT (kp (kp (kp (kp (kp (kp (kp (kp rfl rfl) rfl) rfl) rfl) rfl) rfl) rfl) rfl).symm, hle, ⟨bs, by simpa using bc, bB, bB2, by simpa using hok, hfo, hwn⟩, by omega, rfl⟩
              rintro m S ⟨T, M', k, rfl, hle', ⟨bs', bc', bB', bB2', hok', hfo', hwn'⟩, hkn, rfl⟩
              refine s_seq ?_
              refine s_seq ?_
              refine s_region ?_
              refine o_q (q_mv (v_raw rfl)) rfl rfl rfl ?_
              refine o_q (q_mv (v_raw rfl)) rfl rfl rfl ?_
              refine o_q (q_lss rfl rfl) rfl rfl rfl ?_
              refine o_nil ?_
              refine s_cond rfl (fun h7 => ?_) (fun h7 => ?_)
              · have k7 := h7; try simp only [decide_eq_true_eq, decide_eq_false_iff_not, Bool.not_eq_true', Bool.not_eq_false', Bool.not_true, Bool.not_false, List.length_map, Decidable.not_not] at k7
                refine s_skip ?_
                refine s_seq ?_
                refine s_block ?_
                refine s_seq ?_
                refine s_seq ?_
                refine s_region ?_
                refine o_q (q_mv ((by first | exact v_raw rfl | exact v_sptr rfl))) rfl rfl rfl ?_
                refine o_q (q_ldm ag23 sz23 rfl (by repeat first | exact Mem.upd_self _ _ _ | assumption | refine Mem.upd_ne (by assumption) ?_) rfl (v_agg rfl)) rfl rfl rfl ?_
                refine o_call (is15_other s c self (f) (wn + k) other _ (by repeat first | exact Mem.upd_self _ _ _ | assumption | refine Mem.upd_ne (by assumption) ?_) (by repeat first | exact Mem.upd_self _ _ _ | assumption | refine Mem.upd_ne (by assumption) ?_) sc (by omega) (hok') wn k rfl hh (hfo)) goes15 (ac ((by first | exact v_raw rfl | exact v_sptr rfl)) (ac (v_agg rfl) ac_nil)) rfl ?_
                refine o_q (q_mv (v_raw rfl)) rfl rfl rfl ?_
                refine o_q (q_lss rfl rfl) rfl rfl rfl ?_
                refine o_q (q_bneq und4 rfl rfl) rfl rfl rfl ?_
                refine o_nil ?_
                refine s_cond rfl (fun h8 => ?_) (fun h8 => ?_)
                · have k8 := h8; try simp only [decide_eq_true_eq, decide_eq_false_iff_not, Bool.not_eq_true', Bool.not_eq_false', Bool.not_true, Bool.not_false, List.length_map, Decidable.not_not] at k8
                  first | exact absurd h8 (by decide) | (simp at h8; done) | (simp at h8; omega)
                · have k8 := h8; try simp only [decide_eq_true_eq, decide_eq_false_iff_not, Bool.not_eq_true', Bool.not_eq_false', Bool.not_true, Bool.not_false, List.length_map, Decidable.not_not] at k8
                  refine s_skip ?_
                  refine s_region ?_
                  refine o_q (q_mv ((by first | exact v_raw rfl | exact v_sptr rfl))) rfl rfl rfl ?_
                  refine o_callx (snd9 s c self f (wn + k) _ bs' bc' (by omega)) goes9 (ac ((by first | exact v_raw rfl | exact v_sptr rfl)) ac_nil) rfl ?_
                  rintro r M' ⟨rfl, rfl⟩
                  refine o_nil ?_
                  refine s_blk_normal ?_
                  refine s_region ?_
                  refine o_q (q_mv (v_raw rfl)) rfl rfl rfl ?_
                  refine o_q (q_add rfl rfl (wrap64 (by omega) (by omega))) rfl rfl rfl ?_
                  refine o_q (q_as (v_raw rfl)) rfl rfl rfl ?_
                  refine o_nil ?_
                  refine s_inv ?_
                  exact ⟨(n.tmod 7).toNat - (k + 1), by omega, _, _, k + 1, St.mkT (kp (kp (kp (kp (kp (kp (kp (kp rfl rfl) rfl) rfl) rfl) rfl) rfl) rfl) rfl).symm, (by repeat first | exact hle | exact Mem.le_refl M | assumption | refine Mem.le_upd ?_ ?_), ⟨(by repeat first | exact Mem.upd_self _ _ _ | assumption | refine Mem.upd_ne (by assumption) ?_), by have e : wn + ((k + 1 : Nat) : Int) = wn + k + 1 := (by omega); rw [e]; exact (by repeat first | exact Mem.upd_self _ _ _ | assumption | refine Mem.upd_ne (by assumption) ?_), (by repeat first | exact Mem.upd_self _ _ _ | assumption | refine Mem.upd_ne (by assumption) ?_), (by repeat first | exact Mem.upd_self _ _ _ | assumption | refine Mem.upd_ne (by assumption) ?_), fun j => ⟨(hok' j).1, by have := (hok' j).2; omega⟩, hfo, hwn⟩, by omega, by omega⟩
              · have k7 := h7; try simp only [decide_eq_true_eq, decide_eq_false_iff_not, Bool.not_eq_true', Bool.not_eq_false', Bool.not_true, Bool.not_false, List.length_map, Decidable.not_not] at k7
                refine s_exit ?_
                refine s_code_exit ?_
                refine s_inv_exit ?_
                refine s_blk_here ?_
                refine s_seq ?_
                refine s_region ?_
                refine o_q (q_mv ((by first | exact v_raw rfl | exact v_sptr rfl))) rfl rfl rfl ?_
                refine o_q (q_ldm ag23 sz23 rfl (by repeat first | exact Mem.upd_self _ _ _ | assumption | refine Mem.upd_ne (by assumption) ?_) rfl (v_agg rfl)) rfl rfl rfl ?_
                refine o_call (is15_other s c self (f) (wn + k) other _ (by repeat first | exact Mem.upd_self _ _ _ | assumption | refine Mem.upd_ne (by assumption) ?_) (by repeat first | exact Mem.upd_self _ _ _ | assumption | refine Mem.upd_ne (by assumption) ?_) sc (by omega) (hok') wn k rfl hh (hfo)) goes15 (ac ((by first | exact v_raw rfl | exact v_sptr rfl)) (ac (v_agg rfl) ac_nil)) rfl ?_
                refine o_q (q_mv (v_raw rfl)) rfl rfl rfl ?_
                refine o_q (q_lss rfl rfl) rfl rfl rfl ?_
                refine o_q (q_bneq und4 rfl rfl) rfl rfl rfl ?_
                refine o_q (q_mv (v_raw rfl)) rfl rfl rfl ?_
                refine o_cases (want := false) (j := 6) rfl rfl (fun h9 => ?_) (fun h9 => ?_)
                · have k9 := h9; try simp only [decide_eq_true_eq, decide_eq_false_iff_not, Bool.not_eq_true', Bool.not_eq_false', Bool.not_true, Bool.not_false, List.length_map, Decidable.not_not] at k9
                  refine o_yes rfl rfl rfl h9 ?_
                  refine o_q (q_mv ((by first | exact v_raw rfl | exact v_sptr rfl))) rfl rfl rfl ?_
                  refine o_yes rfl rfl rfl h9 ?_
                  refine o_q (q_ldm ag23 sz23 rfl (by repeat first | exact Mem.upd_self _ _ _ | assumption | refine Mem.upd_ne (by assumption) ?_) rfl (v_agg rfl)) rfl rfl rfl ?_
                  refine o_yes rfl rfl rfl h9 ?_
                  refine o_callx (hear11 s c self f (wn + k) other _ (by repeat first | exact Mem.upd_self _ _ _ | assumption | refine Mem.upd_ne (by assumption) ?_) (by repeat first | exact Mem.upd_self _ _ _ | assumption | refine Mem.upd_ne (by assumption) ?_) sc (by omega) hok') goes11 (ac ((by first | exact v_raw rfl | exact v_sptr rfl)) (ac (v_agg rfl) ac_nil)) rfl ?_
                  rw [hears]
                  rintro r M' ⟨rfl, rfl⟩
                  refine o_yes rfl rfl rfl h9 ?_
                  refine o_q (q_not rfl) rfl rfl rfl ?_
                  refine o_q (q_pick_c rfl h9 (v_raw rfl)) rfl rfl rfl ?_
                  refine o_q (q_mv (v_raw rfl)) rfl rfl rfl ?_
                  refine o_cases (want := false) (j := 12) rfl rfl (fun h10 => ?_) (fun h10 => ?_)
                  · have k10 := h10; try simp only [decide_eq_true_eq, decide_eq_false_iff_not, Bool.not_eq_true', Bool.not_eq_false', Bool.not_true, Bool.not_false, List.length_map, Decidable.not_not] at k10
                    refine o_yes rfl rfl rfl h10 ?_
                    refine o_q (q_mv ((by first | exact v_raw rfl | exact v_sptr rfl))) rfl rfl rfl ?_
                    refine o_yes rfl rfl rfl h10 ?_
                    refine o_q (q_ldm ag23 sz23 rfl (by repeat first | exact Mem.upd_self _ _ _ | assumption | refine Mem.upd_ne (by assumption) ?_) rfl (v_agg rfl)) rfl rfl rfl ?_
                    refine o_yes rfl rfl rfl h10 ?_
                    refine o_call (is15_other s c self (heardF self f (wn + k) other) (wn + k) other _ (by repeat first | exact Mem.upd_self _ _ _ | assumption | refine Mem.upd_ne (by assumption) ?_) (by repeat first | exact Mem.upd_self _ _ _ | assumption | refine Mem.upd_ne (by assumption) ?_) sc (by omega) (heardF_ok (by omega) hok') (wn + k) 0 (by omega) hh (heardF_eq self other _ f (wn + k) hh (by rw [hfo]; exact Int.le_refl _))) goes15 (ac ((by first | exact v_raw rfl | exact v_sptr rfl)) (ac (v_agg rfl) ac_nil)) rfl ?_
                    refine o_yes rfl rfl rfl h10 ?_
                    refine o_q (q_not rfl) rfl rfl rfl ?_
                    refine o_q (q_pick_c rfl h10 (v_raw rfl)) rfl rfl rfl ?_
                    refine o_nil ?_
                    refine s_cond rfl (fun h11 => ?_) (fun h11 => ?_)
                    · have k11 := h11; try simp only [decide_eq_true_eq, decide_eq_false_iff_not, Bool.not_eq_true', Bool.not_eq_false', Bool.not_true, Bool.not_false, List.length_map, Decidable.not_not] at k11
                      first | exact absurd h11 (by decide) | (simp at h11; done) | (simp at h11; omega)
                    · have k11 := h11; try simp only [decide_eq_true_eq, decide_eq_false_iff_not, Bool.not_eq_true', Bool.not_eq_false', Bool.not_true, Bool.not_false, List.length_map, Decidable.not_not] at k11
                      refine s_skip ?_
                      refine s_blk_normal ?_
                      refine s_region ?_
                      refine o_q (q_mv (v_raw rfl)) rfl rfl rfl ?_
                      refine o_q (q_add rfl rfl (wrap64 (by omega) (by omega))) rfl rfl rfl ?_
                      refine o_q (q_as (v_raw rfl)) rfl rfl rfl ?_
                      refine o_nil ?_
                      refine s_inv ?_
                      have hk7 : (k : Int) ≤ 6 := by omega
                      exact ⟨gaps.length - (i + 1), by omega, _, _, heardF self f (wn + k) other, wn + k, i + 1, St.mkT (kp (kp (kp (kp (kp (kp rfl rfl) rfl) rfl) rfl) rfl) rfl).symm, (by repeat first | exact hle | exact Mem.le_refl M | assumption | refine Mem.le_upd ?_ ?_), ⟨(by repeat first | exact Mem.upd_self _ _ _ | assumption | refine Mem.upd_ne (by assumption) ?_), (by repeat first | exact Mem.upd_self _ _ _ | assumption | refine Mem.upd_ne (by assumption) ?_), (by repeat first | exact Mem.upd_self _ _ _ | assumption | refine Mem.upd_ne (by assumption) ?_), (by repeat first | exact Mem.upd_self _ _ _ | assumption | refine Mem.upd_ne (by assumption) ?_), heardF_ok (by omega) hok', heardF_eq self other _ f (wn + k) hh (by rw [hfo]; exact Int.le_refl _), by omega⟩, by omega, by omega, rfl⟩
                  · have k10 := h10; try simp only [decide_eq_true_eq, decide_eq_false_iff_not, Bool.not_eq_true', Bool.not_eq_false', Bool.not_true, Bool.not_false, List.length_map, Decidable.not_not] at k10
                    first | exact absurd h10 (by decide) | (simp at h10; done) | (simp at h10; omega)
                · have k9 := h9; try simp only [decide_eq_true_eq, decide_eq_false_iff_not, Bool.not_eq_true', Bool.not_eq_false', Bool.not_true, Bool.not_false, List.length_map, Decidable.not_not] at k9
                  exfalso
                  have ek : (k : Int) = n.tmod 7 := by omega
                  rw [ek] at h9
                  simp at h9
            · have k5 := h5; try simp only [decide_eq_true_eq, decide_eq_false_iff_not, Bool.not_eq_true', Bool.not_eq_false', Bool.not_true, Bool.not_false, List.length_map, Decidable.not_not] at k5
              refine s_exit ?_
              refine s_code_exit ?_
              refine s_inv_exit ?_
              refine s_blk_here ?_
              refine s_inv ?_
              exact ⟨_, M', f, wn, i, St.mkT (kp (kp (kp (kp (kp (kp rfl rfl) rfl) rfl) rfl) rfl) rfl).symm, hle, ⟨bs, bc, bB, bB2, hok, hfo, hwn⟩, hni, hi⟩
          · have k4 := h4; try simp only [decide_eq_true_eq, decide_eq_false_iff_not, Bool.not_eq_true', Bool.not_eq_false', Bool.not_true, Bool.not_false, List.length_map, Decidable.not_not] at k4
            refine o_no rfl rfl rfl rfl h4 ?_
            refine o_no rfl rfl rfl rfl h4 ?_
            refine o_q (q_pick_c rfl h4 (v_raw rfl)) rfl rfl rfl ?_
            refine o_nil ?_
            refine s_else rfl rfl ?_
            refine s_exit ?_
            refine s_code_exit ?_
            refine s_inv_exit ?_
            refine s_blk_here ?_
            refine s_inv ?_
            exact ⟨_, M', f, wn, i, St.mkT (kp (kp (kp (kp (kp (kp rfl rfl) rfl) rfl) rfl) rfl) rfl).symm, hle, ⟨bs, bc, bB, bB2, hok, hfo, hwn⟩, hni, hi⟩
        rintro S ⟨T, M', f, wn, i, rfl, hle, ⟨bs, bc, bB, bB2, hok, hfo, hwn⟩, hni, hi⟩
        refine s_seq ?_
        refine s_seq ?_
        refine s_region ?_
        refine o_q (q_fr fo23_1 rfl) rfl rfl rfl ?_
        refine o_q (q_ldm ag3 sz3 rfl (by repeat first | exact Mem.upd_self _ _ _ | assumption | refine Mem.upd_ne (by assumption) ?_) rfl (v_raw rfl)) rfl rfl rfl ?_
        refine o_q (q_gtr rfl rfl) rfl rfl rfl ?_
        refine o_q (q_mv (v_raw rfl)) rfl rfl rfl ?_
        refine o_cases (want := true) (j := 3) rfl rfl (fun h12 => ?_) (fun h12 => ?_)
        · have k12 := h12; try simp only [decide_eq_true_eq, decide_eq_false_iff_not, Bool.not_eq_true', Bool.not_eq_false', Bool.not_true, Bool.not_false, List.length_map, Decidable.not_not] at k12
          refine o_yes rfl rfl rfl h12 ?_
          refine o_q (q_mv ((by first | exact v_raw rfl | exact v_sptr rfl))) rfl rfl rfl ?_
          refine o_yes rfl rfl rfl h12 ?_
          refine o_q (q_fr fo23_0 rfl) rfl rfl rfl ?_
          refine o_yes rfl rfl rfl h12 ?_
          refine o_q (q_ldm ag3 sz3 rfl (by repeat first | exact Mem.upd_self _ _ _ | assumption | refine Mem.upd_ne (by assumption) ?_) rfl (v_raw rfl)) rfl rfl rfl ?_
          refine o_yes rfl rfl rfl h12 ?_
          refine o_q (q_fr fo23_1 rfl) rfl rfl rfl ?_
          refine o_yes rfl rfl rfl h12 ?_
          refine o_q (q_ldm ag3 sz3 rfl (by repeat first | exact Mem.upd_self _ _ _ | assumption | refine Mem.upd_ne (by assumption) ?_) rfl (v_raw rfl)) rfl rfl rfl ?_
          refine o_yes rfl rfl rfl h12 ?_
          refine o_q (q_sub rfl rfl (wrap64 (by omega) (by omega))) rfl rfl rfl ?_
          refine o_yes rfl rfl rfl h12 ?_
          refine o_q (q_b (cs := [_, _]) bz23 bp23 (bf fo23_0 (e_raw rfl) rfl rfl (Nat.le_of_ble_eq_true rfl) rfl (bf fo23_1 (e_raw rfl) rfl rfl (Nat.le_of_ble_eq_true rfl) rfl bf_nil))) rfl rfl rfl ?_
          refine o_yes rfl rfl rfl h12 ?_
          refine o_callx (hear11 s c self f wn ⟨other.node, other.life - 1⟩ _ (by repeat first | exact Mem.upd_self _ _ _ | assumption | refine Mem.upd_ne (by assumption) ?_) (by repeat first | exact Mem.upd_self _ _ _ | assumption | refine Mem.upd_ne (by assumption) ?_) sc (by omega) hok) goes11 (ac ((by first | exact v_raw rfl | exact v_sptr rfl)) (ac (v_agg rfl) ac_nil)) rfl ?_
          have ee : heardF self f wn ⟨other.node, other.life - 1⟩ = f := by unfold heardF; rw [not_elder self other f wn hfo]; rfl
          rw [ee, not_elder self other f wn hfo]
          rintro r M' ⟨rfl, rfl⟩
          refine o_q (q_pick_c rfl h12 (v_raw rfl)) rfl rfl rfl ?_
          refine o_nil ?_
          refine s_cond rfl (fun h13 => ?_) (fun h13 => ?_)
          · have k13 := h13; try simp only [decide_eq_true_eq, decide_eq_false_iff_not, Bool.not_eq_true', Bool.not_eq_false', Bool.not_true, Bool.not_false, List.length_map, Decidable.not_not] at k13
            first | exact absurd h13 (by decide) | (simp at h13; done) | (simp at h13; omega)
          · have k13 := h13; try simp only [decide_eq_true_eq, decide_eq_false_iff_not, Bool.not_eq_true', Bool.not_eq_false', Bool.not_true, Bool.not_false, List.length_map, Decidable.not_not] at k13
            refine s_skip ?_
            refine s_seq ?_
            refine s_region ?_
            refine o_q (q_mv (v_raw rfl)) rfl rfl rfl ?_
            refine o_q (q_mv (v_raw rfl)) rfl rfl rfl ?_
            refine o_cases (want := true) (j := 1) rfl rfl (fun h14 => ?_) (fun h14 => ?_)
            · have k14 := h14; try simp only [decide_eq_true_eq, decide_eq_false_iff_not, Bool.not_eq_true', Bool.not_eq_false', Bool.not_true, Bool.not_false, List.length_map, Decidable.not_not] at k14
              refine o_yes rfl rfl rfl h14 ?_
              refine o_q (q_mv ((by first | exact v_raw rfl | exact v_sptr rfl))) rfl rfl rfl ?_
              refine o_yes rfl rfl rfl h14 ?_
              refine o_q (q_ldmw ag23 sz23 rfl (by repeat first | exact Mem.upd_self _ _ _ | assumption | refine Mem.upd_ne (by assumption) ?_) rfl rfl) rfl rfl rfl ?_
              refine o_yes rfl rfl rfl h14 ?_
              refine o_call (is15_self s c self f wn _ (by repeat first | exact Mem.upd_self _ _ _ | assumption | refine Mem.upd_ne (by assumption) ?_) (by repeat first | exact Mem.upd_self _ _ _ | assumption | refine Mem.upd_ne (by assumption) ?_) sc (by omega) hok) goes15 (ac ((by first | exact v_raw rfl | exact v_sptr rfl)) (ac (v_agg rfl) ac_nil)) rfl ?_
              refine o_q (q_pick_c rfl h14 (v_raw rfl)) rfl rfl rfl ?_
              refine o_q (q_mv (v_raw rfl)) rfl rfl rfl ?_
              refine o_cases (want := true) (j := 6) rfl rfl (fun h15 => ?_) (fun h15 => ?_)
              · have k15 := h15; try simp only [decide_eq_true_eq, decide_eq_false_iff_not, Bool.not_eq_true', Bool.not_eq_false', Bool.not_true, Bool.not_false, List.length_map, Decidable.not_not] at k15
                refine o_yes rfl rfl rfl h15 ?_
                refine o_q (q_mv ((by first | exact v_raw rfl | exact v_sptr rfl))) rfl rfl rfl ?_
                refine o_yes rfl rfl rfl h15 ?_
                refine o_q (q_ldmw ag23 sz23 rfl (by repeat first | exact Mem.upd_self _ _ _ | assumption | refine Mem.upd_ne (by assumption) ?_) rfl rfl) rfl rfl rfl ?_
                refine o_yes rfl rfl rfl h15 ?_
                refine o_call (is15_other s c self f wn other _ (by repeat first | exact Mem.upd_self _ _ _ | assumption | refine Mem.upd_ne (by assumption) ?_) (by repeat first | exact Mem.upd_self _ _ _ | assumption | refine Mem.upd_ne (by assumption) ?_) sc (by omega) hok wn 0 (by omega) hh hfo) goes15 (ac ((by first | exact v_raw rfl | exact v_sptr rfl)) (ac (v_agg rfl) ac_nil)) rfl ?_
                refine o_q (q_pick_c rfl h15 (v_raw rfl)) rfl rfl rfl ?_
                refine o_q (q_as (v_raw rfl)) rfl rfl rfl ?_
                refine o_nil ?_
                refine s_ret ?_
                refine s_end ?_
                exact ⟨rfl, (by repeat first | exact hle | exact Mem.le_refl M | assumption | refine Mem.le_upd ?_ ?_)⟩
              · have k15 := h15; try simp only [decide_eq_true_eq, decide_eq_false_iff_not, Bool.not_eq_true', Bool.not_eq_false', Bool.not_true, Bool.not_false, List.length_map, Decidable.not_not] at k15
                first | exact absurd h15 (by decide) | (simp at h15; done) | (simp at h15; omega)
            · have k14 := h14; try simp only [decide_eq_true_eq, decide_eq_false_iff_not, Bool.not_eq_true', Bool.not_eq_false', Bool.not_true, Bool.not_false, List.length_map, Decidable.not_not] at k14
              first | exact absurd h14 (by decide) | (simp at h14; done) | (simp at h14; omega)
        · have k12 := h12; try simp only [decide_eq_true_eq, decide_eq_false_iff_not, Bool.not_eq_true', Bool.not_eq_false', Bool.not_true, Bool.not_false, List.length_map, Decidable.not_not] at k12
          refine o_no rfl rfl rfl rfl h12 ?_
          refine o_no rfl rfl rfl rfl h12 ?_
          refine o_no rfl rfl rfl rfl h12 ?_
          refine o_no rfl rfl rfl rfl h12 ?_
          refine o_no rfl rfl rfl rfl h12 ?_
          refine o_no rfl rfl rfl rfl h12 ?_
          refine o_no rfl rfl rfl rfl h12 ?_
          refine o_no rfl rfl rfl rfl h12 ?_
          refine o_q (q_pick_c rfl h12 (v_raw rfl)) rfl rfl rfl ?_
          refine o_nil ?_
          refine s_else rfl rfl ?_
          refine s_skip ?_
          refine s_seq ?_
          refine s_region ?_
          refine o_q (q_mv (v_raw rfl)) rfl rfl rfl ?_
          refine o_q (q_mv (v_raw rfl)) rfl rfl rfl ?_
          refine o_cases (want := true) (j := 1) rfl rfl (fun h16 => ?_) (fun h16 => ?_)
          · have k16 := h16; try simp only [decide_eq_true_eq, decide_eq_false_iff_not, Bool.not_eq_true', Bool.not_eq_false', Bool.not_true, Bool.not_false, List.length_map, Decidable.not_not] at k16
            refine o_yes rfl rfl rfl h16 ?_
            refine o_q (q_mv ((by first | exact v_raw rfl | exact v_sptr rfl))) rfl rfl rfl ?_
            refine o_yes rfl rfl rfl h16 ?_
            refine o_q (q_ldmw ag23 sz23 rfl (by repeat first | exact Mem.upd_self _ _ _ | assumption | refine Mem.upd_ne (by assumption) ?_) rfl rfl) rfl rfl rfl ?_
            refine o_yes rfl rfl rfl h16 ?_
            refine o_call (is15_self s c self f wn _ (by repeat first | exact Mem.upd_self _ _ _ | assumption | refine Mem.upd_ne (by assumption) ?_) (by repeat first | exact Mem.upd_self _ _ _ | assumption | refine Mem.upd_ne (by assumption) ?_) sc (by omega) hok) goes15 (ac ((by first | exact v_raw rfl | exact v_sptr rfl)) (ac (v_agg rfl) ac_nil)) rfl ?_
            refine o_q (q_pick_c rfl h16 (v_raw rfl)) rfl rfl rfl ?_
            refine o_q (q_mv (v_raw rfl)) rfl rfl rfl ?_
            refine o_cases (want := true) (j := 6) rfl rfl (fun h17 => ?_) (fun h17 => ?_)
            · have k17 := h17; try simp only [decide_eq_true_eq, decide_eq_false_iff_not, Bool.not_eq_true', Bool.not_eq_false', Bool.not_true, Bool.not_false, List.length_map, Decidable.not_not] at k17
              refine o_yes rfl rfl rfl h17 ?_
              refine o_q (q_mv ((by first | exact v_raw rfl | exact v_sptr rfl))) rfl rfl rfl ?_
              refine o_yes rfl rfl rfl h17 ?_
              refine o_q (q_ldmw ag23 sz23 rfl (by repeat first | exact Mem.upd_self _ _ _ | assumption | refine Mem.upd_ne (by assumption) ?_) rfl rfl) rfl rfl rfl ?_
              refine o_yes rfl rfl rfl h17 ?_
              refine o_call (is15_other s c self f wn other _ (by repeat first | exact Mem.upd_self _ _ _ | assumption | refine Mem.upd_ne (by assumption) ?_) (by repeat first | exact Mem.upd_self _ _ _ | assumption | refine Mem.upd_ne (by assumption) ?_) sc (by omega) hok wn 0 (by omega) hh hfo) goes15 (ac ((by first | exact v_raw rfl | exact v_sptr rfl)) (ac (v_agg rfl) ac_nil)) rfl ?_
              refine o_q (q_pick_c rfl h17 (v_raw rfl)) rfl rfl rfl ?_
              refine o_q (q_as (v_raw rfl)) rfl rfl rfl ?_
              refine o_nil ?_
              refine s_ret ?_
              refine s_end ?_
              exact ⟨rfl, (by repeat first | exact hle | exact Mem.le_refl M | assumption | refine Mem.le_upd ?_ ?_)⟩
            · have k17 := h17; try simp only [decide_eq_true_eq, decide_eq_false_iff_not, Bool.not_eq_true', Bool.not_eq_false', Bool.not_true, Bool.not_false, List.length_map, Decidable.not_not] at k17
              first | exact absurd h17 (by decide) | (simp at h17; done) | (simp at h17; omega)
          · have k16 := h16; try simp only [decide_eq_true_eq, decide_eq_false_iff_not, Bool.not_eq_true', Bool.not_eq_false', Bool.not_true, Bool.not_false, List.length_map, Decidable.not_not] at k16
            first | exact absurd h16 (by decide) | (simp at h16; done) | (simp at h16; omega)
  · have k1 := h1; try simp only [decide_eq_true_eq, decide_eq_false_iff_not, Bool.not_eq_true', Bool.not_eq_false', Bool.not_true, Bool.not_false, List.length_map, Decidable.not_not] at k1
    first | exact absurd h1 (by decide) | (simp at h1; done) | (simp at h1; omega)

theorem plays (self : Mb) (deeds : List Dd) (o : Bool) (M : Mem) (hl : deeds.length < 2 ^ 47) : SoundCall Try.prog 3 [encM self, .sl (deeds.map encD) o] M fun r M' => r = .raw (.bool true) ∧ M' = M := by
  cases hr : right self with
  | false => exact (snd3a self deeds o M hr).det
  | true => exact (snd3b self deeds o M hr hl).det
theorem ones (self : Mb) (deeds : List Dd) (o : Bool) (M : Mem) (hl : deeds.length < 2 ^ 47) : SoundCall Try.prog 5 [encM self, .sl (deeds.map encD) o] M fun r M' => r = .raw (.bool true) ∧ M' = M := by
  cases hr : right self with
  | false => exact (snd5a self deeds o M hr).det
  | true => exact (snd5b self deeds o M hr hl).det
theorem hears (self other : Mb) (gaps : List Int) (o : Bool) (M : Mem) (hl : gaps.length < 2 ^ 47) (hgs : ∀ n ∈ gaps, -2 ^ 63 ≤ n ∧ n < 2 ^ 63) : SoundCall Try.prog 4 [encM self, encM other, .sl (gaps.map int) o] M fun r M' => r = .raw (.bool true) ∧ M' = M := by
  cases hr : right self with
  | false => exact (snd4a self other gaps o M hr).det
  | true =>
    cases hh : hearsB self (fun _ => (0, 0)) other with
    | false => exact (snd4b self other gaps o M hr hh).det
    | true => exact (snd4c self other gaps o M hr hh hl hgs).det
end C13
